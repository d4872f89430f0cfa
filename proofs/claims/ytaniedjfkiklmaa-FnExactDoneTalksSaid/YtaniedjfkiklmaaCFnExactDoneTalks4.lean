/- FnExactDoneTalks: for every input the law returns true and its arguments read afterwards as they read before. No condition. -/
import Derived.Test.YtaniedjfkiklmaaCFnExactDoneTalks3
import Derived.ChangeArms
import Derived.Deep.Slices
import Derived.ProofKit
import Derived.OpenShut
import Derived.Test.YtaniedjfkiklmaaRows
import Derived.WalkKit
import Derived.ShutString
import Derived.ChangeOld
import Derived.Below
import Derived.SizedLaws
set_option linter.unusedVariables false
namespace Go.Proofs.Ytaniedjfkiklmaa.Opn
open Go.Proofs.YtaniedjfkiklmaaW.PrintWords
def Opens {α : Type} (P : Program) (t : TypeId) (d : Kd α) (G : α → Prop) : Prop :=
  P.cellsOf t = d.sz ∧ ∀ (H : Type) (enc : TypeId × Value → H) (W : World) (base : Nat) (sp : Nat → Bool) (held : Bool) (fuel : Nat) (cs : List Value) (x : DataW H × List MemPlace),
    DataW.trod enc P W base sp held fuel t cs = some x → ∃ a, d.K W a cs ∧ G a
theorem opens_int {P : Program} {t : TypeId} {k : IntKind} (ht : P.underlying t = some (.int k)) (hc : P.cellsOf t = 1) : Opens P t (Kd.int k) (fun n => (Lit.int k n).wf = true) :=
  ⟨hc, fun H enc W base sp held fuel cs x hx => by
    obtain ⟨n, h, hx, hw⟩ := DataW.trod_int ht hx
    exact ⟨n, h, hw⟩⟩
theorem opens_slice {α : Type} {P : Program} {t e : TypeId} {d : Kd α} {G : α → Prop} (ht : P.underlying t = some (.slice e)) (hc : P.cellsOf t = 1) (he : Opens P e d G) :
    Opens P t (Kd.slice e d) (fun xs => xs.length ≤ maxLen ∧ ∀ x ∈ xs, G x) :=
  ⟨hc, fun H enc W base sp held fuel cs x hx => by
    rcases Go.Deep.open_slice ht hx with ⟨rfl, rfl⟩ | ⟨a, len, cap, m, n, D, Pl, rfl, hb, hl, hm, hmm, rfl, hel⟩
    · refine ⟨[], ⟨none, 0, rfl, Nat.le_refl _, rfl, by simp, ?_⟩, by simp, by simp⟩
      intro h; exact absurd h (by simp)
    · have hle : len ≤ m := by rw [hmm]; split <;> omega
      have key : ∀ i, i < len → ∃ p : α, ∃ c : List Value, c.length = d.sz ∧ d.K W p c ∧ G p ∧ ∀ j u, c[j]? = some u → W.cell? (a.add (i * d.sz + j)) = some u := by
        intro i hi
        obtain ⟨c, h1, h2⟩ := hel i (by omega)
        obtain ⟨p, h3, h4⟩ := he.2 H enc W base sp held n c _ h2
        obtain ⟨_, h5, h6⟩ := World.cells?_some h1
        rw [he.1] at h5 h6
        refine ⟨p, c, h5, h3, h4, fun j u hj => ?_⟩
        have hjl : j < d.sz := by
          have := (List.getElem?_eq_some_iff.1 hj).1
          omega
        rw [← Go.Deep.add_add, h6 j hjl, hj]
      have ex : ∃ ps : List α, ps.length = len ∧ ∀ i p, ps[i]? = some p → ∃ c : List Value, c.length = d.sz ∧ d.K W p c ∧ G p ∧ ∀ j u, c[j]? = some u → W.cell? (a.add (i * d.sz + j)) = some u := by
        clear hel hmm hle hl hm hx
        induction len with
        | zero => exact ⟨[], rfl, fun i p h => by simp at h⟩
        | succ k ih =>
          obtain ⟨ps, h1, h2⟩ := ih (fun i hi => key i (by omega))
          obtain ⟨p, hp⟩ := key k (by omega)
          refine ⟨ps ++ [p], by simp [h1], fun i q h => ?_⟩
          by_cases hi : i < ps.length
          · rw [List.getElem?_append_left hi] at h
            exact h2 i q h
          · rw [List.getElem?_append_right (by omega)] at h
            have hi0 : i - ps.length = 0 := by
              have := (List.getElem?_eq_some_iff.1 h).1
              simp at this
              omega
            rw [hi0] at h
            simp at h
            subst h
            have : i = k := by omega
            subst this
            exact hp
      obtain ⟨ps, h1, h2⟩ := ex
      subst h1
      refine ⟨ps, ⟨some a, cap, rfl, hl, rfl, by simp only [maxLen] at hm; omega, fun _ => ⟨a, rfl, fun j p hj => ?_⟩⟩, by omega, fun x hx' => ?_⟩
      · obtain ⟨c, g1, g2, g3, g4⟩ := h2 j p hj
        exact ⟨c, g1, g2, g4⟩
      · obtain ⟨i, hi⟩ := List.getElem?_of_mem hx'
        obtain ⟨c, g1, g2, g3, g4⟩ := h2 i x hi
        exact g3⟩
def OpensAt {α : Type} (P : Program) (fs : List Field) (off : Nat) (d : Kd α) (G : α → Prop) : Prop :=
  ∀ (H : Type) (enc : TypeId × Value → H) (W : World) (base : Nat) (sp : Nat → Bool) (held : Bool) (n : Nat) (cs : List Value),
    cs.length = off + d.sz → (∀ f ∈ fs, ∃ y, DataW.trod enc P W base sp held n f.type ((cs.drop f.offset).take (P.cellsOf f.type)) = some y) → ∃ a, d.K W a (cs.drop off) ∧ G a
theorem at_last {α : Type} {P : Program} {f : Field} {off : Nat} {T : TypeId} {d : Kd α} {G : α → Prop} (hf : f.offset = off) (hT : f.type = T) (h : Opens P T d G) : OpensAt P [f] off d G :=
  fun H enc W base sp held n cs hl hfs => by
    subst hT
    obtain ⟨y, hy⟩ := hfs f (List.mem_singleton.2 rfl)
    rw [hf, h.1, List.take_of_length_le (by rw [List.length_drop]; omega)] at hy
    exact h.2 H enc W base sp held n _ _ hy
theorem at_cons {α β : Type} {P : Program} {f : Field} {fs : List Field} {off : Nat} {T : TypeId} {d : Kd α} {d2 : Kd β} {G : α → Prop} {G2 : β → Prop} (hf : f.offset = off) (hT : f.type = T) (h : Opens P T d G) (h2 : OpensAt P fs (off + d.sz) d2 G2) :
    OpensAt P (f :: fs) off (Kd.pair d d2) (fun x => G x.1 ∧ G2 x.2) :=
  fun H enc W base sp held n cs hl hfs => by
    subst hT
    obtain ⟨y, hy⟩ := hfs f (List.mem_cons_self)
    have hl' : cs.length = off + (d.sz + d2.sz) := hl
    rw [hf, h.1] at hy
    obtain ⟨a, k1, g1⟩ := h.2 H enc W base sp held n _ _ hy
    obtain ⟨b, k2, g2⟩ := h2 H enc W base sp held n cs (by omega) (fun f' hf' => hfs f' (List.mem_cons_of_mem _ hf'))
    refine ⟨(a, b), ⟨_, _, ?_, k1, k2⟩, g1, g2⟩
    rw [← List.drop_drop, List.take_append_drop]
theorem opens_struct {α β : Type} {P : Program} {t : TypeId} {fs : List Field} {d : Kd α} {G : α → Prop} (f : β → α) (g : α → β) (hfg : ∀ x, f (g x) = x) (ht : P.underlying t = some (.struct fs.toArray)) (hc : P.cellsOf t = d.sz) (h : OpensAt P fs 0 d G) :
    Opens P t (Kd.iso d f) (fun x => G (f x)) :=
  ⟨hc, fun H enc W base sp held fuel cs x hx => by
    obtain ⟨xs, n, _, _, hl, hlen, hf⟩ := DataW.trod_struct ht hx
    obtain ⟨a, k, g1⟩ := h H enc W base sp held n cs (by rw [hl, hc]; omega) (fun f' hf' => by
      obtain ⟨i, hi⟩ := List.getElem?_of_mem hf'
      have hi' : fs.toArray[i]? = some f' := by simpa using hi
      have hil : i < xs.length := by
        have := (List.getElem?_eq_some_iff.1 hi).1
        have h2 : xs.length = fs.length := by simpa using hlen
        omega
      have := hf i f' hi'
      rw [List.getElem?_eq_getElem hil] at this
      exact ⟨_, this⟩)
    refine ⟨g a, ?_, ?_⟩
    · show d.K W (f (g a)) cs
      rw [hfg]; simpa using k
    · show G (f (g a))
      rw [hfg]; exact g1⟩
theorem arg_struct {α : Type} {P : Program} {W : World} {r : Reach} {b0 : Nat} {t : TypeId} {fs : Array Field} {d : Kd α} {G : α → Prop} {H : Type} {enc : TypeId × Value → H} {base : Nat} {sp : Nat → Bool} {held : Bool} {v : Value} {x : DataW H} {ps : List MemPlace}
    (ht : P.underlying t = some (.struct fs)) (ho : Opens P t d G) (hv : Value.okWide P W r b0 t v) (h : DataW.Trod enc P W base sp held t v x ps) :
    ∃ (a : α) (cs : List Value), v = .agg cs.toArray ∧ d.K W a cs ∧ G a := by
  obtain ⟨cs, rfl, hsz⟩ := Go.WideShapes.okWide_struct ht hv
  obtain ⟨fuel, hf⟩ := h
  obtain ⟨a, k, g⟩ := ho.2 H enc W base sp held fuel _ _ hf
  exact ⟨a, cs.toList, by simp, by simpa [Value.cells] using k, g⟩
end Go.Proofs.Ytaniedjfkiklmaa.Opn
namespace Go.Proofs.Ytaniedjfkiklmaa.Pure
open Go.RowKit Go.Proofs.Ytaniedjfkiklmaa.G Go.Proofs.YtaniedjfkiklmaaW.PrintWords Go.Proofs.YtaniedjfkiklmaaW.PrintLast
def laws_FnExactDoneTalks.Pure : Prop := ∀ (x0 : Int × Int × List S77), (fun (x : Int × Int × (List S77)) => (fun n => (Lit.int .i64 n).wf = true) x.1 ∧ (fun (x : Int × (List S77)) => (fun n => (Lit.int .i64 n).wf = true) x.1 ∧ (fun (xs : List S77) => xs.length ≤ maxLen ∧ ∀ x ∈ xs, (fun (x : S77) => (fun (x : Int × Int × Int × Int × Int × Int × Int × Int × Int × Int × Int × S74 × Int × Int × Int × S75) => (fun n => (Lit.int .i64 n).wf = true) x.1 ∧ (fun (x : Int × Int × Int × Int × Int × Int × Int × Int × Int × Int × S74 × Int × Int × Int × S75) => (fun n => (Lit.int .i64 n).wf = true) x.1 ∧ (fun (x : Int × Int × Int × Int × Int × Int × Int × Int × Int × S74 × Int × Int × Int × S75) => (fun n => (Lit.int .i64 n).wf = true) x.1 ∧ (fun (x : Int × Int × Int × Int × Int × Int × Int × Int × S74 × Int × Int × Int × S75) => (fun n => (Lit.int .i64 n).wf = true) x.1 ∧ (fun (x : Int × Int × Int × Int × Int × Int × Int × S74 × Int × Int × Int × S75) => (fun n => (Lit.int .i64 n).wf = true) x.1 ∧ (fun (x : Int × Int × Int × Int × Int × Int × S74 × Int × Int × Int × S75) => (fun n => (Lit.int .i64 n).wf = true) x.1 ∧ (fun (x : Int × Int × Int × Int × Int × S74 × Int × Int × Int × S75) => (fun n => (Lit.int .i64 n).wf = true) x.1 ∧ (fun (x : Int × Int × Int × Int × S74 × Int × Int × Int × S75) => (fun n => (Lit.int .i64 n).wf = true) x.1 ∧ (fun (x : Int × Int × Int × S74 × Int × Int × Int × S75) => (fun n => (Lit.int .i64 n).wf = true) x.1 ∧ (fun (x : Int × Int × S74 × Int × Int × Int × S75) => (fun n => (Lit.int .i64 n).wf = true) x.1 ∧ (fun (x : Int × S74 × Int × Int × Int × S75) => (fun n => (Lit.int .i64 n).wf = true) x.1 ∧ (fun (x : S74 × Int × Int × Int × S75) => (fun (x : S74) => (fun (x : Int × Int × Int × Int) => (fun n => (Lit.int .i64 n).wf = true) x.1 ∧ (fun (x : Int × Int × Int) => (fun n => (Lit.int .i64 n).wf = true) x.1 ∧ (fun (x : Int × Int) => (fun n => (Lit.int .i64 n).wf = true) x.1 ∧ (fun n => (Lit.int .i64 n).wf = true) x.2) x.2) x.2) (x.f0, x.f1, x.f2, x.f3)) x.1 ∧ (fun (x : Int × Int × Int × S75) => (fun n => (Lit.int .i64 n).wf = true) x.1 ∧ (fun (x : Int × Int × S75) => (fun n => (Lit.int .i64 n).wf = true) x.1 ∧ (fun (x : Int × S75) => (fun n => (Lit.int .i64 n).wf = true) x.1 ∧ (fun (x : S75) => (fun (x : Int × Int) => (fun n => (Lit.int .i64 n).wf = true) x.1 ∧ (fun n => (Lit.int .i64 n).wf = true) x.2) (x.f0, x.f1)) x.2) x.2) x.2) x.2) x.2) x.2) x.2) x.2) x.2) x.2) x.2) x.2) x.2) x.2) x.2) (x.f0, x.f1, x.f2, x.f3, x.f4, x.f5, x.f6, x.f7, x.f8, x.f9, x.f10, x.f11, x.f12, x.f13, x.f14, x.f15)) x) x.2) x.2) x0 → ∃ k, laws_FnExactDoneTalks.f k (x0.1) (x0.2.1) (x0.2.2) = some true
end Go.Proofs.Ytaniedjfkiklmaa.Pure
set_option linter.unusedVariables false
set_option linter.unusedSimpArgs false
namespace Go.Proofs.Ytaniedjfkiklmaa.Pure
open Go.RowKit Go.Proofs.Ytaniedjfkiklmaa.G Go.Proofs.YtaniedjfkiklmaaW.PrintWords Go.Proofs.YtaniedjfkiklmaaW.PrintLast Go.Proofs.YtaniedjfkiklmaaW.PrintMore
theorem ev_succ {α : Type} {g : Nat → Option α} {r : α} (h : Ev (fun k => g (k + 1)) r) : Ev g r := by
  obtain ⟨K, hK⟩ := h
  refine ⟨K + 1, fun k hk => ?_⟩
  obtain ⟨m, rfl⟩ : ∃ m, k = m + 1 := ⟨k - 1, by omega⟩
  exact hK m (by omega)
theorem w64' {n : Int} (h0 : -9223372036854775808 ≤ n) (h1 : n ≤ 9223372036854775807) : wrap64 n = n := by unfold wrap64; omega
theorem rd_nat (l : List Int) (i : Nat) : rd l (i : Int) = l.getD i 0 := by simp [rd]
theorem set_split {α : Type} (pre rest : List α) (x y : α) : (pre ++ x :: rest).set pre.length y = pre ++ y :: rest := by
  simp
theorem eqInt64S_l0 (l : List Int) (hl : l.length ≤ 9223372036854775807) (d : Nat) : ∀ (k i : Nat), i + d = l.length → d < k → laws_eqInt64S.l0 k l l i = some true := by
  induction d with
  | zero =>
    intro k i hi hk
    obtain ⟨k, rfl⟩ : ∃ m, k = m + 1 := ⟨k - 1, by omega⟩
    simp only [laws_eqInt64S.l0]; rw [if_neg (by omega)]
  | succ d ih =>
    intro k i hi hk
    obtain ⟨k, rfl⟩ : ∃ m, k = m + 1 := ⟨k - 1, by omega⟩
    simp only [laws_eqInt64S.l0]
    rw [if_pos (by omega), if_pos (by omega), if_pos (by omega), if_pos trivial, w64' (by omega) (by omega)]
    have := ih k (i + 1) (by omega) (by omega)
    simpa using this
theorem eqInt64S_ev (l : List Int) (hl : l.length ≤ 9223372036854775807) : Ev (fun k => laws_eqInt64S.f k l l) true := by
  refine ⟨l.length + 1, fun k hk => ?_⟩
  simp only [laws_eqInt64S.f, if_true]
  have := eqInt64S_l0 l hl l.length k 0 (by omega) (by omega)
  simpa using this
theorem eqIntsResult_ev (c : Int) (l : List Int) (hl : l.length ≤ 9223372036854775807) : Ev (fun k => laws_eqIntsResult.f k c l c l) true := by
  unfold laws_eqIntsResult.f
  simp only [if_true]
  refine Ev.bind (eqInt64S_ev l hl) ?_
  simp only [if_true]; exact Ev.now _
def marks (m : Int) (n : Nat) : List Int := (List.range n).map fun (i : Nat) => m + (i : Int)
theorem marks_length (m : Int) (n : Nat) : (marks m n).length = n := by simp [marks]
theorem marks_succ (m : Int) (n : Nat) : marks m (n + 1) = marks m n ++ [m + n] := by simp [marks, List.range_succ]
theorem markInt64S_l0 (l : List Int) (m : Int) (hm : 0 ≤ m) (hl : m + l.length ≤ 9223372036854775806) (d : Nat) : ∀ (k i : Nat), i + d = l.length → d < k →
    laws_markInt64S.l0 k (marks m i ++ l.drop i) (m + i) i = some (m + l.length, marks m l.length) := by
  induction d with
  | zero =>
    intro k i hi hk
    obtain ⟨k, rfl⟩ : ∃ m, k = m + 1 := ⟨k - 1, by omega⟩
    obtain rfl : i = l.length := by omega
    simp only [laws_markInt64S.l0]; rw [if_neg (by simp [marks_length])]
    simp
  | succ d ih =>
    intro k i hi hk
    obtain ⟨k, rfl⟩ : ∃ m, k = m + 1 := ⟨k - 1, by omega⟩
    simp only [laws_markInt64S.l0]
    have hlen : (marks m i ++ l.drop i).length = l.length := by simp [marks_length]; omega
    rw [if_pos (by rw [hlen]; omega), if_pos (by omega), w64' (n := m + i + 1) (by omega) (by omega), w64' (n := (i : Int) + 1) (by omega) (by omega)]
    have e : (marks m i ++ l.drop i).set ((i : Int)).toNat (m + i) = marks m (i + 1) ++ l.drop (i + 1) := by
      rw [List.drop_eq_getElem_cons (show i < l.length by omega), marks_succ]
      have := set_split (marks m i) (l.drop (i + 1)) l[i] (m + i)
      rw [marks_length] at this
      simp only [Int.toNat_natCast]
      rw [this]; simp
    rw [e]
    have := ih k (i + 1) (by omega) (by omega)
    simpa [Int.add_assoc] using this
theorem markInt64S_ev (l : List Int) (m : Int) (hm : 0 ≤ m) (hl : m + l.length ≤ 9223372036854775806) : Ev (fun k => laws_markInt64S.f k l m) (m + l.length, marks m l.length) := by
  refine ⟨l.length + 1, fun k hk => ?_⟩
  unfold laws_markInt64S.f
  have := markInt64S_l0 l m hm hl l.length k 0 (by omega) (by omega)
  simpa [marks] using this
theorem heldInt64S_l0 (n : Nat) (m : Int) (hm : 0 ≤ m) (hl : m + n ≤ 9223372036854775806) (d : Nat) : ∀ (k i : Nat), i + d = n → d < k →
    laws_heldInt64S.l0 k (marks m n) (m + i) i = some (m + n) := by
  induction d with
  | zero =>
    intro k i hi hk
    obtain ⟨k, rfl⟩ : ∃ m, k = m + 1 := ⟨k - 1, by omega⟩
    obtain rfl : i = n := by omega
    simp only [laws_heldInt64S.l0]; rw [if_neg (by simp [marks_length])]
  | succ d ih =>
    intro k i hi hk
    obtain ⟨k, rfl⟩ : ∃ m, k = m + 1 := ⟨k - 1, by omega⟩
    simp only [laws_heldInt64S.l0]
    have e : rd (marks m n) (i : Int) = m + i := by
      rw [rd_nat]
      simp [marks, List.getD, List.getElem?_map, List.getElem?_range (show i < n by omega)]
    rw [if_pos (by rw [marks_length]; omega), if_pos (by omega), if_pos e, w64' (n := m + i + 1) (by omega) (by omega), w64' (n := (i : Int) + 1) (by omega) (by omega)]
    have := ih k (i + 1) (by omega) (by omega)
    simpa [Int.add_assoc] using this
theorem heldInt64S_ev (n : Nat) (m : Int) (hm : 0 ≤ m) (hl : m + n ≤ 9223372036854775806) : Ev (fun k => laws_heldInt64S.f k (marks m n) m) (m + n) := by
  refine ⟨n + 1, fun k hk => ?_⟩
  unfold laws_heldInt64S.f
  have := heldInt64S_l0 n m hm hl n k 0 (by omega) (by omega)
  simpa using this
theorem markIntsResult_ev (c : Int) (l : List Int) (m : Int) (hm : 0 ≤ m) (hl : m + l.length ≤ 9223372036854775806) : Ev (fun k => laws_markIntsResult.f k c l m) (m + l.length, marks m l.length) := by
  unfold laws_markIntsResult.f
  exact Ev.bind (markInt64S_ev l m hm hl) (Ev.now _)
theorem heldIntsResult_ev (c : Int) (n : Nat) (m : Int) (hm : 0 ≤ m) (hl : m + n ≤ 9223372036854775806) : Ev (fun k => laws_heldIntsResult.f k c (marks m n) m) (m + n) := by
  unfold laws_heldIntsResult.f
  refine Ev.bind (heldInt64S_ev n m hm hl) ?_
  rw [if_neg (by omega)]; exact Ev.now _
def toTk (x : S77) : S58 := ⟨x.f0, x.f1, x.f2, x.f3, x.f4, x.f5, x.f6, x.f7, x.f8, x.f9, x.f10, ⟨x.f11.f0, x.f11.f1, x.f11.f2, x.f11.f3⟩, x.f12, x.f13, x.f14, ⟨x.f15.f0, x.f15.f1⟩⟩
theorem toTalkS_l0 (l : List S77) (hl : l.length ≤ 9223372036854775807) (z : S58) (d : Nat) : ∀ (k i : Nat), i + d = l.length → d < k →
    laws_toTalkS.l0 k l ((l.map toTk).take i ++ List.replicate d z) i = some (l.map toTk) := by
  induction d with
  | zero =>
    intro k i hi hk
    obtain ⟨k, rfl⟩ : ∃ m, k = m + 1 := ⟨k - 1, by omega⟩
    simp only [laws_toTalkS.l0]; rw [if_neg (by omega)]
    simp [List.take_of_length_le (show (l.map toTk).length ≤ i by simp; omega)]
  | succ d ih =>
    intro k i hi hk
    obtain ⟨k, rfl⟩ : ∃ m, k = m + 1 := ⟨k - 1, by omega⟩
    simp only [laws_toTalkS.l0, laws_toTalk.f, laws_toKeys.f, laws_toWindow.f, Option.bind_some]
    rw [if_pos (by omega), if_pos (by omega), if_pos (by simp; omega), w64' (by omega) (by omega)]
    have e : ((l.map toTk).take i ++ List.replicate (d + 1) z).set ((i : Int)).toNat (toTk (rd_T77 l i)) = (l.map toTk).take (i + 1) ++ List.replicate d z := by
      rw [List.replicate_succ]
      have h1 : ((l.map toTk).take i).length = i := by simp; omega
      have := set_split ((l.map toTk).take i) (List.replicate d z) z (toTk (rd_T77 l i))
      rw [h1] at this
      simp only [Int.toNat_natCast]
      have hg : toTk (rd_T77 l i) = (l.map toTk)[i]'(by simp; omega) := by simp [rd_T77, List.getD, List.getElem?_eq_getElem (show i < l.length by omega)]
      rw [List.take_succ_eq_append_getElem (by simp; omega), ← hg, List.append_assoc]
      exact this
    refine (congrArg (fun t => laws_toTalkS.l0 k l t ((i : Int) + 1)) e).trans ?_
    have := ih k (i + 1) (by omega) (by omega)
    simpa using this
theorem toTalkS_ev (l : List S77) (hl : l.length ≤ 1759218604441) : Ev (fun k => laws_toTalkS.f k l) (l.map toTk) := by
  refine ⟨l.length + 1, fun k hk => ?_⟩
  simp only [laws_toTalkS.f]
  rw [if_pos (by omega), if_pos (by simp; omega)]
  have := toTalkS_l0 l (by omega) z58 l.length k 0 (by omega) (by omega)
  simpa using this
theorem eqTalk_same (x : S58) : laws_eqTalk.f x.f0 x.f1 x.f2 x.f3 x.f4 x.f5 x.f6 x.f7 x.f8 x.f9 x.f10 x.f11.f0 x.f11.f1 x.f11.f2 x.f11.f3 x.f12 x.f13 x.f14 x.f15.f0 x.f15.f1 x.f0 x.f1 x.f2 x.f3 x.f4 x.f5 x.f6 x.f7 x.f8 x.f9 x.f10 x.f11.f0 x.f11.f1 x.f11.f2 x.f11.f3 x.f12 x.f13 x.f14 x.f15.f0 x.f15.f1 = some true := by
  unfold laws_eqTalk.f laws_eqKeys.f laws_eqWindow.f
  simp only [if_true, Option.bind_some]
theorem eqTalkS_l0 (l : List S58) (hl : l.length ≤ 9223372036854775807) (d : Nat) : ∀ (k i : Nat), i + d = l.length → d < k → laws_eqTalkS.l0 k l l i = some true := by
  induction d with
  | zero =>
    intro k i hi hk
    obtain ⟨k, rfl⟩ : ∃ m, k = m + 1 := ⟨k - 1, by omega⟩
    simp only [laws_eqTalkS.l0]; rw [if_neg (by omega)]
  | succ d ih =>
    intro k i hi hk
    obtain ⟨k, rfl⟩ : ∃ m, k = m + 1 := ⟨k - 1, by omega⟩
    simp only [laws_eqTalkS.l0, eqTalk_same, if_true, Option.bind_some]
    rw [if_pos (by omega), if_pos (by omega), if_pos (by omega), w64' (by omega) (by omega)]
    have := ih k (i + 1) (by omega) (by omega)
    simpa using this
theorem eqTalkS_ev (l : List S58) (hl : l.length ≤ 9223372036854775807) : Ev (fun k => laws_eqTalkS.f k l l) true := by
  refine ⟨l.length + 1, fun k hk => ?_⟩
  simp only [laws_eqTalkS.f, if_true]
  have := eqTalkS_l0 l hl l.length k 0 (by omega) (by omega)
  simpa using this
theorem bind_len {α : Type} {l : List α} {i n : Nat} {v : α} {f : List α → Option (Int × List α)} {c : Int} (hl : l.length = n) (h : ∀ y : List α, y.length = n → ∃ l', f y = some (c, l') ∧ l'.length = n) : ∃ l', (some (l.set i v)).bind f = some (c, l') ∧ l'.length = n :=
  h (l.set i v) (by simp [hl])
theorem markTalkS_l0 (d : Nat) : ∀ (k i : Nat) (l : List S58) (m : Int), i + d = l.length → d < k → 0 ≤ m → m + 20 * d ≤ 9223372036854775000 → l.length ≤ 9223372036854775000 → ∃ l', laws_markTalkS.l0 k l m i = some (m + 20 * d, l') ∧ l'.length = l.length := by
  induction d with
  | zero =>
    intro k i l m hi hk hm hb hl
    obtain ⟨k, rfl⟩ : ∃ m, k = m + 1 := ⟨k - 1, by omega⟩
    refine ⟨l, ?_, rfl⟩
    rw [laws_markTalkS.l0, if_neg (by omega)]
    simp
  | succ d ih =>
    intro k i l m hi hk hm hb hl
    obtain ⟨k, rfl⟩ : ∃ m, k = m + 1 := ⟨k - 1, by omega⟩
    rw [laws_markTalkS.l0, if_pos (by omega), if_pos (by omega)]
    rw [show wrap64 (m + 1) = m + 1 from w64' (by omega) (by omega)]
    rw [show wrap64 (m + 1 + 1) = m + 1 + 1 from w64' (by omega) (by omega)]
    rw [show wrap64 (m + 1 + 1 + 1) = m + 1 + 1 + 1 from w64' (by omega) (by omega)]
    rw [show wrap64 (m + 1 + 1 + 1 + 1) = m + 1 + 1 + 1 + 1 from w64' (by omega) (by omega)]
    rw [show wrap64 (m + 1 + 1 + 1 + 1 + 1) = m + 1 + 1 + 1 + 1 + 1 from w64' (by omega) (by omega)]
    rw [show wrap64 (m + 1 + 1 + 1 + 1 + 1 + 1) = m + 1 + 1 + 1 + 1 + 1 + 1 from w64' (by omega) (by omega)]
    rw [show wrap64 (m + 1 + 1 + 1 + 1 + 1 + 1 + 1) = m + 1 + 1 + 1 + 1 + 1 + 1 + 1 from w64' (by omega) (by omega)]
    rw [show wrap64 (m + 1 + 1 + 1 + 1 + 1 + 1 + 1 + 1) = m + 1 + 1 + 1 + 1 + 1 + 1 + 1 + 1 from w64' (by omega) (by omega)]
    rw [show wrap64 (m + 1 + 1 + 1 + 1 + 1 + 1 + 1 + 1 + 1) = m + 1 + 1 + 1 + 1 + 1 + 1 + 1 + 1 + 1 from w64' (by omega) (by omega)]
    rw [show wrap64 (m + 1 + 1 + 1 + 1 + 1 + 1 + 1 + 1 + 1 + 1) = m + 1 + 1 + 1 + 1 + 1 + 1 + 1 + 1 + 1 + 1 from w64' (by omega) (by omega)]
    rw [show wrap64 (m + 1 + 1 + 1 + 1 + 1 + 1 + 1 + 1 + 1 + 1 + 1) = m + 1 + 1 + 1 + 1 + 1 + 1 + 1 + 1 + 1 + 1 + 1 from w64' (by omega) (by omega)]
    rw [show wrap64 (m + 1 + 1 + 1 + 1 + 1 + 1 + 1 + 1 + 1 + 1 + 1 + 1) = m + 1 + 1 + 1 + 1 + 1 + 1 + 1 + 1 + 1 + 1 + 1 + 1 from w64' (by omega) (by omega)]
    rw [show wrap64 (m + 1 + 1 + 1 + 1 + 1 + 1 + 1 + 1 + 1 + 1 + 1 + 1 + 1) = m + 1 + 1 + 1 + 1 + 1 + 1 + 1 + 1 + 1 + 1 + 1 + 1 + 1 from w64' (by omega) (by omega)]
    rw [show wrap64 (m + 1 + 1 + 1 + 1 + 1 + 1 + 1 + 1 + 1 + 1 + 1 + 1 + 1 + 1) = m + 1 + 1 + 1 + 1 + 1 + 1 + 1 + 1 + 1 + 1 + 1 + 1 + 1 + 1 from w64' (by omega) (by omega)]
    rw [show wrap64 (m + 1 + 1 + 1 + 1 + 1 + 1 + 1 + 1 + 1 + 1 + 1 + 1 + 1 + 1 + 1) = m + 1 + 1 + 1 + 1 + 1 + 1 + 1 + 1 + 1 + 1 + 1 + 1 + 1 + 1 + 1 from w64' (by omega) (by omega)]
    rw [show wrap64 (m + 1 + 1 + 1 + 1 + 1 + 1 + 1 + 1 + 1 + 1 + 1 + 1 + 1 + 1 + 1 + 1) = m + 1 + 1 + 1 + 1 + 1 + 1 + 1 + 1 + 1 + 1 + 1 + 1 + 1 + 1 + 1 + 1 from w64' (by omega) (by omega)]
    rw [show wrap64 (m + 1 + 1 + 1 + 1 + 1 + 1 + 1 + 1 + 1 + 1 + 1 + 1 + 1 + 1 + 1 + 1 + 1) = m + 1 + 1 + 1 + 1 + 1 + 1 + 1 + 1 + 1 + 1 + 1 + 1 + 1 + 1 + 1 + 1 + 1 from w64' (by omega) (by omega)]
    rw [show wrap64 (m + 1 + 1 + 1 + 1 + 1 + 1 + 1 + 1 + 1 + 1 + 1 + 1 + 1 + 1 + 1 + 1 + 1 + 1) = m + 1 + 1 + 1 + 1 + 1 + 1 + 1 + 1 + 1 + 1 + 1 + 1 + 1 + 1 + 1 + 1 + 1 + 1 from w64' (by omega) (by omega)]
    rw [show wrap64 (m + 1 + 1 + 1 + 1 + 1 + 1 + 1 + 1 + 1 + 1 + 1 + 1 + 1 + 1 + 1 + 1 + 1 + 1 + 1) = m + 1 + 1 + 1 + 1 + 1 + 1 + 1 + 1 + 1 + 1 + 1 + 1 + 1 + 1 + 1 + 1 + 1 + 1 + 1 from w64' (by omega) (by omega)]
    rw [show wrap64 (m + 1 + 1 + 1 + 1 + 1 + 1 + 1 + 1 + 1 + 1 + 1 + 1 + 1 + 1 + 1 + 1 + 1 + 1 + 1 + 1) = m + 1 + 1 + 1 + 1 + 1 + 1 + 1 + 1 + 1 + 1 + 1 + 1 + 1 + 1 + 1 + 1 + 1 + 1 + 1 + 1 from w64' (by omega) (by omega)]
    rw [show wrap64 ((i : Int) + 1) = ((i + 1 : Nat) : Int) by rw [w64' (by omega) (by omega)]; omega]
    rw [show m + 20 * ((d + 1 : Nat) : Int) = (m + 1 + 1 + 1 + 1 + 1 + 1 + 1 + 1 + 1 + 1 + 1 + 1 + 1 + 1 + 1 + 1 + 1 + 1 + 1 + 1) + 20 * (d : Int) by omega]
    have q1 : i + 1 + d = l.length := by omega
    have q2 : d < k := by omega
    have q3 : 0 ≤ (m + 1 + 1 + 1 + 1 + 1 + 1 + 1 + 1 + 1 + 1 + 1 + 1 + 1 + 1 + 1 + 1 + 1 + 1 + 1 + 1) := by omega
    have q4 : (m + 1 + 1 + 1 + 1 + 1 + 1 + 1 + 1 + 1 + 1 + 1 + 1 + 1 + 1 + 1 + 1 + 1 + 1 + 1 + 1) + 20 * (d : Int) ≤ 9223372036854775000 := by omega
    refine bind_len rfl (fun y h0 => ?_)
    refine bind_len h0 (fun y h1 => ?_)
    refine bind_len h1 (fun y h2 => ?_)
    refine bind_len h2 (fun y h3 => ?_)
    refine bind_len h3 (fun y h4 => ?_)
    refine bind_len h4 (fun y h5 => ?_)
    refine bind_len h5 (fun y h6 => ?_)
    refine bind_len h6 (fun y h7 => ?_)
    refine bind_len h7 (fun y h8 => ?_)
    refine bind_len h8 (fun y h9 => ?_)
    refine bind_len h9 (fun y h10 => ?_)
    refine bind_len h10 (fun y h11 => ?_)
    refine bind_len h11 (fun y h12 => ?_)
    refine bind_len h12 (fun y h13 => ?_)
    refine bind_len h13 (fun y h14 => ?_)
    refine bind_len h14 (fun y h15 => ?_)
    refine bind_len h15 (fun y h16 => ?_)
    refine bind_len h16 (fun y h17 => ?_)
    refine bind_len h17 (fun y h18 => ?_)
    generalize hY : y.set ((i : Int)).toNat _ = Y
    have hl2 : Y.length = l.length := by rw [← hY, List.length_set, h18]
    clear hY
    obtain ⟨l', e1, e2⟩ := ih k (i + 1) Y (m + 1 + 1 + 1 + 1 + 1 + 1 + 1 + 1 + 1 + 1 + 1 + 1 + 1 + 1 + 1 + 1 + 1 + 1 + 1 + 1) (by rw [hl2]; exact q1) q2 q3 q4 (by rw [hl2]; exact hl)
    exact ⟨l', e1, e2.trans hl2⟩
theorem markTalkS_ev (l : List S58) (m : Int) (hm : 0 ≤ m) (hl : m + 20 * l.length ≤ 9223372036854775000) : ∃ l', Ev (fun k => laws_markTalkS.f k l m) (m + 20 * l.length, l') := by
  obtain ⟨l', h, _⟩ := markTalkS_l0 l.length (l.length + 1) 0 l m (by omega) (by omega) hm (by omega) (by omega)
  refine ⟨l', l.length + 1, fun k hk => ?_⟩
  obtain ⟨l2, h2, _⟩ := markTalkS_l0 l.length k 0 l m (by omega) (by omega) hm (by omega) (by omega)
  unfold laws_markTalkS.f
  have e : l2 = l' := by
    have hmono : ∀ j, laws_markTalkS.l0 (l.length + 1 + j) l m ((0 : Nat) : Int) = some (m + 20 * l.length, l') := fun j => by
      induction j with
      | zero => exact h
      | succ j ih => exact laws_markTalkS.mono_l _ _ _ _ _ ih
    have := hmono (k - (l.length + 1))
    rw [show l.length + 1 + (k - (l.length + 1)) = k by omega, h2] at this
    simpa using this
  subst e
  exact h2
end Go.Proofs.Ytaniedjfkiklmaa.Pure
set_option linter.unusedVariables false
set_option linter.unusedSimpArgs false
namespace Go.Proofs.Ytaniedjfkiklmaa.Pure
open Go.RowKit Go.Proofs.Ytaniedjfkiklmaa.G Go.Proofs.YtaniedjfkiklmaaW.PrintWords Go.Proofs.YtaniedjfkiklmaaW.PrintLast
def dnT (l : List S58) : Nat → Nat → List Int → List Int
  | _, 0, acc => acc
  | i, m + 1, acc => dnT l (i + 1) m (if (rd_T58 l (i : Int)).f2 = 3 then acc ++ [(i : Int)] else acc)
theorem dnT_len (l : List S58) : ∀ (m i : Nat) (acc : List Int), (dnT l i m acc).length ≤ acc.length + m
  | 0, _, acc => by simp [dnT]
  | m + 1, i, acc => by
    have := dnT_len l m (i + 1) (if (rd_T58 l (i : Int)).f2 = 3 then acc ++ [(i : Int)] else acc)
    rw [dnT]
    split at this <;> simp_all <;> omega
theorem done_spec (l : List S58) (hl : l.length ≤ 1048576) (a b : Int) (d : Nat) : ∀ (k i : Nat) (acc : List Int), i + d = l.length → d < k → acc.length ≤ i →
    spec_DoneTalks.l0 k i a b l 0 acc = some (0, dnT l i d acc) := by
  induction d with
  | zero =>
    intro k i acc hi hk ha
    obtain ⟨k, rfl⟩ : ∃ m, k = m + 1 := ⟨k - 1, by omega⟩
    rw [spec_DoneTalks.l0, if_neg (by omega)]
    rfl
  | succ d ih =>
    intro k i acc hi hk ha
    obtain ⟨k, rfl⟩ : ∃ m, k = m + 1 := ⟨k - 1, by omega⟩
    rw [spec_DoneTalks.l0, if_pos (by omega), if_pos (by omega), dnT, show wrap64 ((i : Int) + 1) = ((i + 1 : Nat) : Int) by rw [w64' (by omega) (by omega)]; omega]
    by_cases h : (rd_T58 l (i : Int)).f2 = 3
    · rw [if_pos h, if_pos (by omega), if_pos h]
      exact ih k (i + 1) _ (by omega) (by omega) (by simp; omega)
    · rw [if_neg h, if_neg h]
      exact ih k (i + 1) _ (by omega) (by omega) (by omega)
theorem done_impl (l : List S58) (hl : l.length ≤ 1048576) (d : Nat) : ∀ (k i : Nat) (acc : List Int), i + d = l.length → d < k → acc.length ≤ i →
    impl_DoneTalks.l0 k acc l (l.length : Int) i = some (0, dnT l i d acc) := by
  induction d with
  | zero =>
    intro k i acc hi hk ha
    obtain ⟨k, rfl⟩ : ∃ m, k = m + 1 := ⟨k - 1, by omega⟩
    rw [impl_DoneTalks.l0, if_neg (by omega)]
    rfl
  | succ d ih =>
    intro k i acc hi hk ha
    obtain ⟨k, rfl⟩ : ∃ m, k = m + 1 := ⟨k - 1, by omega⟩
    rw [impl_DoneTalks.l0, if_pos (by omega), if_pos (by omega), if_pos (by omega), dnT, show wrap64 ((i : Int) + 1) = ((i + 1 : Nat) : Int) by rw [w64' (by omega) (by omega)]; omega]
    by_cases h : (rd_T58 l (i : Int)).f2 = 3
    · rw [if_pos h, if_pos (by omega), if_pos h]
      exact ih k (i + 1) _ (by omega) (by omega) (by simp; omega)
    · rw [if_neg h, if_neg h]
      exact ih k (i + 1) _ (by omega) (by omega) (by omega)
theorem doneSpec_ev (l : List S58) (hl : l.length ≤ 1048576) (a b : Int) : Ev (fun k => spec_DoneTalks.f k a b l) (0, dnT l 0 l.length []) :=
  ⟨l.length + 1, fun k hk => done_spec l hl a b l.length k 0 [] (by omega) (by omega) (by simp)⟩
theorem doneImpl_ev (l : List S58) (hl : l.length ≤ 1048576) (a b : Int) : Ev (fun k => impl_DoneTalks.f k a b l) (0, dnT l 0 l.length []) :=
  ⟨l.length + 1, fun k hk => done_impl l hl l.length k 0 [] (by omega) (by omega) (by simp)⟩
theorem FnExactDoneTalks : laws_FnExactDoneTalks.Pure := by
  rintro ⟨a, b, l⟩ hw
  have hml : l.length ≤ 9223372036854775807 := by
    have := hw.2.2.1
    unfold maxLen at this
    exact Nat.le_trans this (by decide)
  clear hw
  refine Ev.rounds ?_
  show Ev (fun k => laws_FnExactDoneTalks.f k a b l) true
  unfold laws_FnExactDoneTalks.f laws_szGate.f laws_szTalkS.f
  by_cases hb : l.length ≤ 1048576
  rotate_left
  · simp only [show wrap64 (1048576 - (l.length : Int)) < 0 by rw [w64' (by omega) (by omega)]; omega, if_true, Option.bind_some, show (-1 : Int) < 0 by decide]
    exact Ev.now _
  simp only [show ¬ wrap64 (1048576 - (l.length : Int)) < 0 by rw [w64' (by omega) (by omega)]; omega, if_false, Option.bind_some]
  have ht : Ev (fun k => laws_toGate.f k a b l) (a, b, l.map toTk) := by
    unfold laws_toGate.f
    exact Ev.bind (toTalkS_ev l (by omega)) (Ev.now _)
  have hlm : (l.map toTk).length ≤ 1048576 := by simpa using hb
  generalize l.map toTk = t at ht hlm
  have hn := dnT_len t t.length 0 []
  simp only [List.length_nil, Nat.zero_add] at hn
  refine Ev.bind ht (Ev.bind (doneSpec_ev t hlm a b) (Ev.bind ht (Ev.bind (doneImpl_ev t hlm a b) ?_)))
  generalize hD : dnT t 0 t.length [] = D at hn
  have hdi : Ev (fun k => impl_DoneTalks.f k a b t) (0, D) := hD ▸ doneImpl_ev t hlm a b
  clear hD
  refine Ev.bind (eqIntsResult_ev 0 D (by omega)) ?_
  simp only [if_true]
  refine Ev.bind ht ?_
  have hq : Ev (fun k => laws_eqGate.f k a b t a b t) true := by
    unfold laws_eqGate.f
    simp only [if_true]
    refine Ev.bind (eqTalkS_ev t (by omega)) ?_
    simp only [if_true]; exact Ev.now _
  refine Ev.bind hq ?_
  simp only [if_true]
  obtain ⟨t', hm⟩ := markTalkS_ev t 1 (by omega) (by omega)
  have hg : Ev (fun k => laws_markGate.f k a b t 1) (1 + 20 * t.length, t') := by
    unfold laws_markGate.f
    exact Ev.bind hm (Ev.now _)
  refine Ev.bind hg ?_
  simp only [show ¬ (1 + 20 * (t.length : Int)) < 0 by omega, if_false]
  refine Ev.bind (eqIntsResult_ev 0 D (by omega)) ?_
  simp only [Bool.not_true]
  refine ev_succ ?_
  simp only [laws_FnExactDoneTalks.j0, Bool.false_eq_true, if_false]
  refine Ev.bind (markIntsResult_ev 0 D 1 (by omega) (by omega)) ?_
  refine Ev.bind (heldIntsResult_ev 0 D.length 1 (by omega) (by omega)) ?_
  simp only [show ¬ (1 + (D.length : Int)) < 0 by omega, if_false, if_true]
  refine Ev.bind ht (Ev.bind hdi ?_)
  refine Ev.bind (eqIntsResult_ev 0 D (by omega)) ?_
  simp only [if_true]
  refine Ev.bind (heldIntsResult_ev 0 D.length 1 (by omega) (by omega)) ?_
  simp only [show ¬ (1 + (D.length : Int)) < 0 by omega, if_false, if_true]
  exact Ev.now _
end Go.Proofs.Ytaniedjfkiklmaa.Pure
namespace Go.Proofs.Ytaniedjfkiklmaa.fnExactDoneTalks
open Go.ChangeShapes Go.WideShapes Go.ChangeAt
open Go.RowKit Go.Proofs.Ytaniedjfkiklmaa.G Go.Proofs.YtaniedjfkiklmaaW.PrintWords Go.Proofs.YtaniedjfkiklmaaW.PrintLast
open Go.ChangeMaps (open_string shut_string)
set_option linter.unusedVariables false
theorem own : ownKnob Try.prog.godebug = none := by kernel_rfl
theorem laidOut : laidOutB Try.prog = true := by kernel_rfl
theorem o2 : Opn.Opens Try.prog 2 (Kd.int .i64) (fun n => (Lit.int .i64 n).wf = true) := Opn.opens_int Try.underlying2 (by kernel_rfl)
theorem o74 : Opn.Opens Try.prog 74 k74 (fun (x : S74) => (fun (x : Int × Int × Int × Int) => (fun n => (Lit.int .i64 n).wf = true) x.1 ∧ (fun (x : Int × Int × Int) => (fun n => (Lit.int .i64 n).wf = true) x.1 ∧ (fun (x : Int × Int) => (fun n => (Lit.int .i64 n).wf = true) x.1 ∧ (fun n => (Lit.int .i64 n).wf = true) x.2) x.2) x.2) (x.f0, x.f1, x.f2, x.f3)) := by
  refine Opn.opens_struct (G := fun (x : Int × Int × Int × Int) => (fun n => (Lit.int .i64 n).wf = true) x.1 ∧ (fun (x : Int × Int × Int) => (fun n => (Lit.int .i64 n).wf = true) x.1 ∧ (fun (x : Int × Int) => (fun n => (Lit.int .i64 n).wf = true) x.1 ∧ (fun n => (Lit.int .i64 n).wf = true) x.2) x.2) x.2) (fun x : S74 => (x.f0, x.f1, x.f2, x.f3)) (fun y => ⟨y.1, y.2.1, y.2.2.1, y.2.2.2⟩) (fun _ => rfl) Try.underlying74 (by kernel_rfl) ?_
  apply Opn.at_cons (T := 2) (G := fun n => (Lit.int .i64 n).wf = true) (G2 := fun (x : Int × Int × Int) => (fun n => (Lit.int .i64 n).wf = true) x.1 ∧ (fun (x : Int × Int) => (fun n => (Lit.int .i64 n).wf = true) x.1 ∧ (fun n => (Lit.int .i64 n).wf = true) x.2) x.2)
  · rfl
  · rfl
  · exact o2
  apply Opn.at_cons (T := 2) (G := fun n => (Lit.int .i64 n).wf = true) (G2 := fun (x : Int × Int) => (fun n => (Lit.int .i64 n).wf = true) x.1 ∧ (fun n => (Lit.int .i64 n).wf = true) x.2)
  · rfl
  · rfl
  · exact o2
  apply Opn.at_cons (T := 2) (G := fun n => (Lit.int .i64 n).wf = true) (G2 := fun n => (Lit.int .i64 n).wf = true)
  · rfl
  · rfl
  · exact o2
  apply Opn.at_last (T := 2)
  · rfl
  · rfl
  · exact o2
theorem o75 : Opn.Opens Try.prog 75 k75 (fun (x : S75) => (fun (x : Int × Int) => (fun n => (Lit.int .i64 n).wf = true) x.1 ∧ (fun n => (Lit.int .i64 n).wf = true) x.2) (x.f0, x.f1)) := by
  refine Opn.opens_struct (G := fun (x : Int × Int) => (fun n => (Lit.int .i64 n).wf = true) x.1 ∧ (fun n => (Lit.int .i64 n).wf = true) x.2) (fun x : S75 => (x.f0, x.f1)) (fun y => ⟨y.1, y.2⟩) (fun _ => rfl) Try.underlying75 (by kernel_rfl) ?_
  apply Opn.at_cons (T := 2) (G := fun n => (Lit.int .i64 n).wf = true) (G2 := fun n => (Lit.int .i64 n).wf = true)
  · rfl
  · rfl
  · exact o2
  apply Opn.at_last (T := 2)
  · rfl
  · rfl
  · exact o2
theorem o77 : Opn.Opens Try.prog 77 k77 (fun (x : S77) => (fun (x : Int × Int × Int × Int × Int × Int × Int × Int × Int × Int × Int × S74 × Int × Int × Int × S75) => (fun n => (Lit.int .i64 n).wf = true) x.1 ∧ (fun (x : Int × Int × Int × Int × Int × Int × Int × Int × Int × Int × S74 × Int × Int × Int × S75) => (fun n => (Lit.int .i64 n).wf = true) x.1 ∧ (fun (x : Int × Int × Int × Int × Int × Int × Int × Int × Int × S74 × Int × Int × Int × S75) => (fun n => (Lit.int .i64 n).wf = true) x.1 ∧ (fun (x : Int × Int × Int × Int × Int × Int × Int × Int × S74 × Int × Int × Int × S75) => (fun n => (Lit.int .i64 n).wf = true) x.1 ∧ (fun (x : Int × Int × Int × Int × Int × Int × Int × S74 × Int × Int × Int × S75) => (fun n => (Lit.int .i64 n).wf = true) x.1 ∧ (fun (x : Int × Int × Int × Int × Int × Int × S74 × Int × Int × Int × S75) => (fun n => (Lit.int .i64 n).wf = true) x.1 ∧ (fun (x : Int × Int × Int × Int × Int × S74 × Int × Int × Int × S75) => (fun n => (Lit.int .i64 n).wf = true) x.1 ∧ (fun (x : Int × Int × Int × Int × S74 × Int × Int × Int × S75) => (fun n => (Lit.int .i64 n).wf = true) x.1 ∧ (fun (x : Int × Int × Int × S74 × Int × Int × Int × S75) => (fun n => (Lit.int .i64 n).wf = true) x.1 ∧ (fun (x : Int × Int × S74 × Int × Int × Int × S75) => (fun n => (Lit.int .i64 n).wf = true) x.1 ∧ (fun (x : Int × S74 × Int × Int × Int × S75) => (fun n => (Lit.int .i64 n).wf = true) x.1 ∧ (fun (x : S74 × Int × Int × Int × S75) => (fun (x : S74) => (fun (x : Int × Int × Int × Int) => (fun n => (Lit.int .i64 n).wf = true) x.1 ∧ (fun (x : Int × Int × Int) => (fun n => (Lit.int .i64 n).wf = true) x.1 ∧ (fun (x : Int × Int) => (fun n => (Lit.int .i64 n).wf = true) x.1 ∧ (fun n => (Lit.int .i64 n).wf = true) x.2) x.2) x.2) (x.f0, x.f1, x.f2, x.f3)) x.1 ∧ (fun (x : Int × Int × Int × S75) => (fun n => (Lit.int .i64 n).wf = true) x.1 ∧ (fun (x : Int × Int × S75) => (fun n => (Lit.int .i64 n).wf = true) x.1 ∧ (fun (x : Int × S75) => (fun n => (Lit.int .i64 n).wf = true) x.1 ∧ (fun (x : S75) => (fun (x : Int × Int) => (fun n => (Lit.int .i64 n).wf = true) x.1 ∧ (fun n => (Lit.int .i64 n).wf = true) x.2) (x.f0, x.f1)) x.2) x.2) x.2) x.2) x.2) x.2) x.2) x.2) x.2) x.2) x.2) x.2) x.2) x.2) x.2) (x.f0, x.f1, x.f2, x.f3, x.f4, x.f5, x.f6, x.f7, x.f8, x.f9, x.f10, x.f11, x.f12, x.f13, x.f14, x.f15)) := by
  refine Opn.opens_struct (G := fun (x : Int × Int × Int × Int × Int × Int × Int × Int × Int × Int × Int × S74 × Int × Int × Int × S75) => (fun n => (Lit.int .i64 n).wf = true) x.1 ∧ (fun (x : Int × Int × Int × Int × Int × Int × Int × Int × Int × Int × S74 × Int × Int × Int × S75) => (fun n => (Lit.int .i64 n).wf = true) x.1 ∧ (fun (x : Int × Int × Int × Int × Int × Int × Int × Int × Int × S74 × Int × Int × Int × S75) => (fun n => (Lit.int .i64 n).wf = true) x.1 ∧ (fun (x : Int × Int × Int × Int × Int × Int × Int × Int × S74 × Int × Int × Int × S75) => (fun n => (Lit.int .i64 n).wf = true) x.1 ∧ (fun (x : Int × Int × Int × Int × Int × Int × Int × S74 × Int × Int × Int × S75) => (fun n => (Lit.int .i64 n).wf = true) x.1 ∧ (fun (x : Int × Int × Int × Int × Int × Int × S74 × Int × Int × Int × S75) => (fun n => (Lit.int .i64 n).wf = true) x.1 ∧ (fun (x : Int × Int × Int × Int × Int × S74 × Int × Int × Int × S75) => (fun n => (Lit.int .i64 n).wf = true) x.1 ∧ (fun (x : Int × Int × Int × Int × S74 × Int × Int × Int × S75) => (fun n => (Lit.int .i64 n).wf = true) x.1 ∧ (fun (x : Int × Int × Int × S74 × Int × Int × Int × S75) => (fun n => (Lit.int .i64 n).wf = true) x.1 ∧ (fun (x : Int × Int × S74 × Int × Int × Int × S75) => (fun n => (Lit.int .i64 n).wf = true) x.1 ∧ (fun (x : Int × S74 × Int × Int × Int × S75) => (fun n => (Lit.int .i64 n).wf = true) x.1 ∧ (fun (x : S74 × Int × Int × Int × S75) => (fun (x : S74) => (fun (x : Int × Int × Int × Int) => (fun n => (Lit.int .i64 n).wf = true) x.1 ∧ (fun (x : Int × Int × Int) => (fun n => (Lit.int .i64 n).wf = true) x.1 ∧ (fun (x : Int × Int) => (fun n => (Lit.int .i64 n).wf = true) x.1 ∧ (fun n => (Lit.int .i64 n).wf = true) x.2) x.2) x.2) (x.f0, x.f1, x.f2, x.f3)) x.1 ∧ (fun (x : Int × Int × Int × S75) => (fun n => (Lit.int .i64 n).wf = true) x.1 ∧ (fun (x : Int × Int × S75) => (fun n => (Lit.int .i64 n).wf = true) x.1 ∧ (fun (x : Int × S75) => (fun n => (Lit.int .i64 n).wf = true) x.1 ∧ (fun (x : S75) => (fun (x : Int × Int) => (fun n => (Lit.int .i64 n).wf = true) x.1 ∧ (fun n => (Lit.int .i64 n).wf = true) x.2) (x.f0, x.f1)) x.2) x.2) x.2) x.2) x.2) x.2) x.2) x.2) x.2) x.2) x.2) x.2) x.2) x.2) x.2) (fun x : S77 => (x.f0, x.f1, x.f2, x.f3, x.f4, x.f5, x.f6, x.f7, x.f8, x.f9, x.f10, x.f11, x.f12, x.f13, x.f14, x.f15)) (fun y => ⟨y.1, y.2.1, y.2.2.1, y.2.2.2.1, y.2.2.2.2.1, y.2.2.2.2.2.1, y.2.2.2.2.2.2.1, y.2.2.2.2.2.2.2.1, y.2.2.2.2.2.2.2.2.1, y.2.2.2.2.2.2.2.2.2.1, y.2.2.2.2.2.2.2.2.2.2.1, y.2.2.2.2.2.2.2.2.2.2.2.1, y.2.2.2.2.2.2.2.2.2.2.2.2.1, y.2.2.2.2.2.2.2.2.2.2.2.2.2.1, y.2.2.2.2.2.2.2.2.2.2.2.2.2.2.1, y.2.2.2.2.2.2.2.2.2.2.2.2.2.2.2⟩) (fun _ => rfl) Try.underlying77 (by kernel_rfl) ?_
  apply Opn.at_cons (T := 2) (G := fun n => (Lit.int .i64 n).wf = true) (G2 := fun (x : Int × Int × Int × Int × Int × Int × Int × Int × Int × Int × S74 × Int × Int × Int × S75) => (fun n => (Lit.int .i64 n).wf = true) x.1 ∧ (fun (x : Int × Int × Int × Int × Int × Int × Int × Int × Int × S74 × Int × Int × Int × S75) => (fun n => (Lit.int .i64 n).wf = true) x.1 ∧ (fun (x : Int × Int × Int × Int × Int × Int × Int × Int × S74 × Int × Int × Int × S75) => (fun n => (Lit.int .i64 n).wf = true) x.1 ∧ (fun (x : Int × Int × Int × Int × Int × Int × Int × S74 × Int × Int × Int × S75) => (fun n => (Lit.int .i64 n).wf = true) x.1 ∧ (fun (x : Int × Int × Int × Int × Int × Int × S74 × Int × Int × Int × S75) => (fun n => (Lit.int .i64 n).wf = true) x.1 ∧ (fun (x : Int × Int × Int × Int × Int × S74 × Int × Int × Int × S75) => (fun n => (Lit.int .i64 n).wf = true) x.1 ∧ (fun (x : Int × Int × Int × Int × S74 × Int × Int × Int × S75) => (fun n => (Lit.int .i64 n).wf = true) x.1 ∧ (fun (x : Int × Int × Int × S74 × Int × Int × Int × S75) => (fun n => (Lit.int .i64 n).wf = true) x.1 ∧ (fun (x : Int × Int × S74 × Int × Int × Int × S75) => (fun n => (Lit.int .i64 n).wf = true) x.1 ∧ (fun (x : Int × S74 × Int × Int × Int × S75) => (fun n => (Lit.int .i64 n).wf = true) x.1 ∧ (fun (x : S74 × Int × Int × Int × S75) => (fun (x : S74) => (fun (x : Int × Int × Int × Int) => (fun n => (Lit.int .i64 n).wf = true) x.1 ∧ (fun (x : Int × Int × Int) => (fun n => (Lit.int .i64 n).wf = true) x.1 ∧ (fun (x : Int × Int) => (fun n => (Lit.int .i64 n).wf = true) x.1 ∧ (fun n => (Lit.int .i64 n).wf = true) x.2) x.2) x.2) (x.f0, x.f1, x.f2, x.f3)) x.1 ∧ (fun (x : Int × Int × Int × S75) => (fun n => (Lit.int .i64 n).wf = true) x.1 ∧ (fun (x : Int × Int × S75) => (fun n => (Lit.int .i64 n).wf = true) x.1 ∧ (fun (x : Int × S75) => (fun n => (Lit.int .i64 n).wf = true) x.1 ∧ (fun (x : S75) => (fun (x : Int × Int) => (fun n => (Lit.int .i64 n).wf = true) x.1 ∧ (fun n => (Lit.int .i64 n).wf = true) x.2) (x.f0, x.f1)) x.2) x.2) x.2) x.2) x.2) x.2) x.2) x.2) x.2) x.2) x.2) x.2) x.2) x.2)
  · rfl
  · rfl
  · exact o2
  apply Opn.at_cons (T := 2) (G := fun n => (Lit.int .i64 n).wf = true) (G2 := fun (x : Int × Int × Int × Int × Int × Int × Int × Int × Int × S74 × Int × Int × Int × S75) => (fun n => (Lit.int .i64 n).wf = true) x.1 ∧ (fun (x : Int × Int × Int × Int × Int × Int × Int × Int × S74 × Int × Int × Int × S75) => (fun n => (Lit.int .i64 n).wf = true) x.1 ∧ (fun (x : Int × Int × Int × Int × Int × Int × Int × S74 × Int × Int × Int × S75) => (fun n => (Lit.int .i64 n).wf = true) x.1 ∧ (fun (x : Int × Int × Int × Int × Int × Int × S74 × Int × Int × Int × S75) => (fun n => (Lit.int .i64 n).wf = true) x.1 ∧ (fun (x : Int × Int × Int × Int × Int × S74 × Int × Int × Int × S75) => (fun n => (Lit.int .i64 n).wf = true) x.1 ∧ (fun (x : Int × Int × Int × Int × S74 × Int × Int × Int × S75) => (fun n => (Lit.int .i64 n).wf = true) x.1 ∧ (fun (x : Int × Int × Int × S74 × Int × Int × Int × S75) => (fun n => (Lit.int .i64 n).wf = true) x.1 ∧ (fun (x : Int × Int × S74 × Int × Int × Int × S75) => (fun n => (Lit.int .i64 n).wf = true) x.1 ∧ (fun (x : Int × S74 × Int × Int × Int × S75) => (fun n => (Lit.int .i64 n).wf = true) x.1 ∧ (fun (x : S74 × Int × Int × Int × S75) => (fun (x : S74) => (fun (x : Int × Int × Int × Int) => (fun n => (Lit.int .i64 n).wf = true) x.1 ∧ (fun (x : Int × Int × Int) => (fun n => (Lit.int .i64 n).wf = true) x.1 ∧ (fun (x : Int × Int) => (fun n => (Lit.int .i64 n).wf = true) x.1 ∧ (fun n => (Lit.int .i64 n).wf = true) x.2) x.2) x.2) (x.f0, x.f1, x.f2, x.f3)) x.1 ∧ (fun (x : Int × Int × Int × S75) => (fun n => (Lit.int .i64 n).wf = true) x.1 ∧ (fun (x : Int × Int × S75) => (fun n => (Lit.int .i64 n).wf = true) x.1 ∧ (fun (x : Int × S75) => (fun n => (Lit.int .i64 n).wf = true) x.1 ∧ (fun (x : S75) => (fun (x : Int × Int) => (fun n => (Lit.int .i64 n).wf = true) x.1 ∧ (fun n => (Lit.int .i64 n).wf = true) x.2) (x.f0, x.f1)) x.2) x.2) x.2) x.2) x.2) x.2) x.2) x.2) x.2) x.2) x.2) x.2) x.2)
  · rfl
  · rfl
  · exact o2
  apply Opn.at_cons (T := 2) (G := fun n => (Lit.int .i64 n).wf = true) (G2 := fun (x : Int × Int × Int × Int × Int × Int × Int × Int × S74 × Int × Int × Int × S75) => (fun n => (Lit.int .i64 n).wf = true) x.1 ∧ (fun (x : Int × Int × Int × Int × Int × Int × Int × S74 × Int × Int × Int × S75) => (fun n => (Lit.int .i64 n).wf = true) x.1 ∧ (fun (x : Int × Int × Int × Int × Int × Int × S74 × Int × Int × Int × S75) => (fun n => (Lit.int .i64 n).wf = true) x.1 ∧ (fun (x : Int × Int × Int × Int × Int × S74 × Int × Int × Int × S75) => (fun n => (Lit.int .i64 n).wf = true) x.1 ∧ (fun (x : Int × Int × Int × Int × S74 × Int × Int × Int × S75) => (fun n => (Lit.int .i64 n).wf = true) x.1 ∧ (fun (x : Int × Int × Int × S74 × Int × Int × Int × S75) => (fun n => (Lit.int .i64 n).wf = true) x.1 ∧ (fun (x : Int × Int × S74 × Int × Int × Int × S75) => (fun n => (Lit.int .i64 n).wf = true) x.1 ∧ (fun (x : Int × S74 × Int × Int × Int × S75) => (fun n => (Lit.int .i64 n).wf = true) x.1 ∧ (fun (x : S74 × Int × Int × Int × S75) => (fun (x : S74) => (fun (x : Int × Int × Int × Int) => (fun n => (Lit.int .i64 n).wf = true) x.1 ∧ (fun (x : Int × Int × Int) => (fun n => (Lit.int .i64 n).wf = true) x.1 ∧ (fun (x : Int × Int) => (fun n => (Lit.int .i64 n).wf = true) x.1 ∧ (fun n => (Lit.int .i64 n).wf = true) x.2) x.2) x.2) (x.f0, x.f1, x.f2, x.f3)) x.1 ∧ (fun (x : Int × Int × Int × S75) => (fun n => (Lit.int .i64 n).wf = true) x.1 ∧ (fun (x : Int × Int × S75) => (fun n => (Lit.int .i64 n).wf = true) x.1 ∧ (fun (x : Int × S75) => (fun n => (Lit.int .i64 n).wf = true) x.1 ∧ (fun (x : S75) => (fun (x : Int × Int) => (fun n => (Lit.int .i64 n).wf = true) x.1 ∧ (fun n => (Lit.int .i64 n).wf = true) x.2) (x.f0, x.f1)) x.2) x.2) x.2) x.2) x.2) x.2) x.2) x.2) x.2) x.2) x.2) x.2)
  · rfl
  · rfl
  · exact o2
  apply Opn.at_cons (T := 2) (G := fun n => (Lit.int .i64 n).wf = true) (G2 := fun (x : Int × Int × Int × Int × Int × Int × Int × S74 × Int × Int × Int × S75) => (fun n => (Lit.int .i64 n).wf = true) x.1 ∧ (fun (x : Int × Int × Int × Int × Int × Int × S74 × Int × Int × Int × S75) => (fun n => (Lit.int .i64 n).wf = true) x.1 ∧ (fun (x : Int × Int × Int × Int × Int × S74 × Int × Int × Int × S75) => (fun n => (Lit.int .i64 n).wf = true) x.1 ∧ (fun (x : Int × Int × Int × Int × S74 × Int × Int × Int × S75) => (fun n => (Lit.int .i64 n).wf = true) x.1 ∧ (fun (x : Int × Int × Int × S74 × Int × Int × Int × S75) => (fun n => (Lit.int .i64 n).wf = true) x.1 ∧ (fun (x : Int × Int × S74 × Int × Int × Int × S75) => (fun n => (Lit.int .i64 n).wf = true) x.1 ∧ (fun (x : Int × S74 × Int × Int × Int × S75) => (fun n => (Lit.int .i64 n).wf = true) x.1 ∧ (fun (x : S74 × Int × Int × Int × S75) => (fun (x : S74) => (fun (x : Int × Int × Int × Int) => (fun n => (Lit.int .i64 n).wf = true) x.1 ∧ (fun (x : Int × Int × Int) => (fun n => (Lit.int .i64 n).wf = true) x.1 ∧ (fun (x : Int × Int) => (fun n => (Lit.int .i64 n).wf = true) x.1 ∧ (fun n => (Lit.int .i64 n).wf = true) x.2) x.2) x.2) (x.f0, x.f1, x.f2, x.f3)) x.1 ∧ (fun (x : Int × Int × Int × S75) => (fun n => (Lit.int .i64 n).wf = true) x.1 ∧ (fun (x : Int × Int × S75) => (fun n => (Lit.int .i64 n).wf = true) x.1 ∧ (fun (x : Int × S75) => (fun n => (Lit.int .i64 n).wf = true) x.1 ∧ (fun (x : S75) => (fun (x : Int × Int) => (fun n => (Lit.int .i64 n).wf = true) x.1 ∧ (fun n => (Lit.int .i64 n).wf = true) x.2) (x.f0, x.f1)) x.2) x.2) x.2) x.2) x.2) x.2) x.2) x.2) x.2) x.2) x.2)
  · rfl
  · rfl
  · exact o2
  apply Opn.at_cons (T := 2) (G := fun n => (Lit.int .i64 n).wf = true) (G2 := fun (x : Int × Int × Int × Int × Int × Int × S74 × Int × Int × Int × S75) => (fun n => (Lit.int .i64 n).wf = true) x.1 ∧ (fun (x : Int × Int × Int × Int × Int × S74 × Int × Int × Int × S75) => (fun n => (Lit.int .i64 n).wf = true) x.1 ∧ (fun (x : Int × Int × Int × Int × S74 × Int × Int × Int × S75) => (fun n => (Lit.int .i64 n).wf = true) x.1 ∧ (fun (x : Int × Int × Int × S74 × Int × Int × Int × S75) => (fun n => (Lit.int .i64 n).wf = true) x.1 ∧ (fun (x : Int × Int × S74 × Int × Int × Int × S75) => (fun n => (Lit.int .i64 n).wf = true) x.1 ∧ (fun (x : Int × S74 × Int × Int × Int × S75) => (fun n => (Lit.int .i64 n).wf = true) x.1 ∧ (fun (x : S74 × Int × Int × Int × S75) => (fun (x : S74) => (fun (x : Int × Int × Int × Int) => (fun n => (Lit.int .i64 n).wf = true) x.1 ∧ (fun (x : Int × Int × Int) => (fun n => (Lit.int .i64 n).wf = true) x.1 ∧ (fun (x : Int × Int) => (fun n => (Lit.int .i64 n).wf = true) x.1 ∧ (fun n => (Lit.int .i64 n).wf = true) x.2) x.2) x.2) (x.f0, x.f1, x.f2, x.f3)) x.1 ∧ (fun (x : Int × Int × Int × S75) => (fun n => (Lit.int .i64 n).wf = true) x.1 ∧ (fun (x : Int × Int × S75) => (fun n => (Lit.int .i64 n).wf = true) x.1 ∧ (fun (x : Int × S75) => (fun n => (Lit.int .i64 n).wf = true) x.1 ∧ (fun (x : S75) => (fun (x : Int × Int) => (fun n => (Lit.int .i64 n).wf = true) x.1 ∧ (fun n => (Lit.int .i64 n).wf = true) x.2) (x.f0, x.f1)) x.2) x.2) x.2) x.2) x.2) x.2) x.2) x.2) x.2) x.2)
  · rfl
  · rfl
  · exact o2
  apply Opn.at_cons (T := 2) (G := fun n => (Lit.int .i64 n).wf = true) (G2 := fun (x : Int × Int × Int × Int × Int × S74 × Int × Int × Int × S75) => (fun n => (Lit.int .i64 n).wf = true) x.1 ∧ (fun (x : Int × Int × Int × Int × S74 × Int × Int × Int × S75) => (fun n => (Lit.int .i64 n).wf = true) x.1 ∧ (fun (x : Int × Int × Int × S74 × Int × Int × Int × S75) => (fun n => (Lit.int .i64 n).wf = true) x.1 ∧ (fun (x : Int × Int × S74 × Int × Int × Int × S75) => (fun n => (Lit.int .i64 n).wf = true) x.1 ∧ (fun (x : Int × S74 × Int × Int × Int × S75) => (fun n => (Lit.int .i64 n).wf = true) x.1 ∧ (fun (x : S74 × Int × Int × Int × S75) => (fun (x : S74) => (fun (x : Int × Int × Int × Int) => (fun n => (Lit.int .i64 n).wf = true) x.1 ∧ (fun (x : Int × Int × Int) => (fun n => (Lit.int .i64 n).wf = true) x.1 ∧ (fun (x : Int × Int) => (fun n => (Lit.int .i64 n).wf = true) x.1 ∧ (fun n => (Lit.int .i64 n).wf = true) x.2) x.2) x.2) (x.f0, x.f1, x.f2, x.f3)) x.1 ∧ (fun (x : Int × Int × Int × S75) => (fun n => (Lit.int .i64 n).wf = true) x.1 ∧ (fun (x : Int × Int × S75) => (fun n => (Lit.int .i64 n).wf = true) x.1 ∧ (fun (x : Int × S75) => (fun n => (Lit.int .i64 n).wf = true) x.1 ∧ (fun (x : S75) => (fun (x : Int × Int) => (fun n => (Lit.int .i64 n).wf = true) x.1 ∧ (fun n => (Lit.int .i64 n).wf = true) x.2) (x.f0, x.f1)) x.2) x.2) x.2) x.2) x.2) x.2) x.2) x.2) x.2)
  · rfl
  · rfl
  · exact o2
  apply Opn.at_cons (T := 2) (G := fun n => (Lit.int .i64 n).wf = true) (G2 := fun (x : Int × Int × Int × Int × S74 × Int × Int × Int × S75) => (fun n => (Lit.int .i64 n).wf = true) x.1 ∧ (fun (x : Int × Int × Int × S74 × Int × Int × Int × S75) => (fun n => (Lit.int .i64 n).wf = true) x.1 ∧ (fun (x : Int × Int × S74 × Int × Int × Int × S75) => (fun n => (Lit.int .i64 n).wf = true) x.1 ∧ (fun (x : Int × S74 × Int × Int × Int × S75) => (fun n => (Lit.int .i64 n).wf = true) x.1 ∧ (fun (x : S74 × Int × Int × Int × S75) => (fun (x : S74) => (fun (x : Int × Int × Int × Int) => (fun n => (Lit.int .i64 n).wf = true) x.1 ∧ (fun (x : Int × Int × Int) => (fun n => (Lit.int .i64 n).wf = true) x.1 ∧ (fun (x : Int × Int) => (fun n => (Lit.int .i64 n).wf = true) x.1 ∧ (fun n => (Lit.int .i64 n).wf = true) x.2) x.2) x.2) (x.f0, x.f1, x.f2, x.f3)) x.1 ∧ (fun (x : Int × Int × Int × S75) => (fun n => (Lit.int .i64 n).wf = true) x.1 ∧ (fun (x : Int × Int × S75) => (fun n => (Lit.int .i64 n).wf = true) x.1 ∧ (fun (x : Int × S75) => (fun n => (Lit.int .i64 n).wf = true) x.1 ∧ (fun (x : S75) => (fun (x : Int × Int) => (fun n => (Lit.int .i64 n).wf = true) x.1 ∧ (fun n => (Lit.int .i64 n).wf = true) x.2) (x.f0, x.f1)) x.2) x.2) x.2) x.2) x.2) x.2) x.2) x.2)
  · rfl
  · rfl
  · exact o2
  apply Opn.at_cons (T := 2) (G := fun n => (Lit.int .i64 n).wf = true) (G2 := fun (x : Int × Int × Int × S74 × Int × Int × Int × S75) => (fun n => (Lit.int .i64 n).wf = true) x.1 ∧ (fun (x : Int × Int × S74 × Int × Int × Int × S75) => (fun n => (Lit.int .i64 n).wf = true) x.1 ∧ (fun (x : Int × S74 × Int × Int × Int × S75) => (fun n => (Lit.int .i64 n).wf = true) x.1 ∧ (fun (x : S74 × Int × Int × Int × S75) => (fun (x : S74) => (fun (x : Int × Int × Int × Int) => (fun n => (Lit.int .i64 n).wf = true) x.1 ∧ (fun (x : Int × Int × Int) => (fun n => (Lit.int .i64 n).wf = true) x.1 ∧ (fun (x : Int × Int) => (fun n => (Lit.int .i64 n).wf = true) x.1 ∧ (fun n => (Lit.int .i64 n).wf = true) x.2) x.2) x.2) (x.f0, x.f1, x.f2, x.f3)) x.1 ∧ (fun (x : Int × Int × Int × S75) => (fun n => (Lit.int .i64 n).wf = true) x.1 ∧ (fun (x : Int × Int × S75) => (fun n => (Lit.int .i64 n).wf = true) x.1 ∧ (fun (x : Int × S75) => (fun n => (Lit.int .i64 n).wf = true) x.1 ∧ (fun (x : S75) => (fun (x : Int × Int) => (fun n => (Lit.int .i64 n).wf = true) x.1 ∧ (fun n => (Lit.int .i64 n).wf = true) x.2) (x.f0, x.f1)) x.2) x.2) x.2) x.2) x.2) x.2) x.2)
  · rfl
  · rfl
  · exact o2
  apply Opn.at_cons (T := 2) (G := fun n => (Lit.int .i64 n).wf = true) (G2 := fun (x : Int × Int × S74 × Int × Int × Int × S75) => (fun n => (Lit.int .i64 n).wf = true) x.1 ∧ (fun (x : Int × S74 × Int × Int × Int × S75) => (fun n => (Lit.int .i64 n).wf = true) x.1 ∧ (fun (x : S74 × Int × Int × Int × S75) => (fun (x : S74) => (fun (x : Int × Int × Int × Int) => (fun n => (Lit.int .i64 n).wf = true) x.1 ∧ (fun (x : Int × Int × Int) => (fun n => (Lit.int .i64 n).wf = true) x.1 ∧ (fun (x : Int × Int) => (fun n => (Lit.int .i64 n).wf = true) x.1 ∧ (fun n => (Lit.int .i64 n).wf = true) x.2) x.2) x.2) (x.f0, x.f1, x.f2, x.f3)) x.1 ∧ (fun (x : Int × Int × Int × S75) => (fun n => (Lit.int .i64 n).wf = true) x.1 ∧ (fun (x : Int × Int × S75) => (fun n => (Lit.int .i64 n).wf = true) x.1 ∧ (fun (x : Int × S75) => (fun n => (Lit.int .i64 n).wf = true) x.1 ∧ (fun (x : S75) => (fun (x : Int × Int) => (fun n => (Lit.int .i64 n).wf = true) x.1 ∧ (fun n => (Lit.int .i64 n).wf = true) x.2) (x.f0, x.f1)) x.2) x.2) x.2) x.2) x.2) x.2)
  · rfl
  · rfl
  · exact o2
  apply Opn.at_cons (T := 2) (G := fun n => (Lit.int .i64 n).wf = true) (G2 := fun (x : Int × S74 × Int × Int × Int × S75) => (fun n => (Lit.int .i64 n).wf = true) x.1 ∧ (fun (x : S74 × Int × Int × Int × S75) => (fun (x : S74) => (fun (x : Int × Int × Int × Int) => (fun n => (Lit.int .i64 n).wf = true) x.1 ∧ (fun (x : Int × Int × Int) => (fun n => (Lit.int .i64 n).wf = true) x.1 ∧ (fun (x : Int × Int) => (fun n => (Lit.int .i64 n).wf = true) x.1 ∧ (fun n => (Lit.int .i64 n).wf = true) x.2) x.2) x.2) (x.f0, x.f1, x.f2, x.f3)) x.1 ∧ (fun (x : Int × Int × Int × S75) => (fun n => (Lit.int .i64 n).wf = true) x.1 ∧ (fun (x : Int × Int × S75) => (fun n => (Lit.int .i64 n).wf = true) x.1 ∧ (fun (x : Int × S75) => (fun n => (Lit.int .i64 n).wf = true) x.1 ∧ (fun (x : S75) => (fun (x : Int × Int) => (fun n => (Lit.int .i64 n).wf = true) x.1 ∧ (fun n => (Lit.int .i64 n).wf = true) x.2) (x.f0, x.f1)) x.2) x.2) x.2) x.2) x.2)
  · rfl
  · rfl
  · exact o2
  apply Opn.at_cons (T := 2) (G := fun n => (Lit.int .i64 n).wf = true) (G2 := fun (x : S74 × Int × Int × Int × S75) => (fun (x : S74) => (fun (x : Int × Int × Int × Int) => (fun n => (Lit.int .i64 n).wf = true) x.1 ∧ (fun (x : Int × Int × Int) => (fun n => (Lit.int .i64 n).wf = true) x.1 ∧ (fun (x : Int × Int) => (fun n => (Lit.int .i64 n).wf = true) x.1 ∧ (fun n => (Lit.int .i64 n).wf = true) x.2) x.2) x.2) (x.f0, x.f1, x.f2, x.f3)) x.1 ∧ (fun (x : Int × Int × Int × S75) => (fun n => (Lit.int .i64 n).wf = true) x.1 ∧ (fun (x : Int × Int × S75) => (fun n => (Lit.int .i64 n).wf = true) x.1 ∧ (fun (x : Int × S75) => (fun n => (Lit.int .i64 n).wf = true) x.1 ∧ (fun (x : S75) => (fun (x : Int × Int) => (fun n => (Lit.int .i64 n).wf = true) x.1 ∧ (fun n => (Lit.int .i64 n).wf = true) x.2) (x.f0, x.f1)) x.2) x.2) x.2) x.2)
  · rfl
  · rfl
  · exact o2
  apply Opn.at_cons (T := 74) (G := fun (x : S74) => (fun (x : Int × Int × Int × Int) => (fun n => (Lit.int .i64 n).wf = true) x.1 ∧ (fun (x : Int × Int × Int) => (fun n => (Lit.int .i64 n).wf = true) x.1 ∧ (fun (x : Int × Int) => (fun n => (Lit.int .i64 n).wf = true) x.1 ∧ (fun n => (Lit.int .i64 n).wf = true) x.2) x.2) x.2) (x.f0, x.f1, x.f2, x.f3)) (G2 := fun (x : Int × Int × Int × S75) => (fun n => (Lit.int .i64 n).wf = true) x.1 ∧ (fun (x : Int × Int × S75) => (fun n => (Lit.int .i64 n).wf = true) x.1 ∧ (fun (x : Int × S75) => (fun n => (Lit.int .i64 n).wf = true) x.1 ∧ (fun (x : S75) => (fun (x : Int × Int) => (fun n => (Lit.int .i64 n).wf = true) x.1 ∧ (fun n => (Lit.int .i64 n).wf = true) x.2) (x.f0, x.f1)) x.2) x.2) x.2)
  · rfl
  · rfl
  · exact o74
  apply Opn.at_cons (T := 2) (G := fun n => (Lit.int .i64 n).wf = true) (G2 := fun (x : Int × Int × S75) => (fun n => (Lit.int .i64 n).wf = true) x.1 ∧ (fun (x : Int × S75) => (fun n => (Lit.int .i64 n).wf = true) x.1 ∧ (fun (x : S75) => (fun (x : Int × Int) => (fun n => (Lit.int .i64 n).wf = true) x.1 ∧ (fun n => (Lit.int .i64 n).wf = true) x.2) (x.f0, x.f1)) x.2) x.2)
  · rfl
  · rfl
  · exact o2
  apply Opn.at_cons (T := 2) (G := fun n => (Lit.int .i64 n).wf = true) (G2 := fun (x : Int × S75) => (fun n => (Lit.int .i64 n).wf = true) x.1 ∧ (fun (x : S75) => (fun (x : Int × Int) => (fun n => (Lit.int .i64 n).wf = true) x.1 ∧ (fun n => (Lit.int .i64 n).wf = true) x.2) (x.f0, x.f1)) x.2)
  · rfl
  · rfl
  · exact o2
  apply Opn.at_cons (T := 2) (G := fun n => (Lit.int .i64 n).wf = true) (G2 := fun (x : S75) => (fun (x : Int × Int) => (fun n => (Lit.int .i64 n).wf = true) x.1 ∧ (fun n => (Lit.int .i64 n).wf = true) x.2) (x.f0, x.f1))
  · rfl
  · rfl
  · exact o2
  apply Opn.at_last (T := 75)
  · rfl
  · rfl
  · exact o75
theorem o22 : Opn.Opens Try.prog 22 (Kd.slice 77 k77) (fun (xs : List S77) => xs.length ≤ maxLen ∧ ∀ x ∈ xs, (fun (x : S77) => (fun (x : Int × Int × Int × Int × Int × Int × Int × Int × Int × Int × Int × S74 × Int × Int × Int × S75) => (fun n => (Lit.int .i64 n).wf = true) x.1 ∧ (fun (x : Int × Int × Int × Int × Int × Int × Int × Int × Int × Int × S74 × Int × Int × Int × S75) => (fun n => (Lit.int .i64 n).wf = true) x.1 ∧ (fun (x : Int × Int × Int × Int × Int × Int × Int × Int × Int × S74 × Int × Int × Int × S75) => (fun n => (Lit.int .i64 n).wf = true) x.1 ∧ (fun (x : Int × Int × Int × Int × Int × Int × Int × Int × S74 × Int × Int × Int × S75) => (fun n => (Lit.int .i64 n).wf = true) x.1 ∧ (fun (x : Int × Int × Int × Int × Int × Int × Int × S74 × Int × Int × Int × S75) => (fun n => (Lit.int .i64 n).wf = true) x.1 ∧ (fun (x : Int × Int × Int × Int × Int × Int × S74 × Int × Int × Int × S75) => (fun n => (Lit.int .i64 n).wf = true) x.1 ∧ (fun (x : Int × Int × Int × Int × Int × S74 × Int × Int × Int × S75) => (fun n => (Lit.int .i64 n).wf = true) x.1 ∧ (fun (x : Int × Int × Int × Int × S74 × Int × Int × Int × S75) => (fun n => (Lit.int .i64 n).wf = true) x.1 ∧ (fun (x : Int × Int × Int × S74 × Int × Int × Int × S75) => (fun n => (Lit.int .i64 n).wf = true) x.1 ∧ (fun (x : Int × Int × S74 × Int × Int × Int × S75) => (fun n => (Lit.int .i64 n).wf = true) x.1 ∧ (fun (x : Int × S74 × Int × Int × Int × S75) => (fun n => (Lit.int .i64 n).wf = true) x.1 ∧ (fun (x : S74 × Int × Int × Int × S75) => (fun (x : S74) => (fun (x : Int × Int × Int × Int) => (fun n => (Lit.int .i64 n).wf = true) x.1 ∧ (fun (x : Int × Int × Int) => (fun n => (Lit.int .i64 n).wf = true) x.1 ∧ (fun (x : Int × Int) => (fun n => (Lit.int .i64 n).wf = true) x.1 ∧ (fun n => (Lit.int .i64 n).wf = true) x.2) x.2) x.2) (x.f0, x.f1, x.f2, x.f3)) x.1 ∧ (fun (x : Int × Int × Int × S75) => (fun n => (Lit.int .i64 n).wf = true) x.1 ∧ (fun (x : Int × Int × S75) => (fun n => (Lit.int .i64 n).wf = true) x.1 ∧ (fun (x : Int × S75) => (fun n => (Lit.int .i64 n).wf = true) x.1 ∧ (fun (x : S75) => (fun (x : Int × Int) => (fun n => (Lit.int .i64 n).wf = true) x.1 ∧ (fun n => (Lit.int .i64 n).wf = true) x.2) (x.f0, x.f1)) x.2) x.2) x.2) x.2) x.2) x.2) x.2) x.2) x.2) x.2) x.2) x.2) x.2) x.2) x.2) (x.f0, x.f1, x.f2, x.f3, x.f4, x.f5, x.f6, x.f7, x.f8, x.f9, x.f10, x.f11, x.f12, x.f13, x.f14, x.f15)) x) := Opn.opens_slice Try.underlying22 (by kernel_rfl) o77
theorem o24 : Opn.Opens Try.prog 24 (Kd.iso (Kd.pair (Kd.int .i64) (Kd.pair (Kd.int .i64) (Kd.slice 77 k77))) (fun x => x)) (fun (x : Int × Int × (List S77)) => (fun n => (Lit.int .i64 n).wf = true) x.1 ∧ (fun (x : Int × (List S77)) => (fun n => (Lit.int .i64 n).wf = true) x.1 ∧ (fun (xs : List S77) => xs.length ≤ maxLen ∧ ∀ x ∈ xs, (fun (x : S77) => (fun (x : Int × Int × Int × Int × Int × Int × Int × Int × Int × Int × Int × S74 × Int × Int × Int × S75) => (fun n => (Lit.int .i64 n).wf = true) x.1 ∧ (fun (x : Int × Int × Int × Int × Int × Int × Int × Int × Int × Int × S74 × Int × Int × Int × S75) => (fun n => (Lit.int .i64 n).wf = true) x.1 ∧ (fun (x : Int × Int × Int × Int × Int × Int × Int × Int × Int × S74 × Int × Int × Int × S75) => (fun n => (Lit.int .i64 n).wf = true) x.1 ∧ (fun (x : Int × Int × Int × Int × Int × Int × Int × Int × S74 × Int × Int × Int × S75) => (fun n => (Lit.int .i64 n).wf = true) x.1 ∧ (fun (x : Int × Int × Int × Int × Int × Int × Int × S74 × Int × Int × Int × S75) => (fun n => (Lit.int .i64 n).wf = true) x.1 ∧ (fun (x : Int × Int × Int × Int × Int × Int × S74 × Int × Int × Int × S75) => (fun n => (Lit.int .i64 n).wf = true) x.1 ∧ (fun (x : Int × Int × Int × Int × Int × S74 × Int × Int × Int × S75) => (fun n => (Lit.int .i64 n).wf = true) x.1 ∧ (fun (x : Int × Int × Int × Int × S74 × Int × Int × Int × S75) => (fun n => (Lit.int .i64 n).wf = true) x.1 ∧ (fun (x : Int × Int × Int × S74 × Int × Int × Int × S75) => (fun n => (Lit.int .i64 n).wf = true) x.1 ∧ (fun (x : Int × Int × S74 × Int × Int × Int × S75) => (fun n => (Lit.int .i64 n).wf = true) x.1 ∧ (fun (x : Int × S74 × Int × Int × Int × S75) => (fun n => (Lit.int .i64 n).wf = true) x.1 ∧ (fun (x : S74 × Int × Int × Int × S75) => (fun (x : S74) => (fun (x : Int × Int × Int × Int) => (fun n => (Lit.int .i64 n).wf = true) x.1 ∧ (fun (x : Int × Int × Int) => (fun n => (Lit.int .i64 n).wf = true) x.1 ∧ (fun (x : Int × Int) => (fun n => (Lit.int .i64 n).wf = true) x.1 ∧ (fun n => (Lit.int .i64 n).wf = true) x.2) x.2) x.2) (x.f0, x.f1, x.f2, x.f3)) x.1 ∧ (fun (x : Int × Int × Int × S75) => (fun n => (Lit.int .i64 n).wf = true) x.1 ∧ (fun (x : Int × Int × S75) => (fun n => (Lit.int .i64 n).wf = true) x.1 ∧ (fun (x : Int × S75) => (fun n => (Lit.int .i64 n).wf = true) x.1 ∧ (fun (x : S75) => (fun (x : Int × Int) => (fun n => (Lit.int .i64 n).wf = true) x.1 ∧ (fun n => (Lit.int .i64 n).wf = true) x.2) (x.f0, x.f1)) x.2) x.2) x.2) x.2) x.2) x.2) x.2) x.2) x.2) x.2) x.2) x.2) x.2) x.2) x.2) (x.f0, x.f1, x.f2, x.f3, x.f4, x.f5, x.f6, x.f7, x.f8, x.f9, x.f10, x.f11, x.f12, x.f13, x.f14, x.f15)) x) x.2) x.2) := by
  refine Opn.opens_struct (G := fun (x : Int × Int × (List S77)) => (fun n => (Lit.int .i64 n).wf = true) x.1 ∧ (fun (x : Int × (List S77)) => (fun n => (Lit.int .i64 n).wf = true) x.1 ∧ (fun (xs : List S77) => xs.length ≤ maxLen ∧ ∀ x ∈ xs, (fun (x : S77) => (fun (x : Int × Int × Int × Int × Int × Int × Int × Int × Int × Int × Int × S74 × Int × Int × Int × S75) => (fun n => (Lit.int .i64 n).wf = true) x.1 ∧ (fun (x : Int × Int × Int × Int × Int × Int × Int × Int × Int × Int × S74 × Int × Int × Int × S75) => (fun n => (Lit.int .i64 n).wf = true) x.1 ∧ (fun (x : Int × Int × Int × Int × Int × Int × Int × Int × Int × S74 × Int × Int × Int × S75) => (fun n => (Lit.int .i64 n).wf = true) x.1 ∧ (fun (x : Int × Int × Int × Int × Int × Int × Int × Int × S74 × Int × Int × Int × S75) => (fun n => (Lit.int .i64 n).wf = true) x.1 ∧ (fun (x : Int × Int × Int × Int × Int × Int × Int × S74 × Int × Int × Int × S75) => (fun n => (Lit.int .i64 n).wf = true) x.1 ∧ (fun (x : Int × Int × Int × Int × Int × Int × S74 × Int × Int × Int × S75) => (fun n => (Lit.int .i64 n).wf = true) x.1 ∧ (fun (x : Int × Int × Int × Int × Int × S74 × Int × Int × Int × S75) => (fun n => (Lit.int .i64 n).wf = true) x.1 ∧ (fun (x : Int × Int × Int × Int × S74 × Int × Int × Int × S75) => (fun n => (Lit.int .i64 n).wf = true) x.1 ∧ (fun (x : Int × Int × Int × S74 × Int × Int × Int × S75) => (fun n => (Lit.int .i64 n).wf = true) x.1 ∧ (fun (x : Int × Int × S74 × Int × Int × Int × S75) => (fun n => (Lit.int .i64 n).wf = true) x.1 ∧ (fun (x : Int × S74 × Int × Int × Int × S75) => (fun n => (Lit.int .i64 n).wf = true) x.1 ∧ (fun (x : S74 × Int × Int × Int × S75) => (fun (x : S74) => (fun (x : Int × Int × Int × Int) => (fun n => (Lit.int .i64 n).wf = true) x.1 ∧ (fun (x : Int × Int × Int) => (fun n => (Lit.int .i64 n).wf = true) x.1 ∧ (fun (x : Int × Int) => (fun n => (Lit.int .i64 n).wf = true) x.1 ∧ (fun n => (Lit.int .i64 n).wf = true) x.2) x.2) x.2) (x.f0, x.f1, x.f2, x.f3)) x.1 ∧ (fun (x : Int × Int × Int × S75) => (fun n => (Lit.int .i64 n).wf = true) x.1 ∧ (fun (x : Int × Int × S75) => (fun n => (Lit.int .i64 n).wf = true) x.1 ∧ (fun (x : Int × S75) => (fun n => (Lit.int .i64 n).wf = true) x.1 ∧ (fun (x : S75) => (fun (x : Int × Int) => (fun n => (Lit.int .i64 n).wf = true) x.1 ∧ (fun n => (Lit.int .i64 n).wf = true) x.2) (x.f0, x.f1)) x.2) x.2) x.2) x.2) x.2) x.2) x.2) x.2) x.2) x.2) x.2) x.2) x.2) x.2) x.2) (x.f0, x.f1, x.f2, x.f3, x.f4, x.f5, x.f6, x.f7, x.f8, x.f9, x.f10, x.f11, x.f12, x.f13, x.f14, x.f15)) x) x.2) x.2) (fun x => x) (fun y => y) (fun _ => rfl) Try.underlying24 (by kernel_rfl) ?_
  apply Opn.at_cons (T := 2) (G := fun n => (Lit.int .i64 n).wf = true) (G2 := fun (x : Int × (List S77)) => (fun n => (Lit.int .i64 n).wf = true) x.1 ∧ (fun (xs : List S77) => xs.length ≤ maxLen ∧ ∀ x ∈ xs, (fun (x : S77) => (fun (x : Int × Int × Int × Int × Int × Int × Int × Int × Int × Int × Int × S74 × Int × Int × Int × S75) => (fun n => (Lit.int .i64 n).wf = true) x.1 ∧ (fun (x : Int × Int × Int × Int × Int × Int × Int × Int × Int × Int × S74 × Int × Int × Int × S75) => (fun n => (Lit.int .i64 n).wf = true) x.1 ∧ (fun (x : Int × Int × Int × Int × Int × Int × Int × Int × Int × S74 × Int × Int × Int × S75) => (fun n => (Lit.int .i64 n).wf = true) x.1 ∧ (fun (x : Int × Int × Int × Int × Int × Int × Int × Int × S74 × Int × Int × Int × S75) => (fun n => (Lit.int .i64 n).wf = true) x.1 ∧ (fun (x : Int × Int × Int × Int × Int × Int × Int × S74 × Int × Int × Int × S75) => (fun n => (Lit.int .i64 n).wf = true) x.1 ∧ (fun (x : Int × Int × Int × Int × Int × Int × S74 × Int × Int × Int × S75) => (fun n => (Lit.int .i64 n).wf = true) x.1 ∧ (fun (x : Int × Int × Int × Int × Int × S74 × Int × Int × Int × S75) => (fun n => (Lit.int .i64 n).wf = true) x.1 ∧ (fun (x : Int × Int × Int × Int × S74 × Int × Int × Int × S75) => (fun n => (Lit.int .i64 n).wf = true) x.1 ∧ (fun (x : Int × Int × Int × S74 × Int × Int × Int × S75) => (fun n => (Lit.int .i64 n).wf = true) x.1 ∧ (fun (x : Int × Int × S74 × Int × Int × Int × S75) => (fun n => (Lit.int .i64 n).wf = true) x.1 ∧ (fun (x : Int × S74 × Int × Int × Int × S75) => (fun n => (Lit.int .i64 n).wf = true) x.1 ∧ (fun (x : S74 × Int × Int × Int × S75) => (fun (x : S74) => (fun (x : Int × Int × Int × Int) => (fun n => (Lit.int .i64 n).wf = true) x.1 ∧ (fun (x : Int × Int × Int) => (fun n => (Lit.int .i64 n).wf = true) x.1 ∧ (fun (x : Int × Int) => (fun n => (Lit.int .i64 n).wf = true) x.1 ∧ (fun n => (Lit.int .i64 n).wf = true) x.2) x.2) x.2) (x.f0, x.f1, x.f2, x.f3)) x.1 ∧ (fun (x : Int × Int × Int × S75) => (fun n => (Lit.int .i64 n).wf = true) x.1 ∧ (fun (x : Int × Int × S75) => (fun n => (Lit.int .i64 n).wf = true) x.1 ∧ (fun (x : Int × S75) => (fun n => (Lit.int .i64 n).wf = true) x.1 ∧ (fun (x : S75) => (fun (x : Int × Int) => (fun n => (Lit.int .i64 n).wf = true) x.1 ∧ (fun n => (Lit.int .i64 n).wf = true) x.2) (x.f0, x.f1)) x.2) x.2) x.2) x.2) x.2) x.2) x.2) x.2) x.2) x.2) x.2) x.2) x.2) x.2) x.2) (x.f0, x.f1, x.f2, x.f3, x.f4, x.f5, x.f6, x.f7, x.f8, x.f9, x.f10, x.f11, x.f12, x.f13, x.f14, x.f15)) x) x.2)
  · rfl
  · rfl
  · exact o2
  apply Opn.at_cons (T := 2) (G := fun n => (Lit.int .i64 n).wf = true) (G2 := fun (xs : List S77) => xs.length ≤ maxLen ∧ ∀ x ∈ xs, (fun (x : S77) => (fun (x : Int × Int × Int × Int × Int × Int × Int × Int × Int × Int × Int × S74 × Int × Int × Int × S75) => (fun n => (Lit.int .i64 n).wf = true) x.1 ∧ (fun (x : Int × Int × Int × Int × Int × Int × Int × Int × Int × Int × S74 × Int × Int × Int × S75) => (fun n => (Lit.int .i64 n).wf = true) x.1 ∧ (fun (x : Int × Int × Int × Int × Int × Int × Int × Int × Int × S74 × Int × Int × Int × S75) => (fun n => (Lit.int .i64 n).wf = true) x.1 ∧ (fun (x : Int × Int × Int × Int × Int × Int × Int × Int × S74 × Int × Int × Int × S75) => (fun n => (Lit.int .i64 n).wf = true) x.1 ∧ (fun (x : Int × Int × Int × Int × Int × Int × Int × S74 × Int × Int × Int × S75) => (fun n => (Lit.int .i64 n).wf = true) x.1 ∧ (fun (x : Int × Int × Int × Int × Int × Int × S74 × Int × Int × Int × S75) => (fun n => (Lit.int .i64 n).wf = true) x.1 ∧ (fun (x : Int × Int × Int × Int × Int × S74 × Int × Int × Int × S75) => (fun n => (Lit.int .i64 n).wf = true) x.1 ∧ (fun (x : Int × Int × Int × Int × S74 × Int × Int × Int × S75) => (fun n => (Lit.int .i64 n).wf = true) x.1 ∧ (fun (x : Int × Int × Int × S74 × Int × Int × Int × S75) => (fun n => (Lit.int .i64 n).wf = true) x.1 ∧ (fun (x : Int × Int × S74 × Int × Int × Int × S75) => (fun n => (Lit.int .i64 n).wf = true) x.1 ∧ (fun (x : Int × S74 × Int × Int × Int × S75) => (fun n => (Lit.int .i64 n).wf = true) x.1 ∧ (fun (x : S74 × Int × Int × Int × S75) => (fun (x : S74) => (fun (x : Int × Int × Int × Int) => (fun n => (Lit.int .i64 n).wf = true) x.1 ∧ (fun (x : Int × Int × Int) => (fun n => (Lit.int .i64 n).wf = true) x.1 ∧ (fun (x : Int × Int) => (fun n => (Lit.int .i64 n).wf = true) x.1 ∧ (fun n => (Lit.int .i64 n).wf = true) x.2) x.2) x.2) (x.f0, x.f1, x.f2, x.f3)) x.1 ∧ (fun (x : Int × Int × Int × S75) => (fun n => (Lit.int .i64 n).wf = true) x.1 ∧ (fun (x : Int × Int × S75) => (fun n => (Lit.int .i64 n).wf = true) x.1 ∧ (fun (x : Int × S75) => (fun n => (Lit.int .i64 n).wf = true) x.1 ∧ (fun (x : S75) => (fun (x : Int × Int) => (fun n => (Lit.int .i64 n).wf = true) x.1 ∧ (fun n => (Lit.int .i64 n).wf = true) x.2) (x.f0, x.f1)) x.2) x.2) x.2) x.2) x.2) x.2) x.2) x.2) x.2) x.2) x.2) x.2) x.2) x.2) x.2) (x.f0, x.f1, x.f2, x.f3, x.f4, x.f5, x.f6, x.f7, x.f8, x.f9, x.f10, x.f11, x.f12, x.f13, x.f14, x.f15)) x)
  · rfl
  · rfl
  · exact o2
  apply Opn.at_last (T := 22)
  · rfl
  · rfl
  · exact o22
set_option maxRecDepth 100000 in
theorem lifted (os : Os) (started : os.Started) (H : Type) (enc : TypeId × Value → H) :
    ReturnsInHanded {} Try.checked os 3 .any (Rows.fnExactDoneTalksSpec.pre6 enc Try.prog Try.f3 Rows.fnExactDoneTalksRow.domain false) (Rows.fnExactDoneTalksSpec.post enc Try.prog Try.f3 false true false false) := by
  refine returnsInHanded_of_change_sized (C := Try.checked) own started (by kernel_rfl) Try.func3
    (ChangeSpec.witness6 (enc := enc) (C := Try.checked) false ⟨#[], #[.agg #[.int .i64 0, .int .i64 0, .slice none 0 0]], []⟩ 8 (by kernel_rfl) (by kernel_rfl) (by kernel_rfl) (by kernel_rfl)) ?_
  intro W base args ds gs before hval0 hW hcnd hsz0 _
  have hval : ∀ (j : Nat) t v, Try.f3.params[j]? = some t → args[j]? = some v → Value.okWide Try.prog W .any base t v := hval0
  have hW' := hW
  obtain ⟨p, q, hA0, hV, rfl, hfz, hnd⟩ := hW
  have hA : DataW.TrodAll enc Try.prog W 0 (fun _ => true) true Try.f3.params.toList args.toList ds p := hA0
  rw [Try.params3] at hA hval
  obtain ⟨v0, vs0, d0, ds0, p0, q0, hargs, rfl, rfl, h0, r0⟩ := trodAll_cons hA
  obtain ⟨rfl, rfl, rfl⟩ := trodAll_nil r0
  obtain rfl : args = #[v0] := by cases args; simp_all
  obtain ⟨rfl, rfl⟩ := trodVars_none hV
  have k0 := h0
  have lt0 : ∀ x ∈ p0, x.block < W.heap.size := by obtain ⟨m, hm⟩ := k0; exact DataW.trod_lt m _ _ _ hm
  obtain ⟨x0, cs0, rfl, hk0, hg0⟩ := Opn.arg_struct Try.underlying24 o24 (hval 0 24 v0 rfl rfl) h0
  obtain ⟨_, _, rfl, rfl, ⟨_, _, rfl, rfl, ⟨A0_0, c0_0, rfl, hc0_0, hr0_0⟩⟩⟩ := hk0
  clear hA0 hval0 hsz0
  obtain ⟨k, h⟩ := Pure.FnExactDoneTalks x0 hg0
  refine (laws_FnExactDoneTalks.calls k (x0.1) (x0.2.1) A0_0 c0_0 x0.2.2 W hr0_0 hc0_0 h).mono fun e W' ⟨he, bel0⟩ => ?_
  have bel : Below W.heap.size W W' := bel0
  subst he
  exact ⟨_, rfl, _, _, _, [], _, [], hW', trodAll_mk1 (shut_bool Try.underlying4 _), (trodAll_cons_mk (Below.trod laidOut (by kernel_rfl) (of_decide_eq_true (by kernel_rfl)) k0 bel lt0) trodAll_mk0), rfl, bel.frame _, fun h => by cases h⟩
theorem over : Rows.fnExactDoneTalksRow.holds Try.pinned (OpenSpec.ofChange Rows.fnExactDoneTalksSpec) :=
  OpenClaim.holds_of_wide 3 Try.f3 rfl rfl rfl rfl rfl rfl rfl ⟨rfl, rfl, rfl, rfl, rfl⟩ rfl rfl rfl rfl rfl (by kernel_rfl) Try.func3 (by kernel_rfl)
    (of_decide_eq_true (by kernel_rfl)) (by unfold Func.isWrapper; first | (rw [if_pos (by decide +kernel)]; kernel_rfl) | (rw [if_neg (by decide +kernel)]; exact ⟨rfl, rfl⟩))
    (fun os started H enc _ => lifted os started H enc)
end Go.Proofs.Ytaniedjfkiklmaa.fnExactDoneTalks
namespace Go.Proofs.Ytaniedjfkiklmaa
theorem fnExactDoneTalks_holds : Rows.FnExactDoneTalksSaid := fnExactDoneTalks.over
end Go.Proofs.Ytaniedjfkiklmaa
#print axioms Go.Proofs.Ytaniedjfkiklmaa.fnExactDoneTalks_holds
