/- FnExactPutNames: for every input the law returns true and its arguments read afterwards as they read before. No condition. -/
import Derived.Test.YtomaeijhljpgdaaCFnExactPutNames3
import Derived.ChangeArms
import Derived.Deep.Slices
import Derived.ProofKit
import Derived.OpenShut
import Derived.Test.YtomaeijhljpgdaaRows
import Derived.WalkKit
import Derived.ShutString
import Derived.ChangeOld
import Derived.Below
import Derived.SizedLaws
set_option linter.unusedVariables false
namespace Go.Proofs.Ytomaeijhljpgdaa.Opn
open Go.Proofs.YtomaeijhljpgdaaW.PrintWords
def Opens {α : Type} (P : Program) (t : TypeId) (d : Kd α) (G : α → Prop) : Prop :=
  P.cellsOf t = d.sz ∧ ∀ (H : Type) (enc : TypeId × Value → H) (W : World) (base : Nat) (sp : Nat → Bool) (held : Bool) (fuel : Nat) (cs : List Value) (x : DataW H × List MemPlace),
    DataW.trod enc P W base sp held fuel t cs = some x → ∃ a, d.K W a cs ∧ G a
theorem opens_int {P : Program} {t : TypeId} {k : IntKind} (ht : P.underlying t = some (.int k)) (hc : P.cellsOf t = 1) : Opens P t (Kd.int k) (fun n => (Lit.int k n).wf = true) :=
  ⟨hc, fun H enc W base sp held fuel cs x hx => by
    obtain ⟨n, h, hx, hw⟩ := DataW.trod_int ht hx
    exact ⟨n, h, hw⟩⟩
theorem opens_slice {α : Type} {P : Program} {t e : TypeId} {d : Kd α} {G : α → Prop} (ht : P.underlying t = some (.slice e)) (hc : P.cellsOf t = 1) (he : Opens P e d G) :
    Opens P t (Kd.slice e d) (fun xs => xs.length ≤ maxLen ∧ ∀ x ∈ xs, G x) :=
  ⟨hc, fun H enc W base sp held fuel cs x hx => by
    rcases Go.Deep.open_slice ht hx with ⟨rfl, rfl⟩ | ⟨a, len, cap, m, n, D, Pl, rfl, hb, hl, hm, hmm, rfl, hel⟩
    · refine ⟨[], ⟨none, 0, rfl, Nat.le_refl _, rfl, by simp, ?_⟩, by simp, by simp⟩
      intro h; exact absurd h (by simp)
    · have hle : len ≤ m := by rw [hmm]; split <;> omega
      have key : ∀ i, i < len → ∃ p : α, ∃ c : List Value, c.length = d.sz ∧ d.K W p c ∧ G p ∧ ∀ j u, c[j]? = some u → W.cell? (a.add (i * d.sz + j)) = some u := by
        intro i hi
        obtain ⟨c, h1, h2⟩ := hel i (by omega)
        obtain ⟨p, h3, h4⟩ := he.2 H enc W base sp held n c _ h2
        obtain ⟨_, h5, h6⟩ := World.cells?_some h1
        rw [he.1] at h5 h6
        refine ⟨p, c, h5, h3, h4, fun j u hj => ?_⟩
        have hjl : j < d.sz := by
          have := (List.getElem?_eq_some_iff.1 hj).1
          omega
        rw [← Go.Deep.add_add, h6 j hjl, hj]
      have ex : ∃ ps : List α, ps.length = len ∧ ∀ i p, ps[i]? = some p → ∃ c : List Value, c.length = d.sz ∧ d.K W p c ∧ G p ∧ ∀ j u, c[j]? = some u → W.cell? (a.add (i * d.sz + j)) = some u := by
        clear hel hmm hle hl hm hx
        induction len with
        | zero => exact ⟨[], rfl, fun i p h => by simp at h⟩
        | succ k ih =>
          obtain ⟨ps, h1, h2⟩ := ih (fun i hi => key i (by omega))
          obtain ⟨p, hp⟩ := key k (by omega)
          refine ⟨ps ++ [p], by simp [h1], fun i q h => ?_⟩
          by_cases hi : i < ps.length
          · rw [List.getElem?_append_left hi] at h
            exact h2 i q h
          · rw [List.getElem?_append_right (by omega)] at h
            have hi0 : i - ps.length = 0 := by
              have := (List.getElem?_eq_some_iff.1 h).1
              simp at this
              omega
            rw [hi0] at h
            simp at h
            subst h
            have : i = k := by omega
            subst this
            exact hp
      obtain ⟨ps, h1, h2⟩ := ex
      subst h1
      refine ⟨ps, ⟨some a, cap, rfl, hl, rfl, by simp only [maxLen] at hm; omega, fun _ => ⟨a, rfl, fun j p hj => ?_⟩⟩, by omega, fun x hx' => ?_⟩
      · obtain ⟨c, g1, g2, g3, g4⟩ := h2 j p hj
        exact ⟨c, g1, g2, g4⟩
      · obtain ⟨i, hi⟩ := List.getElem?_of_mem hx'
        obtain ⟨c, g1, g2, g3, g4⟩ := h2 i x hi
        exact g3⟩
def OpensAt {α : Type} (P : Program) (fs : List Field) (off : Nat) (d : Kd α) (G : α → Prop) : Prop :=
  ∀ (H : Type) (enc : TypeId × Value → H) (W : World) (base : Nat) (sp : Nat → Bool) (held : Bool) (n : Nat) (cs : List Value),
    cs.length = off + d.sz → (∀ f ∈ fs, ∃ y, DataW.trod enc P W base sp held n f.type ((cs.drop f.offset).take (P.cellsOf f.type)) = some y) → ∃ a, d.K W a (cs.drop off) ∧ G a
theorem at_last {α : Type} {P : Program} {f : Field} {off : Nat} {T : TypeId} {d : Kd α} {G : α → Prop} (hf : f.offset = off) (hT : f.type = T) (h : Opens P T d G) : OpensAt P [f] off d G :=
  fun H enc W base sp held n cs hl hfs => by
    subst hT
    obtain ⟨y, hy⟩ := hfs f (List.mem_singleton.2 rfl)
    rw [hf, h.1, List.take_of_length_le (by rw [List.length_drop]; omega)] at hy
    exact h.2 H enc W base sp held n _ _ hy
theorem at_cons {α β : Type} {P : Program} {f : Field} {fs : List Field} {off : Nat} {T : TypeId} {d : Kd α} {d2 : Kd β} {G : α → Prop} {G2 : β → Prop} (hf : f.offset = off) (hT : f.type = T) (h : Opens P T d G) (h2 : OpensAt P fs (off + d.sz) d2 G2) :
    OpensAt P (f :: fs) off (Kd.pair d d2) (fun x => G x.1 ∧ G2 x.2) :=
  fun H enc W base sp held n cs hl hfs => by
    subst hT
    obtain ⟨y, hy⟩ := hfs f (List.mem_cons_self)
    have hl' : cs.length = off + (d.sz + d2.sz) := hl
    rw [hf, h.1] at hy
    obtain ⟨a, k1, g1⟩ := h.2 H enc W base sp held n _ _ hy
    obtain ⟨b, k2, g2⟩ := h2 H enc W base sp held n cs (by omega) (fun f' hf' => hfs f' (List.mem_cons_of_mem _ hf'))
    refine ⟨(a, b), ⟨_, _, ?_, k1, k2⟩, g1, g2⟩
    rw [← List.drop_drop, List.take_append_drop]
theorem opens_struct {α β : Type} {P : Program} {t : TypeId} {fs : List Field} {d : Kd α} {G : α → Prop} (f : β → α) (g : α → β) (hfg : ∀ x, f (g x) = x) (ht : P.underlying t = some (.struct fs.toArray)) (hc : P.cellsOf t = d.sz) (h : OpensAt P fs 0 d G) :
    Opens P t (Kd.iso d f) (fun x => G (f x)) :=
  ⟨hc, fun H enc W base sp held fuel cs x hx => by
    obtain ⟨xs, n, _, _, hl, hlen, hf⟩ := DataW.trod_struct ht hx
    obtain ⟨a, k, g1⟩ := h H enc W base sp held n cs (by rw [hl, hc]; omega) (fun f' hf' => by
      obtain ⟨i, hi⟩ := List.getElem?_of_mem hf'
      have hi' : fs.toArray[i]? = some f' := by simpa using hi
      have hil : i < xs.length := by
        have := (List.getElem?_eq_some_iff.1 hi).1
        have h2 : xs.length = fs.length := by simpa using hlen
        omega
      have := hf i f' hi'
      rw [List.getElem?_eq_getElem hil] at this
      exact ⟨_, this⟩)
    refine ⟨g a, ?_, ?_⟩
    · show d.K W (f (g a)) cs
      rw [hfg]; simpa using k
    · show G (f (g a))
      rw [hfg]; exact g1⟩
theorem arg_slice {α : Type} {P : Program} {W : World} {t e : TypeId} {d : Kd α} {G : α → Prop} {H : Type} {enc : TypeId × Value → H} {base : Nat} {sp : Nat → Bool} {held : Bool} {A : Option Addr} {n c : Nat} {x : DataW H} {ps : List MemPlace}
    (ht : P.underlying t = some (.slice e)) (hc : P.cellsOf t = 1) (he : Opens P e d G) (h : DataW.Trod enc P W base sp held t (.slice A n c) x ps) :
    ∃ xs : List α, n = xs.length ∧ d.C W A xs.length xs ∧ xs.length ≤ c ∧ xs.length ≤ maxLen ∧ ∀ a ∈ xs, G a := by
  obtain ⟨fuel, hf⟩ := h
  obtain ⟨xs, ⟨A', c', h1, h2, h3⟩, h4, h5⟩ := (opens_slice ht hc he).2 H enc W base sp held fuel _ _ hf
  simp [Value.cells] at h1
  obtain ⟨rfl, rfl, rfl⟩ := h1
  exact ⟨xs, rfl, h3, h2, h4, h5⟩
end Go.Proofs.Ytomaeijhljpgdaa.Opn
namespace Go.Proofs.Ytomaeijhljpgdaa.Pure
open Go.RowKit Go.Proofs.Ytomaeijhljpgdaa.G Go.Proofs.YtomaeijhljpgdaaW.PrintWords Go.Proofs.YtomaeijhljpgdaaW.PrintLast
def laws_FnExactPutNames.Pure : Prop := ∀ (l0 : List S98) (l1 : List Int), l0.length ≤ maxLen → (∀ x ∈ l0, (fun (x : S98) => (fun (x : Int × Int × Int × Int) => (fun n => (Lit.int .i64 n).wf = true) x.1 ∧ (fun (x : Int × Int × Int) => (fun n => (Lit.int .i64 n).wf = true) x.1 ∧ (fun (x : Int × Int) => (fun n => (Lit.int .i64 n).wf = true) x.1 ∧ (fun n => (Lit.int .i64 n).wf = true) x.2) x.2) x.2) (x.f0, x.f1, x.f2, x.f3)) x) → l1.length ≤ maxLen → (∀ x ∈ l1, (fun n => (Lit.int .i64 n).wf = true) x) → ∃ k, laws_FnExactPutNames.f k l0 l1 = some true
end Go.Proofs.Ytomaeijhljpgdaa.Pure
set_option linter.unusedVariables false
set_option linter.unusedSimpArgs false
namespace Go.Proofs.Ytomaeijhljpgdaa.Pure
open Go.RowKit Go.Proofs.Ytomaeijhljpgdaa.G Go.Proofs.YtomaeijhljpgdaaW.PrintWords Go.Proofs.YtomaeijhljpgdaaW.PrintLast Go.Proofs.YtomaeijhljpgdaaW.PrintMore
theorem ev_succ {α : Type} {g : Nat → Option α} {r : α} (h : Ev (fun k => g (k + 1)) r) : Ev g r := by
  obtain ⟨K, hK⟩ := h
  refine ⟨K + 1, fun k hk => ?_⟩
  obtain ⟨m, rfl⟩ : ∃ m, k = m + 1 := ⟨k - 1, by omega⟩
  exact hK m (by omega)
theorem w64' {n : Int} (h0 : -9223372036854775808 ≤ n) (h1 : n ≤ 9223372036854775807) : wrap64 n = n := by unfold wrap64; omega
theorem rd_nat (l : List Int) (i : Nat) : rd l (i : Int) = l.getD i 0 := by simp [rd]
theorem set_split {α : Type} (pre rest : List α) (x y : α) : (pre ++ x :: rest).set pre.length y = pre ++ y :: rest := by
  simp
theorem toInt64S_l0 (l : List Int) (hl : l.length ≤ 9223372036854775807) (z : Int) (d : Nat) : ∀ (k i : Nat), i + d = l.length → d < k →
    laws_toInt64S.l0 k l (l.take i ++ List.replicate d z) i = some l := by
  induction d with
  | zero =>
    intro k i hi hk
    obtain ⟨k, rfl⟩ : ∃ m, k = m + 1 := ⟨k - 1, by omega⟩
    simp only [laws_toInt64S.l0]; rw [if_neg (by omega)]
    simp [List.take_of_length_le (show l.length ≤ i by omega)]
  | succ d ih =>
    intro k i hi hk
    obtain ⟨k, rfl⟩ : ∃ m, k = m + 1 := ⟨k - 1, by omega⟩
    simp only [laws_toInt64S.l0]
    rw [if_pos (by omega), if_pos (by omega), if_pos (by simp; omega), w64' (by omega) (by omega), rd_nat]
    have e : (l.take i ++ List.replicate (d + 1) z).set ((i : Int)).toNat (l.getD i 0) = l.take (i + 1) ++ List.replicate d z := by
      rw [List.replicate_succ]
      have h1 : (l.take i).length = i := by simp; omega
      have := set_split (l.take i) (List.replicate d z) z (l.getD i 0)
      rw [h1] at this
      simp only [Int.toNat_natCast]
      have hg : l.getD i 0 = l[i]'(by omega) := by simp [List.getD, List.getElem?_eq_getElem (show i < l.length by omega)]
      rw [this, hg, List.take_succ_eq_append_getElem (by omega), List.append_assoc]; rfl
    rw [e]
    have := ih k (i + 1) (by omega) (by omega)
    simpa using this
theorem toInt64S_ev (l : List Int) (hl : l.length ≤ 35184372088832) : Ev (fun k => laws_toInt64S.f k l) l := by
  refine ⟨l.length + 1, fun k hk => ?_⟩
  simp only [laws_toInt64S.f]
  rw [if_pos (by omega), if_pos (by simp; omega)]
  have := toInt64S_l0 l (by omega) 0 l.length k 0 (by omega) (by omega)
  simpa using this
theorem eqInt64S_l0 (l : List Int) (hl : l.length ≤ 9223372036854775807) (d : Nat) : ∀ (k i : Nat), i + d = l.length → d < k → laws_eqInt64S.l0 k l l i = some true := by
  induction d with
  | zero =>
    intro k i hi hk
    obtain ⟨k, rfl⟩ : ∃ m, k = m + 1 := ⟨k - 1, by omega⟩
    simp only [laws_eqInt64S.l0]; rw [if_neg (by omega)]
  | succ d ih =>
    intro k i hi hk
    obtain ⟨k, rfl⟩ : ∃ m, k = m + 1 := ⟨k - 1, by omega⟩
    simp only [laws_eqInt64S.l0]
    rw [if_pos (by omega), if_pos (by omega), if_pos (by omega), if_pos trivial, w64' (by omega) (by omega)]
    have := ih k (i + 1) (by omega) (by omega)
    simpa using this
theorem eqInt64S_ev (l : List Int) (hl : l.length ≤ 9223372036854775807) : Ev (fun k => laws_eqInt64S.f k l l) true := by
  refine ⟨l.length + 1, fun k hk => ?_⟩
  simp only [laws_eqInt64S.f, if_true]
  have := eqInt64S_l0 l hl l.length k 0 (by omega) (by omega)
  simpa using this
def marks (m : Int) (n : Nat) : List Int := (List.range n).map fun (i : Nat) => m + (i : Int)
theorem marks_length (m : Int) (n : Nat) : (marks m n).length = n := by simp [marks]
theorem marks_succ (m : Int) (n : Nat) : marks m (n + 1) = marks m n ++ [m + n] := by simp [marks, List.range_succ]
theorem markInt64S_l0 (l : List Int) (m : Int) (hm : 0 ≤ m) (hl : m + l.length ≤ 9223372036854775806) (d : Nat) : ∀ (k i : Nat), i + d = l.length → d < k →
    laws_markInt64S.l0 k (marks m i ++ l.drop i) (m + i) i = some (m + l.length, marks m l.length) := by
  induction d with
  | zero =>
    intro k i hi hk
    obtain ⟨k, rfl⟩ : ∃ m, k = m + 1 := ⟨k - 1, by omega⟩
    obtain rfl : i = l.length := by omega
    simp only [laws_markInt64S.l0]; rw [if_neg (by simp [marks_length])]
    simp
  | succ d ih =>
    intro k i hi hk
    obtain ⟨k, rfl⟩ : ∃ m, k = m + 1 := ⟨k - 1, by omega⟩
    simp only [laws_markInt64S.l0]
    have hlen : (marks m i ++ l.drop i).length = l.length := by simp [marks_length]; omega
    rw [if_pos (by rw [hlen]; omega), if_pos (by omega), w64' (n := m + i + 1) (by omega) (by omega), w64' (n := (i : Int) + 1) (by omega) (by omega)]
    have e : (marks m i ++ l.drop i).set ((i : Int)).toNat (m + i) = marks m (i + 1) ++ l.drop (i + 1) := by
      rw [List.drop_eq_getElem_cons (show i < l.length by omega), marks_succ]
      have := set_split (marks m i) (l.drop (i + 1)) l[i] (m + i)
      rw [marks_length] at this
      simp only [Int.toNat_natCast]
      rw [this]; simp
    rw [e]
    have := ih k (i + 1) (by omega) (by omega)
    simpa [Int.add_assoc] using this
theorem markInt64S_ev (l : List Int) (m : Int) (hm : 0 ≤ m) (hl : m + l.length ≤ 9223372036854775806) : Ev (fun k => laws_markInt64S.f k l m) (m + l.length, marks m l.length) := by
  refine ⟨l.length + 1, fun k hk => ?_⟩
  unfold laws_markInt64S.f
  have := markInt64S_l0 l m hm hl l.length k 0 (by omega) (by omega)
  simpa [marks] using this
end Go.Proofs.Ytomaeijhljpgdaa.Pure
set_option linter.unusedVariables false
set_option linter.unusedSimpArgs false
namespace Go.Proofs.Ytomaeijhljpgdaa.Pure
open Go.RowKit Go.Proofs.Ytomaeijhljpgdaa.G Go.Proofs.YtomaeijhljpgdaaW.PrintWords Go.Proofs.YtomaeijhljpgdaaW.PrintLast Go.Proofs.YtomaeijhljpgdaaW.PrintMore
def toT (x : S98) : S26 := ⟨x.f0, x.f1, x.f2, x.f3⟩
theorem toTermS_l0 (l : List S98) (hl : l.length ≤ 9223372036854775807) (z : S26) (d : Nat) : ∀ (k i : Nat), i + d = l.length → d < k →
    laws_toTermS.l0 k l ((l.map toT).take i ++ List.replicate d z) i = some (l.map toT) := by
  induction d with
  | zero =>
    intro k i hi hk
    obtain ⟨k, rfl⟩ : ∃ m, k = m + 1 := ⟨k - 1, by omega⟩
    simp only [laws_toTermS.l0]; rw [if_neg (by omega)]
    simp [List.take_of_length_le (show (l.map toT).length ≤ i by simp; omega)]
  | succ d ih =>
    intro k i hi hk
    obtain ⟨k, rfl⟩ : ∃ m, k = m + 1 := ⟨k - 1, by omega⟩
    simp only [laws_toTermS.l0, laws_toTerm.f, Option.bind_some]
    rw [if_pos (by omega), if_pos (by omega), if_pos (by simp; omega), w64' (by omega) (by omega)]
    have e : ((l.map toT).take i ++ List.replicate (d + 1) z).set ((i : Int)).toNat (⟨(rd_T98 l i).f0, (rd_T98 l i).f1, (rd_T98 l i).f2, (rd_T98 l i).f3⟩ : S26) = (l.map toT).take (i + 1) ++ List.replicate d z := by
      rw [List.replicate_succ]
      have h1 : ((l.map toT).take i).length = i := by simp; omega
      have := set_split ((l.map toT).take i) (List.replicate d z) z (toT (rd_T98 l i))
      rw [h1] at this
      simp only [Int.toNat_natCast]
      have hg : toT (rd_T98 l i) = (l.map toT)[i]'(by simp; omega) := by simp [rd_T98, List.getD, List.getElem?_eq_getElem (show i < l.length by omega)]
      rw [List.take_succ_eq_append_getElem (by simp; omega), ← hg, List.append_assoc]
      exact this
    rw [e]
    have := ih k (i + 1) (by omega) (by omega)
    simpa using this
theorem toTermS_ev (l : List S98) (hl : l.length ≤ 8796093022208) : Ev (fun k => laws_toTermS.f k l) (l.map toT) := by
  refine ⟨l.length + 1, fun k hk => ?_⟩
  simp only [laws_toTermS.f]
  rw [if_pos (by omega), if_pos (by simp; omega)]
  have := toTermS_l0 l (by omega) z26 l.length k 0 (by omega) (by omega)
  simpa using this
theorem eqTermS_l0 (l : List S26) (hl : l.length ≤ 9223372036854775807) (d : Nat) : ∀ (k i : Nat), i + d = l.length → d < k → laws_eqTermS.l0 k l l i = some true := by
  induction d with
  | zero =>
    intro k i hi hk
    obtain ⟨k, rfl⟩ : ∃ m, k = m + 1 := ⟨k - 1, by omega⟩
    simp only [laws_eqTermS.l0]; rw [if_neg (by omega)]
  | succ d ih =>
    intro k i hi hk
    obtain ⟨k, rfl⟩ : ∃ m, k = m + 1 := ⟨k - 1, by omega⟩
    simp only [laws_eqTermS.l0, laws_eqTerm.f, if_true, Option.bind_some]
    rw [if_pos (by omega), if_pos (by omega), if_pos (by omega), w64' (by omega) (by omega)]
    have := ih k (i + 1) (by omega) (by omega)
    simpa using this
theorem eqTermS_ev (l : List S26) (hl : l.length ≤ 9223372036854775807) : Ev (fun k => laws_eqTermS.f k l l) true := by
  refine ⟨l.length + 1, fun k hk => ?_⟩
  simp only [laws_eqTermS.f, if_true]
  have := eqTermS_l0 l hl l.length k 0 (by omega) (by omega)
  simpa using this
def tmark (m : Int) (i : Nat) : S26 := ⟨m + 4 * i, m + 4 * i + 1, m + 4 * i + 1 + 1, m + 4 * i + 1 + 1 + 1⟩
def tmarks (m : Int) (n : Nat) : List S26 := (List.range n).map (tmark m)
theorem tmarks_length (m : Int) (n : Nat) : (tmarks m n).length = n := by simp [tmarks]
theorem tmarks_succ (m : Int) (n : Nat) : tmarks m (n + 1) = tmarks m n ++ [tmark m n] := by simp [tmarks, List.range_succ]
theorem rd_setT (l : List S26) (i : Nat) (h : i < l.length) (x : S26) : rd_T26 (l.set i x) (i : Int) = x := by
  simp [rd_T26, List.getD, h]
theorem markTermS_l0 (l : List S26) (m : Int) (hm : 0 ≤ m) (hl : m + 4 * l.length ≤ 9223372036854775800) (d : Nat) : ∀ (k i : Nat), i + d = l.length → d < k →
    laws_markTermS.l0 k (tmarks m i ++ l.drop i) (m + 4 * i) i = some (m + 4 * l.length, tmarks m l.length) := by
  induction d with
  | zero =>
    intro k i hi hk
    obtain ⟨k, rfl⟩ : ∃ m, k = m + 1 := ⟨k - 1, by omega⟩
    obtain rfl : i = l.length := by omega
    simp only [laws_markTermS.l0]; rw [if_neg (by simp [tmarks_length])]
    simp
  | succ d ih =>
    intro k i hi hk
    obtain ⟨k, rfl⟩ : ∃ m, k = m + 1 := ⟨k - 1, by omega⟩
    simp only [laws_markTermS.l0]
    have hlen : (tmarks m i ++ l.drop i).length = l.length := by simp [tmarks_length]; omega
    have hle : i < (tmarks m i ++ l.drop i).length := by omega
    have e1 : wrap64 (m + 4 * i + 1) = m + 4 * i + 1 := w64' (by omega) (by omega)
    have e2 : wrap64 (m + 4 * i + 1 + 1) = m + 4 * i + 1 + 1 := w64' (by omega) (by omega)
    have e3 : wrap64 (m + 4 * i + 1 + 1 + 1) = m + 4 * i + 1 + 1 + 1 := w64' (by omega) (by omega)
    have e4 : wrap64 (m + 4 * i + 1 + 1 + 1 + 1) = m + 4 * i + 1 + 1 + 1 + 1 := w64' (by omega) (by omega)
    rw [e1, e2, e3, e4, w64' (n := (i : Int) + 1) (by omega) (by omega)]
    simp only [Option.bind_some, Int.toNat_natCast, show (i : Int) < ((tmarks m i ++ l.drop i).length : Int) by omega, show 0 ≤ (i : Int) by omega, if_true]
    simp only [List.set_set, rd_setT _ i hle]
    have e : (tmarks m i ++ l.drop i).set i (⟨m + 4 * i, m + 4 * i + 1, m + 4 * i + 1 + 1, m + 4 * i + 1 + 1 + 1⟩ : S26) = tmarks m (i + 1) ++ l.drop (i + 1) := by
      rw [List.drop_eq_getElem_cons (show i < l.length by omega), tmarks_succ]
      have := set_split (tmarks m i) (l.drop (i + 1)) l[i] (tmark m i)
      rw [tmarks_length] at this
      show _ = _
      rw [show (⟨m + 4 * i, m + 4 * i + 1, m + 4 * i + 1 + 1, m + 4 * i + 1 + 1 + 1⟩ : S26) = tmark m i from rfl, this]; simp
    rw [e]
    have := ih k (i + 1) (by omega) (by omega)
    rw [show m + 4 * (i : Int) + 1 + 1 + 1 + 1 = m + 4 * ((i + 1 : Nat) : Int) by omega, show (i : Int) + 1 = ((i + 1 : Nat) : Int) by omega]
    exact this
theorem markTermS_ev (l : List S26) (m : Int) (hm : 0 ≤ m) (hl : m + 4 * l.length ≤ 9223372036854775800) : Ev (fun k => laws_markTermS.f k l m) (m + 4 * l.length, tmarks m l.length) := by
  refine ⟨l.length + 1, fun k hk => ?_⟩
  unfold laws_markTermS.f
  have := markTermS_l0 l m hm hl l.length k 0 (by omega) (by omega)
  simpa [tmarks] using this
theorem in_specT (a b c : Int) : spec_l1In.f a b c = some (decide (b ≤ a ∧ a ≤ c)) := by
  unfold spec_l1In.f; split
  · congr 1; simp; omega
  · congr 1; simp; omega
theorem kids_ev (a : Int) : Ev (fun k => spec_l5Kids.f k a) (if a = 3 ∨ a = 4 ∨ a = 5 ∨ a = 7 then 2 else if a = 6 then 1 else 0) := by
  refine ⟨1, fun k hk => ?_⟩
  obtain ⟨m, rfl⟩ : ∃ m, k = m + 1 := ⟨k - 1, by omega⟩
  unfold spec_l5Kids.f
  by_cases h3 : a = 3
  · simp [spec_l5Kids.j0, h3]
  · by_cases h4 : a = 4
    · simp [spec_l5Kids.j0, h4]
    · by_cases h5 : a = 5
      · simp [spec_l5Kids.j0, h5]
      · by_cases h7 : a = 7
        · simp [spec_l5Kids.j0, h7]
        · by_cases h6 : a = 6
          · simp [spec_l5Kids.j0, h6]
          · simp [spec_l5Kids.j0, h3, h4, h5, h6, h7]
theorem notIn_iff (l : List S26) (x : Int) : notIn l x = false ↔ (0 ≤ x ∧ x < (l.length : Int)) := by
  unfold notIn; simp; omega
theorem term_ev (a0 a1 a2 a3 : Int) (l : List S26) (hl : l.length ≤ 9223372036854775807) : Ev (fun k => spec_l5Term.f k l a0 a1 a2 a3) (tfault a0 a1 a2 a3 l) := by
  have hw : wrap64 ((l.length : Int) - 1) = (l.length : Int) - 1 := w64' (by omega) (by omega)
  unfold spec_l5Term.f
  simp only [in_specT, Option.bind_some, decide_eq_true_eq]
  unfold tfault
  by_cases hop : 1 ≤ a0 ∧ a0 ≤ 7
  rotate_left
  · simp only [if_neg hop]; exact Ev.now _
  simp only [if_pos hop]
  refine Ev.bind (kids_ev a0) ?_
  -- what stands behind the form's test
  have j2 : ∀ (n : Int) (t : Bool), (t = (a0 == 6 || a0 == 7)) → (a0 = 6 ∨ a0 = 7 → notIn l a1 = false ∧ (n > 1 → notIn l a2 = false)) → Ev (fun k => spec_l5Term.j2 k l n t a0 a1 a2 a3) (if a0 = 6 ∨ a0 = 7 then (if notFresh l a1 = true then 1 else if n > 1 then (if notFresh l a2 = true ∨ a1 > a2 then 1 else 0) else 0) else 0) := by
    intro n t ht hin
    refine ev_succ ?_
    simp only [spec_l5Term.j2]
    by_cases h67 : a0 = 6 ∨ a0 = 7
    · obtain ⟨i1, i2⟩ := hin h67
      rw [notIn_iff] at i1
      have ht' : t = true := by rw [ht]; rcases h67 with h | h <;> simp [h]
      simp only [ht', if_true, if_pos h67, i1.1, i1.2]
      by_cases hf : (rd_T26 l a1).f0 = 2
      · have hf' : notFresh l a1 = false := by unfold notFresh; simp [hf]
        simp only [hf, hf', if_true, Bool.false_eq_true, if_false]
        by_cases hn : n > 1
        · have i2' := i2 hn
          rw [notIn_iff] at i2'
          simp only [hn, if_true, i2'.1, i2'.2]
          by_cases hg : (rd_T26 l a2).f0 = 2
          · have hg' : notFresh l a2 = false := by unfold notFresh; simp [hg]
            simp only [hg, hg', if_true, Bool.false_eq_true, false_or]
            by_cases hgt : a1 > a2
            · simp only [hgt, if_true]; exact Ev.now _
            · simp only [hgt, if_false]; exact Ev.now _
          · have hg' : notFresh l a2 = true := by unfold notFresh; simpa using hg
            simp only [hg, hg', if_false, true_or, if_true]; exact Ev.now _
        · simp only [hn, if_false]; exact Ev.now _
      · have hf' : notFresh l a1 = true := by unfold notFresh; simpa using hf
        simp only [hf, hf', if_false, if_true]; exact Ev.now _
    · have ht' : t = false := by rw [ht]; simp only [not_or] at h67; simp [h67]
      simp only [ht', if_neg h67, Bool.false_eq_true, if_false]; exact Ev.now _
  have j1 : ∀ (n : Int) (t : Bool), (a0 = 6 ∨ a0 = 7 → t = false → notIn l a1 = false ∧ (n > 1 → notIn l a2 = false)) → Ev (fun k => spec_l5Term.j1 k l n t a0 a1 a2 a3) (if t = true then 3 else (if a0 = 6 ∨ a0 = 7 then (if notFresh l a1 = true then 1 else if n > 1 then (if notFresh l a2 = true ∨ a1 > a2 then 1 else 0) else 0) else 0)) := by
    intro n t hin
    refine ev_succ ?_
    simp only [spec_l5Term.j1]
    cases t with
    | true => simp only [if_true]; exact Ev.now _
    | false =>
      simp only [Bool.false_eq_true, if_false]
      by_cases h6 : a0 = 6
      · simp only [if_pos h6]; exact j2 n true (by simp [h6]) (fun h => hin h rfl)
      · simp only [if_neg h6]; exact j2 n (a0 == 7) (by simp [h6]) (fun h => hin h rfl)
  have dn : ∀ x : Int, (!decide (0 ≤ x ∧ x ≤ (l.length : Int) - 1)) = notIn l x := fun x => rfl
  have dt : ∀ x : Int, (0 ≤ x ∧ x ≤ (l.length : Int) - 1) ↔ notIn l x = false := fun x => by rw [notIn_iff]; omega
  by_cases h12 : a0 = 1 ∨ a0 = 2
  · -- names
    have hk : ¬ (a0 = 3 ∨ a0 = 4 ∨ a0 = 5 ∨ a0 = 7) := by omega
    have hk6 : ¬ a0 = 6 := by omega
    have h67 : ¬ (a0 = 6 ∨ a0 = 7) := by omega
    simp only [if_neg hk, if_neg hk6, if_pos h12, show ¬ (0 : Int) > 0 by omega, if_false, show (0 : Int) < 1 by omega, show (0 : Int) < 2 by omega, if_true]
    by_cases ha : a1 = 0
    · simp only [ha, if_true, true_and]
      refine ev_succ ?_
      simp only [spec_l5Term.j0]
      by_cases hb : a2 = 0
      · simp only [hb, bne_self_eq_false, Bool.false_eq_true, if_false, if_true, in_specT, Option.bind_some, decide_eq_true_eq, show ¬ (0 : Int) > 0 by omega, show ¬ (0 : Int) > 1 by omega]
        by_cases hn : 0 ≤ a3 ∧ a3 ≤ 9999
        · simp only [hn, and_self, if_true]
          have := j1 0 false (fun h => absurd h h67)
          simp only [Bool.false_eq_true, if_false, if_neg h67, ha, hb] at this
          exact this
        · simp only [if_neg hn]
          have := j1 0 true (fun h => absurd h h67)
          simp only [if_true, ha, hb] at this
          exact this
      · have hb' : (a2 != 0) = true := by simpa using hb
        simp only [hb', if_true, hb, if_false]; exact Ev.now _
    · simp only [ha, if_false, false_and]
      refine ev_succ ?_
      simp only [spec_l5Term.j0, if_true]; exact Ev.now _
  · by_cases h6 : a0 = 6
    · have hk : ¬ (a0 = 3 ∨ a0 = 4 ∨ a0 = 5 ∨ a0 = 7) := by omega
      simp only [if_neg hk, if_pos h6, if_neg h12, show (1 : Int) > 0 by omega, if_true, show ¬ (1 : Int) < 1 by omega, if_false, show (1 : Int) < 2 by omega]
      by_cases hn : a3 = 0
      · simp only [hn, if_true, and_true]
        refine ev_succ ?_
        simp only [spec_l5Term.j0]
        by_cases hb : a2 = 0
        · simp only [hb, bne_self_eq_false, Bool.false_eq_true, if_false, if_true, in_specT, Option.bind_some, decide_eq_true_eq, show (1 : Int) > 0 by omega, show ¬ (1 : Int) > 1 by omega, show (0 : Int) ≤ 0 ∧ (0 : Int) ≤ 9999 by omega, and_self, hw, List.any_cons, List.any_nil, Bool.or_false]
          cases hi : notIn l a1 with
          | false =>
            simp only [if_pos ((dt a1).2 hi), Bool.false_eq_true, if_false]
            have := j1 1 false (fun h _ => ⟨hi, fun h => absurd h (by omega)⟩)
            simp only [Bool.false_eq_true, if_false, h6, true_or, if_true, show ¬ (1 : Int) > 1 by omega, hb, hn] at this
            rw [h6]
            exact this
          | true =>
            simp only [if_neg (show ¬ (0 ≤ a1 ∧ a1 ≤ (l.length : Int) - 1) from fun h => by rw [(dt a1).1 h] at hi; cases hi), if_true]
            have := j1 1 true (fun _ h => by cases h)
            simp only [if_true, hb, hn] at this
            exact this
        · have hb' : (a2 != 0) = true := by simpa using hb
          simp only [hb', if_true, hb, if_false]; exact Ev.now _
      · simp only [hn, if_false, and_false]
        refine ev_succ ?_
        simp only [spec_l5Term.j0, if_true]; exact Ev.now _
    · have hk : a0 = 3 ∨ a0 = 4 ∨ a0 = 5 ∨ a0 = 7 := by omega
      simp only [if_pos hk, if_neg h6, if_neg h12, show (2 : Int) > 0 by omega, if_true, show ¬ (2 : Int) < 1 by omega, if_false, show ¬ (2 : Int) < 2 by omega]
      by_cases hn : a3 = 0
      · simp only [hn, if_true]
        refine ev_succ ?_
        simp only [spec_l5Term.j0, Bool.false_eq_true, if_false, if_true, in_specT, Option.bind_some, decide_eq_true_eq, show (2 : Int) > 0 by omega, show (2 : Int) > 1 by omega, show (0 : Int) ≤ 0 ∧ (0 : Int) ≤ 9999 by omega, and_self, hw, dn, List.any_cons, List.any_nil, Bool.or_false]
        cases hi : notIn l a1 with
        | true =>
          simp only [if_neg (show ¬ (0 ≤ a1 ∧ a1 ≤ (l.length : Int) - 1) from fun h => by rw [(dt a1).1 h] at hi; cases hi), Bool.true_or, if_true]
          have := j1 2 true (fun _ h => by cases h)
          simp only [if_true, hn] at this
          exact this
        | false =>
          simp only [if_pos ((dt a1).2 hi), Bool.false_or]
          have := j1 2 (notIn l a2) (fun _ h => ⟨hi, fun _ => h⟩)
          simp only [show (2 : Int) > 1 by omega, if_true, h6, false_or, hn] at this
          have e : (if notIn l a2 = true then (3 : Int) else if a0 = 7 then (if notFresh l a1 = true then 1 else if notFresh l a2 = true ∨ a1 > a2 then 1 else 0) else 0) = (if notIn l a2 = true then 3 else if a0 = 7 then (if (notFresh l a1 || notFresh l a2) = true ∨ a1 > a2 then 1 else 0) else 0) := by
            by_cases q0 : notIn l a2 = true
            · rw [if_pos q0, if_pos q0]
            · rw [if_neg q0, if_neg q0]
              by_cases q7 : a0 = 7
              · rw [if_pos q7, if_pos q7]
                cases notFresh l a1 <;> cases notFresh l a2 <;> simp
              · rw [if_neg q7, if_neg q7]
          rw [e] at this
          exact this
      · simp only [hn, if_false]
        refine ev_succ ?_
        simp only [spec_l5Term.j0, if_true]; exact Ev.now _
theorem drop_rdT (l : List S26) (i : Nat) (h : i < l.length) : l.drop i = rd_T26 l (i : Int) :: l.drop (i + 1) := by
  rw [List.drop_eq_getElem_cons h]
  simp [rd_T26, List.getD, List.getElem?_eq_getElem h]
theorem take_rdT (l : List S26) (i : Nat) (h : i < l.length) : l.take (i + 1) = l.take i ++ [rd_T26 l (i : Int)] := by
  rw [List.take_succ_eq_append_getElem h]
  simp [rd_T26, List.getD, List.getElem?_eq_getElem h]
def tidx (l : List S26) (x : S26) (i : Nat) : Int :=
  match (l.drop i).findIdx? fun y => eq4 x y with
  | some j => ((i + j : Nat) : Int)
  | none => -1
theorem find_l0 (l : List S26) (hl : l.length ≤ 9223372036854775807) (x : S26) (d : Nat) : ∀ (k i : Nat), i + d = l.length → d < k → spec_l5Find.l0 k l i x.f0 x.f1 x.f2 x.f3 = some (tidx l x i) := by
  induction d with
  | zero =>
    intro k i hi hk
    obtain ⟨k, rfl⟩ : ∃ m, k = m + 1 := ⟨k - 1, by omega⟩
    simp only [spec_l5Find.l0]; rw [if_neg (by omega)]; unfold tidx; rw [List.drop_of_length_le (by omega)]; rfl
  | succ d ih =>
    intro k i hi hk
    obtain ⟨k, rfl⟩ : ∃ m, k = m + 1 := ⟨k - 1, by omega⟩
    simp only [spec_l5Find.l0]
    rw [if_pos (by omega), if_pos (by omega), w64' (by omega) (by omega)]
    have e := ih k (i + 1) (by omega) (by omega)
    have e' : spec_l5Find.l0 k l ((i : Int) + 1) x.f0 x.f1 x.f2 x.f3 = some (tidx l x (i + 1)) := by simpa using e
    rw [e']
    have sw : (((rd_T26 l i).f0) == x.f0 && (((rd_T26 l i).f1) == x.f1 && (((rd_T26 l i).f2) == x.f2 && (((rd_T26 l i).f3) == x.f3)))) = eq4 x (rd_T26 l i) := by
      unfold eq4; rw [BEq.comm (b := x.f0), BEq.comm (b := x.f1), BEq.comm (b := x.f2), BEq.comm (b := x.f3)]
    rw [sw]
    unfold tidx
    rw [drop_rdT l i (by omega), List.findIdx?_cons]
    cases h : eq4 x (rd_T26 l i)
    · simp only [Bool.false_eq_true, if_false]
      cases (l.drop (i + 1)).findIdx? fun y => eq4 x y with
      | none => rfl
      | some j => simp; omega
    · simp
theorem find_ev (l : List S26) (hl : l.length ≤ 9223372036854775807) (x : S26) : Ev (fun k => spec_l5Find.f k l x.f0 x.f1 x.f2 x.f3) (tidx l x 0) := by
  refine ⟨l.length + 1, fun k hk => ?_⟩
  have := find_l0 l hl x l.length k 0 (by omega) (by omega)
  simpa [spec_l5Find.f] using this
theorem tidx_nonneg (l : List S26) (x : S26) : tidx l x 0 ≥ 0 ↔ l.any (eq4 x) = true := by
  unfold tidx
  rw [List.drop_zero]
  cases h : l.findIdx? fun y => eq4 x y with
  | none =>
    rw [List.findIdx?_eq_none_iff] at h
    constructor
    · intro h'; simp at h'
    · intro h'
      obtain ⟨y, hy, hq⟩ := List.any_eq_true.1 h'
      have := h y hy
      rw [hq] at this; cases this
  | some j =>
    rw [List.findIdx?_eq_some_iff_getElem] at h
    obtain ⟨hj, h3, _⟩ := h
    constructor
    · intro _; exact List.any_eq_true.2 ⟨_, List.getElem_mem hj, h3⟩
    · intro _; simp only [Nat.zero_add]; omega
def TF (l : List S26) : Int := if 400 < l.length then 2 else TFs [] l
theorem tf_spec_l0 (l : List S26) (hl : l.length ≤ 400) (d : Nat) : ∀ (i : Nat), i + d = l.length → Ev (fun k => spec_TermsFault.l0 k l i) (TFs (l.take i) (l.drop i)) := by
  induction d with
  | zero =>
    intro i hi
    refine ev_succ ?_
    simp only [spec_TermsFault.l0, show ¬ (i : Int) < (l.length : Int) by omega, if_false]
    rw [List.drop_of_length_le (by omega)]; exact Ev.now _
  | succ d ih =>
    intro i hi
    refine ev_succ ?_
    simp only [spec_TermsFault.l0, show (i : Int) < (l.length : Int) by omega, show 0 ≤ (i : Int) by omega, show (i : Int) ≤ (l.length : Int) by omega, if_true, Int.toNat_natCast]
    rw [drop_rdT l i (by omega)]
    generalize hx : rd_T26 l (i : Int) = x
    simp only [TFs]
    refine Ev.bind (term_ev _ _ _ _ _ (by rw [List.length_take]; omega)) ?_
    by_cases h0 : tfault x.f0 x.f1 x.f2 x.f3 (l.take i) = 0
    · simp only [h0, if_true]
      refine Ev.bind (find_ev _ (by rw [List.length_take]; omega) x) ?_
      by_cases hh : (l.take i).any (eq4 x) = true
      · simp only [if_pos hh, if_pos ((tidx_nonneg _ _).2 hh)]; exact Ev.now _
      · simp only [if_neg hh, if_neg (fun h => hh ((tidx_nonneg _ _).1 h))]
        rw [w64' (by omega) (by omega), ← hx, ← take_rdT l i (by omega)]
        have := ih (i + 1) (by omega)
        simpa using this
    · simp only [h0, if_false]; exact Ev.now _
theorem tf_spec (l : List S26) : Ev (fun k => spec_TermsFault.f k l) (TF l) := by
  unfold spec_TermsFault.f TF
  by_cases h : 400 < l.length
  · simp only [show (l.length : Int) > 400 by omega, h, if_true]; exact Ev.now _
  · simp only [show ¬ (l.length : Int) > 400 by omega, h, if_false]
    have := tf_spec_l0 l (by omega) l.length 0 (by omega)
    simpa using this
theorem tf_impl {l : List S26} (h : l.all wf4 = true) : impl_TermsFault.f l = some (TF l) := by
  unfold impl_TermsFault.f TF
  rw [if_pos h]
def PF (l : List S26) (ps : List Int) : Int := if TF l = 0 then (if ps.any (notIn l) = true then 3 else 0) else TF l
theorem pf_impl {l : List S26} (h : l.all wf4 = true) (ps : List Int) : impl_placesFault.f l ps = some (PF l ps) := by
  unfold impl_placesFault.f PF
  rw [tf_impl h]
  simp only [Option.bind_some]
  split
  · split <;> rfl
  · rfl
theorem wf4_map (l : List S98) (h : ∀ x ∈ l, ((Lit.int .i64 x.f0).wf = true ∧ (Lit.int .i64 x.f1).wf = true ∧ (Lit.int .i64 x.f2).wf = true ∧ (Lit.int .i64 x.f3).wf = true)) : (l.map toT).all wf4 = true := by
  rw [List.all_eq_true]
  intro y hy
  obtain ⟨x, hx, rfl⟩ := List.mem_map.1 hy
  obtain ⟨h0, h1, h2, h3⟩ := h x hx
  unfold wf4 toT
  simp [h0, h1, h2, h3]
end Go.Proofs.Ytomaeijhljpgdaa.Pure
set_option linter.unusedVariables false
set_option linter.unusedSimpArgs false
namespace Go.Proofs.Ytomaeijhljpgdaa.Pure
open Go.RowKit Go.Proofs.Ytomaeijhljpgdaa.G Go.Proofs.YtomaeijhljpgdaaW.PrintWords Go.Proofs.YtomaeijhljpgdaaW.PrintLast Go.Proofs.YtomaeijhljpgdaaW.PrintMore
theorem heldTermS_l0 (n : Nat) (m : Int) (hm : 0 ≤ m) (hl : m + 4 * n ≤ 9223372036854775800) (d : Nat) : ∀ (k i : Nat), i + d = n → d < k →
    laws_heldTermS.l0 k (tmarks m n) (m + 4 * i) i = some (m + 4 * n) := by
  induction d with
  | zero =>
    intro k i hi hk
    obtain ⟨k, rfl⟩ : ∃ m, k = m + 1 := ⟨k - 1, by omega⟩
    obtain rfl : i = n := by omega
    simp only [laws_heldTermS.l0]; rw [if_neg (by simp [tmarks_length])]
  | succ d ih =>
    intro k i hi hk
    obtain ⟨k, rfl⟩ : ∃ m, k = m + 1 := ⟨k - 1, by omega⟩
    simp only [laws_heldTermS.l0]
    have e : rd_T26 (tmarks m n) (i : Int) = tmark m i := by
      simp [rd_T26, tmarks, List.getD, List.getElem?_map, List.getElem?_range (show i < n by omega)]
    have e1 : wrap64 (m + 4 * i + 1) = m + 4 * i + 1 := w64' (by omega) (by omega)
    have e2 : wrap64 (m + 4 * i + 1 + 1) = m + 4 * i + 1 + 1 := w64' (by omega) (by omega)
    have e3 : wrap64 (m + 4 * i + 1 + 1 + 1) = m + 4 * i + 1 + 1 + 1 := w64' (by omega) (by omega)
    have e4 : wrap64 (m + 4 * i + 1 + 1 + 1 + 1) = m + 4 * i + 1 + 1 + 1 + 1 := w64' (by omega) (by omega)
    rw [e1, e2, e3, e4, e, w64' (n := (i : Int) + 1) (by omega) (by omega)]
    rw [if_pos (by rw [tmarks_length]; omega), if_pos (by omega)]
    simp only [tmark, if_true]
    have := ih k (i + 1) (by omega) (by omega)
    rw [show m + 4 * (i : Int) + 1 + 1 + 1 + 1 = m + 4 * ((i + 1 : Nat) : Int) by omega, show (i : Int) + 1 = ((i + 1 : Nat) : Int) by omega]
    exact this
theorem heldTermS_ev (n : Nat) (m : Int) (hm : 0 ≤ m) (hl : m + 4 * n ≤ 9223372036854775800) : Ev (fun k => laws_heldTermS.f k (tmarks m n) m) (m + 4 * n) := by
  refine ⟨n + 1, fun k hk => ?_⟩
  unfold laws_heldTermS.f
  have := heldTermS_l0 n m hm hl n k 0 (by omega) (by omega)
  simpa using this
theorem eqTermResult_ev (c a : Int) (l : List S26) (hl : l.length ≤ 9223372036854775807) : Ev (fun k => laws_eqTermResult.f k c a l c a l) true := by
  simp only [laws_eqTermResult.f, if_true]
  refine Ev.bind (eqTermS_ev l hl) ?_
  simp only [if_true]; exact Ev.now _
theorem markTermResult_ev (c a : Int) (l : List S26) (m : Int) (hm : 0 ≤ m) (hl : m + 4 * l.length ≤ 9223372036854775800) : Ev (fun k => laws_markTermResult.f k c a l m) (m + 4 * l.length, tmarks m l.length) := by
  simp only [laws_markTermResult.f]
  refine Ev.bind (markTermS_ev l m hm hl) ?_
  exact Ev.now _
theorem heldTermResult_ev (c a : Int) (n : Nat) (m : Int) (hm : 0 ≤ m) (hl : m + 4 * n ≤ 9223372036854775800) : Ev (fun k => laws_heldTermResult.f k c a (tmarks m n) m) (m + 4 * n) := by
  simp only [laws_heldTermResult.f]
  refine Ev.bind (heldTermS_ev n m hm hl) ?_
  simp only [show ¬ (m + 4 * (n : Int) < 0) by omega, if_false]; exact Ev.now _
theorem TF_len {l : List S26} (h : TF l = 0) : l.length ≤ 400 := by
  unfold TF at h
  by_cases hb : 400 < l.length
  · rw [if_pos hb] at h; cases h
  · omega
def PT (l : List S26) (t : S26) : Int × Int × List S26 := if tfault t.f0 t.f1 t.f2 t.f3 l = 0 then (if 0 ≤ tidx l t 0 then (0, tidx l t 0, l) else if 400 ≤ l.length then (2, 0, []) else (0, (l.length : Int), l ++ [t])) else (tfault t.f0 t.f1 t.f2 t.f3 l, 0, [])
theorem told_put (l : List S26) (t : S26) : toldP (putP l false t (tidx l t 0)) = (if 0 ≤ tidx l t 0 then (0, tidx l t 0, l) else if 400 ≤ l.length then (2, 0, []) else (0, (l.length : Int), l ++ [t])) := by
  unfold toldP putP
  by_cases h0 : 0 ≤ tidx l t 0
  · simp only [if_pos h0]; rfl
  · simp only [if_neg h0]
    by_cases h1 : 400 ≤ l.length
    · simp only [if_pos h1]; rfl
    · simp only [if_neg h1]; rfl
theorem copy_ev (l : List S26) (hl : l.length ≤ 400) : spec_l5Copy.f l = some l := by
  unfold spec_l5Copy.f
  simp only [Option.bind_some, List.length_nil, List.nil_append]
  rw [if_pos (by omega)]
theorem put_spec (l : List S26) (hl : l.length ≤ 400) (t : S26) : Ev (fun k => spec_l5Put.f k l t.f0 t.f1 t.f2 t.f3) (PT l t) := by
  unfold spec_l5Put.f PT
  refine Ev.bind (term_ev _ _ _ _ l (by omega)) ?_
  by_cases h : tfault t.f0 t.f1 t.f2 t.f3 l = 0
  · simp only [h, if_true]
    refine Ev.bind (find_ev l (by omega) t) ?_
    by_cases h0 : 0 ≤ tidx l t 0
    · simp only [h0, if_true, show tidx l t 0 ≥ 0 from h0, copy_ev l hl, Option.bind_some]; exact Ev.now _
    · simp only [h0, if_false, show ¬ tidx l t 0 ≥ 0 from h0]
      by_cases h1 : 400 ≤ l.length
      · simp only [h1, if_true, show (l.length : Int) ≥ 400 by omega]; exact Ev.now _
      · simp only [h1, if_false, show ¬ (l.length : Int) ≥ 400 by omega, copy_ev l hl, Option.bind_some, List.length_cons, List.length_nil, show l.length + (0 + 1) < 4398046511104 by omega, if_true]; exact Ev.now _
  · simp only [h, if_false]; exact Ev.now _
end Go.Proofs.Ytomaeijhljpgdaa.Pure
set_option linter.unusedVariables false
set_option linter.unusedSimpArgs false
namespace Go.Proofs.Ytomaeijhljpgdaa.Pure
open Go.RowKit Go.Proofs.Ytomaeijhljpgdaa.G Go.Proofs.YtomaeijhljpgdaaW.PrintWords Go.Proofs.YtomaeijhljpgdaaW.PrintLast Go.Proofs.YtomaeijhljpgdaaW.PrintMore
theorem PT_len (l : List S26) (t : S26) (hl : l.length ≤ 400) : (PT l t).2.2.length ≤ 400 := by
  unfold PT
  split
  · split
    · exact hl
    · split
      · simp
      · simp; omega
  · simp
def SL (l : List S26) : List Int → Int × Int × List S26
  | [] => PT l ⟨1, 0, 0, 0⟩
  | [a] => (0, a, l)
  | a :: b :: r => if (SL l (b :: r)).1 = 0 then PT (SL l (b :: r)).2.2 ⟨3, a, (SL l (b :: r)).2.1, 0⟩ else SL l (b :: r)
theorem SL_two (l : List S26) (a b : Int) (r : List Int) : SL l (a :: b :: r) = if (SL l (b :: r)).1 = 0 then PT (SL l (b :: r)).2.2 ⟨3, a, (SL l (b :: r)).2.1, 0⟩ else SL l (b :: r) := by rw [SL]
theorem SL_len (l : List S26) (hl : l.length ≤ 400) : ∀ xs : List Int, (SL l xs).2.2.length ≤ 400
  | [] => PT_len l _ hl
  | [a] => hl
  | a :: b :: r => by
    have ih := SL_len l hl (b :: r)
    unfold SL
    split
    · exact PT_len _ _ ih
    · exact ih
theorem list_spec (l : List S26) (hl : l.length ≤ 400) : ∀ xs : List Int, Ev (fun k => spec_l5List.f k l xs) (SL l xs)
  | [] => by
    refine ev_succ ?_
    simp only [spec_l5List.f, List.length_nil, show ((0 : Nat) : Int) = 0 from rfl, if_true]
    refine Ev.bind (put_spec l hl ⟨1, 0, 0, 0⟩) ?_
    exact Ev.now _
  | [a] => by
    refine ev_succ ?_
    simp only [spec_l5List.f, List.length_cons, List.length_nil, show ¬ (((0 + 1 : Nat) : Int) = 0) by omega, show ((0 + 1 : Nat) : Int) = 1 from rfl, if_false, if_true, show (0 : Int) < 1 by omega, show ¬ (1 : Int) = 0 by omega, copy_ev l hl, Option.bind_some]
    exact Ev.now _
  | a :: b :: r => by
    have ih := list_spec l hl (b :: r)
    refine ev_succ ?_
    have h0 : ¬ (((a :: b :: r).length : Int) = 0) := by simp; omega
    have h1 : ¬ (((a :: b :: r).length : Int) = 1) := by simp; omega
    have h2 : 1 ≤ ((a :: b :: r).length : Int) := by simp; omega
    have h3 : 0 < ((a :: b :: r).length : Int) := by simp; omega
    simp only [spec_l5List.f, h0, h1, h2, h3, if_false, if_true, List.drop_succ_cons, List.drop_zero]
    refine Ev.bind ih ?_
    rw [SL_two]
    by_cases hc : (SL l (b :: r)).1 = 0
    · simp only [hc, if_true]
      refine Ev.bind (put_spec _ (SL_len l hl (b :: r)) ⟨3, a, (SL l (b :: r)).2.1, 0⟩) ?_
      exact Ev.now _
    · simp only [hc, if_false]; exact Ev.now _
theorem back_rev (zs : List Int) : (backTo zs zs.length).map Prod.snd = zs.reverse := by
  apply List.ext_getElem
  · simp [backTo]
  · intro i h1 h2
    have hi : i < zs.length := by simpa [backTo] using h1
    simp [backTo, List.getElem_reverse, List.getElem?_eq_getElem (show zs.length - 1 - i < zs.length by omega)]
theorem tidx_lt (l : List S26) (x : S26) (h : 0 ≤ tidx l x 0) : tidx l x 0 < (l.length : Int) := by
  unfold tidx at h ⊢
  rw [List.drop_zero] at h ⊢
  cases e : l.findIdx? fun y => eq4 x y with
  | none => rw [e] at h; simp at h
  | some j =>
    rw [List.findIdx?_eq_some_iff_getElem] at e
    obtain ⟨hj, _⟩ := e
    simp only [Nat.zero_add]
    omega
theorem putT_eq (l : List S26) (full : Bool) (t : S26) : putT l full t = putP l full t (tidx l t 0) := rfl
end Go.Proofs.Ytomaeijhljpgdaa.Pure
set_option linter.unusedVariables false
set_option linter.unusedSimpArgs false
namespace Go.Proofs.Ytomaeijhljpgdaa.Pure
open Go.RowKit Go.Proofs.Ytomaeijhljpgdaa.G Go.Proofs.YtomaeijhljpgdaaW.PrintWords Go.Proofs.YtomaeijhljpgdaaW.PrintLast Go.Proofs.YtomaeijhljpgdaaW.PrintMore
def p9 (m : List S26 × Int) (t : S26) : Int × List S26 × Int :=
  if m.2 = 0 then (if (PT m.1 t).1 = 0 then ((PT m.1 t).2.1, (PT m.1 t).2.2, 0) else (0, m.1, (PT m.1 t).1)) else (0, m)
def Sim (m : List S26 × Int) (s : List S26 × Bool) : Prop := m.1.length ≤ 400 ∧ s.1.length ≤ 400 ∧ ((m.2 = 0 ∧ s.2 = false ∧ m.1 = s.1) ∨ (m.2 = 2 ∧ s.2 = true))
def Ext (m m' : List S26 × Int) : Prop := (∃ r, m'.1 = m.1 ++ r) ∧ (m'.2 = 0 → m.2 = 0)
def Pl (m : List S26 × Int) (p : Int) : Prop := m.2 = 0 → 0 ≤ p ∧ p < (m.1.length : Int)
def Same (m : List S26 × Int) (a : Int × List S26 × Int) (b : Int × List S26 × Bool) : Prop := Sim a.2 b.2 ∧ Ext m a.2 ∧ (a.2.2 = 0 → a.1 = b.1) ∧ Pl a.2 a.1
theorem Ext.refl (m : List S26 × Int) : Ext m m := ⟨⟨[], by simp⟩, id⟩
theorem Ext.trans {a b c : List S26 × Int} (h : Ext a b) (h2 : Ext b c) : Ext a c := by
  obtain ⟨⟨r, hr⟩, h⟩ := h
  obtain ⟨⟨q, hq⟩, h2⟩ := h2
  exact ⟨⟨r ++ q, by rw [hq, hr, List.append_assoc]⟩, fun e => h (h2 e)⟩
theorem Pl.ext {m m' : List S26 × Int} {p : Int} (h : Pl m p) (he : Ext m m') : Pl m' p := by
  intro e
  obtain ⟨⟨r, hr⟩, h2⟩ := he
  have := h (h2 e)
  rw [hr, List.length_append]
  omega
theorem PT_ext (l : List S26) (t : S26) (h : (PT l t).1 = 0) : (∃ r, (PT l t).2.2 = l ++ r) ∧ 0 ≤ (PT l t).2.1 ∧ (PT l t).2.1 < ((PT l t).2.2.length : Int) := by
  unfold PT at h ⊢
  by_cases hf : tfault t.f0 t.f1 t.f2 t.f3 l = 0
  · simp only [if_pos hf] at h ⊢
    by_cases h0 : 0 ≤ tidx l t 0
    · simp only [if_pos h0] at h ⊢
      exact ⟨⟨[], by simp⟩, h0, tidx_lt l t h0⟩
    · simp only [if_neg h0] at h ⊢
      by_cases h4 : 400 ≤ l.length
      · simp only [if_pos h4] at h; cases h
      · simp only [if_neg h4] at h ⊢
        exact ⟨⟨[t], rfl⟩, by omega, by simp <;> omega⟩
  · simp only [if_neg hf] at h; exact absurd h hf
theorem p9_ext (m : List S26 × Int) (t : S26) : Ext m (p9 m t).2 := by
  unfold p9
  by_cases h0 : m.2 = 0
  · rw [if_pos h0]
    by_cases h1 : (PT m.1 t).1 = 0
    · rw [if_pos h1]; exact ⟨(PT_ext _ _ h1).1, fun _ => h0⟩
    · rw [if_neg h1]; exact ⟨⟨[], by simp⟩, fun _ => h0⟩
  · rw [if_neg h0]; exact Ext.refl m
theorem p9_pl (m : List S26 × Int) (t : S26) : Pl (p9 m t).2 (p9 m t).1 := by
  unfold p9
  by_cases h0 : m.2 = 0
  · rw [if_pos h0]
    by_cases h1 : (PT m.1 t).1 = 0
    · rw [if_pos h1]; exact fun _ => (PT_ext _ _ h1).2
    · rw [if_neg h1]; exact fun e => absurd e h1
  · rw [if_neg h0]; exact fun e => absurd e h0
theorem p9_len (m : List S26 × Int) (t : S26) (h : m.1.length ≤ 400) : (p9 m t).2.1.length ≤ 400 := by
  unfold p9
  by_cases h0 : m.2 = 0
  · rw [if_pos h0]
    by_cases h1 : (PT m.1 t).1 = 0
    · rw [if_pos h1]; exact PT_len _ _ h
    · rw [if_neg h1]; exact h
  · rw [if_neg h0]; exact h
theorem putT_full (l : List S26) (t : S26) : (putT l true t).2.2 = true := by
  rw [putT_eq]
  unfold putP
  split
  · rfl
  · split <;> rfl
theorem same_put {m : List S26 × Int} {s : List S26 × Bool} {t t' : S26} (h : Sim m s) (ht : m.2 = 0 → t = t' ∧ tfault t.f0 t.f1 t.f2 t.f3 m.1 = 0) : Same m (p9 m t) (putT s.1 s.2 t') := by
  refine ⟨⟨p9_len m t h.1, putT_len h.2.1, ?_⟩, p9_ext m t, ?_, p9_pl m t⟩
  · obtain ⟨h1, h2, ⟨c0, c1, c2⟩ | ⟨c0, c1⟩⟩ := h
    · obtain ⟨rfl, hf⟩ := ht c0
      have e := told_put m.1 t
      unfold p9
      rw [if_pos c0, c1, ← c2, putT_eq]
      unfold PT
      rw [if_pos hf]
      unfold putP
      by_cases h0 : 0 ≤ tidx m.1 t 0
      · simp only [if_pos h0]; left; simp
      · simp only [if_neg h0]
        by_cases h4 : 400 ≤ m.1.length
        · simp only [if_pos h4]; right; simp
        · simp only [if_neg h4, Bool.false_eq_true, if_false, if_true]; left; simp
    · right
      unfold p9
      rw [if_neg (show ¬ m.2 = 0 by omega), c1]
      exact ⟨c0, putT_full _ _⟩
  · obtain ⟨h1, h2, ⟨c0, c1, c2⟩ | ⟨c0, c1⟩⟩ := h
    · obtain ⟨rfl, hf⟩ := ht c0
      intro hz
      unfold p9 at hz ⊢
      rw [if_pos c0] at hz ⊢
      rw [c1, ← c2, putT_eq]
      unfold PT at hz ⊢
      rw [if_pos hf] at hz ⊢
      unfold putP
      by_cases h0 : 0 ≤ tidx m.1 t 0
      · simp only [if_pos h0]; simp
      · simp only [if_neg h0] at hz ⊢
        by_cases h4 : 400 ≤ m.1.length
        · simp only [if_pos h4] at hz; cases hz
        · simp only [if_neg h4, Bool.false_eq_true, if_false, if_true]
    · intro hz
      unfold p9 at hz
      rw [if_neg (show ¬ m.2 = 0 by omega)] at hz
      have hz2 : m.2 = 0 := hz
      omega
theorem fault_two {l : List S26} {op a b : Int} (ho : op = 3 ∨ op = 4 ∨ op = 5) (ha : 0 ≤ a ∧ a < (l.length : Int)) (hb : 0 ≤ b ∧ b < (l.length : Int)) : tfault op a b 0 l = 0 := by
  unfold tfault
  rw [if_pos (by omega), if_neg (by omega), if_neg (by omega), if_pos rfl]
  have n1 : notIn l a = false := (notIn_iff l a).2 ha
  have n2 : notIn l b = false := (notIn_iff l b).2 hb
  simp [n1, n2]
  omega
theorem fault_name {l : List S26} {n : Int} (h0 : 0 ≤ n) (h1 : n ≤ 9999) : tfault 1 0 0 n l = 0 := by
  unfold tfault
  rw [if_pos (by omega), if_pos (by omega), if_pos ⟨rfl, rfl⟩, if_pos ⟨h0, h1⟩]
theorem same_two {m : List S26 × Int} {s : List S26 × Bool} {op a b a' b' : Int} (ho : op = 3 ∨ op = 4 ∨ op = 5) (h : Sim m s) (ha : m.2 = 0 → a = a') (hb : m.2 = 0 → b = b') (pa : Pl m a) (pb : Pl m b) : Same m (p9 m ⟨op, a, b, 0⟩) (putT s.1 s.2 ⟨op, a', b', 0⟩) :=
  same_put h (fun e => ⟨by rw [ha e, hb e], fault_two ho (pa e) (pb e)⟩)
theorem same_name {m : List S26 × Int} {s : List S26 × Bool} {n : Int} (h : Sim m s) (h0 : 0 ≤ n) (h1 : n ≤ 9999) : Same m (p9 m ⟨1, 0, 0, n⟩) (putT s.1 s.2 ⟨1, 0, 0, n⟩) :=
  same_put h (fun _ => ⟨rfl, fault_name h0 h1⟩)
def list9 (m : List S26 × Int) (xs : List Int) : Int × List S26 × Int := ((xs.take (xs.length - 1)).reverse).foldl (fun st x => p9 st.2 ⟨3, x, st.1, 0⟩) (xs[xs.length - 1]?.getD 0, m)
theorem listP_rev (l : List S26) (full : Bool) (xs : List Int) (h : xs ≠ []) : listP l full xs = ((xs.take (xs.length - 1)).reverse).foldl pairT (xs[xs.length - 1]?.getD 0, l, full) := by
  unfold listP
  rw [if_neg (fun e => h (List.length_eq_zero_iff.1 e))]
  have := back_rev (xs.take (xs.length - 1))
  rw [show (xs.take (xs.length - 1)).length = xs.length - 1 by simp] at this
  rw [this]
theorem same_fold : ∀ (ys ys' : List Int) (st : Int × List S26 × Int) (st' : Int × List S26 × Bool), ys.length = ys'.length → Sim st.2 st'.2 → (st.2.2 = 0 → st.1 = st'.1 ∧ ys = ys') → Pl st.2 st.1 → (∀ y ∈ ys, Pl st.2 y) →
    Same st.2 (ys.foldl (fun st x => p9 st.2 ⟨3, x, st.1, 0⟩) st) (ys'.foldl pairT st')
  | [], [], st, st', _, h, he, hp, _ => ⟨h, Ext.refl _, fun e => (he e).1, hp⟩
  | [], _ :: _, _, _, hl, _, _, _, _ => by simp at hl
  | _ :: _, [], _, _, hl, _, _, _, _ => by simp at hl
  | y :: ys, y' :: ys', st, st', hl, h, he, hp, ha => by
    have h1 : Same st.2 (p9 st.2 ⟨3, y, st.1, 0⟩) (pairT st' y') := same_two (.inl rfl) h (fun e => by have := (he e).2; injection this) (fun e => (he e).1) (ha y (by simp)) hp
    obtain ⟨s1, s2, s3, s4⟩ := h1
    have h2 := same_fold ys ys' _ _ (by simpa using hl) s1 (fun e => ⟨s3 e, by have := (he (s2.2 e)).2; injection this⟩) s4 (fun z hz => (ha z (List.mem_cons_of_mem _ hz)).ext s2)
    exact ⟨h2.1, s2.trans h2.2.1, h2.2.2⟩
theorem same_list {m : List S26 × Int} {s : List S26 × Bool} {xs xs' : List Int} (h : Sim m s) (hl : xs.length = xs'.length) (h0 : xs ≠ []) (he : m.2 = 0 → xs = xs') (hp : ∀ x ∈ xs, Pl m x) : Same m (list9 m xs) (listP s.1 s.2 xs') := by
  have h0' : xs' ≠ [] := fun e => h0 (by rw [e] at hl; exact List.length_eq_zero_iff.1 hl)
  rw [listP_rev _ _ _ h0']
  unfold list9
  have hlp : 0 < xs.length := List.length_pos_iff.2 h0
  refine same_fold _ _ (_, m) (_, s.1, s.2) (by simp; omega) h (fun e => by rw [he e]; exact ⟨rfl, rfl⟩) ?_ (fun y hy => hp y (List.mem_of_mem_take (List.mem_reverse.1 hy)))
  exact hp _ (by rw [List.getElem?_eq_getElem (by omega)]; exact List.getElem_mem _)
def names9 (m : List S26 × Int) (ns : List Int) : List Int × List S26 × Int := ns.foldl (fun st n => (st.1 ++ [(p9 st.2 ⟨1, 0, 0, n⟩).1], (p9 st.2 ⟨1, 0, 0, n⟩).2)) ([], m)
theorem same_names_fold : ∀ (ns : List Int) (st : List Int × List S26 × Int) (st' : List Int × List S26 × Bool), (∀ n ∈ ns, 0 ≤ n ∧ n ≤ 9999) → st.1.length = st'.1.length → Sim st.2 st'.2 → (st.2.2 = 0 → st.1 = st'.1) → (∀ y ∈ st.1, Pl st.2 y) →
    Sim (ns.foldl (fun st n => (st.1 ++ [(p9 st.2 ⟨1, 0, 0, n⟩).1], (p9 st.2 ⟨1, 0, 0, n⟩).2)) st).2 (ns.foldl nameP st').2 ∧ Ext st.2 (ns.foldl (fun st n => (st.1 ++ [(p9 st.2 ⟨1, 0, 0, n⟩).1], (p9 st.2 ⟨1, 0, 0, n⟩).2)) st).2 ∧ (ns.foldl (fun st n => (st.1 ++ [(p9 st.2 ⟨1, 0, 0, n⟩).1], (p9 st.2 ⟨1, 0, 0, n⟩).2)) st).1.length = (ns.foldl nameP st').1.length ∧ ((ns.foldl (fun st n => (st.1 ++ [(p9 st.2 ⟨1, 0, 0, n⟩).1], (p9 st.2 ⟨1, 0, 0, n⟩).2)) st).2.2 = 0 → (ns.foldl (fun st n => (st.1 ++ [(p9 st.2 ⟨1, 0, 0, n⟩).1], (p9 st.2 ⟨1, 0, 0, n⟩).2)) st).1 = (ns.foldl nameP st').1) ∧ (∀ y ∈ (ns.foldl (fun st n => (st.1 ++ [(p9 st.2 ⟨1, 0, 0, n⟩).1], (p9 st.2 ⟨1, 0, 0, n⟩).2)) st).1, Pl (ns.foldl (fun st n => (st.1 ++ [(p9 st.2 ⟨1, 0, 0, n⟩).1], (p9 st.2 ⟨1, 0, 0, n⟩).2)) st).2 y) ∧ (ns.foldl (fun st n => (st.1 ++ [(p9 st.2 ⟨1, 0, 0, n⟩).1], (p9 st.2 ⟨1, 0, 0, n⟩).2)) st).1.length = st.1.length + ns.length
  | [], st, st', _, hl, h, he, hp => ⟨h, Ext.refl _, hl, he, hp, rfl⟩
  | n :: ns, st, st', hn, hl, h, he, hp => by
    obtain ⟨s1, s2, s3, s4⟩ := same_name (n := n) h (hn n (by simp)).1 (hn n (by simp)).2
    have h2 := same_names_fold ns (st.1 ++ [(p9 st.2 ⟨1, 0, 0, n⟩).1], (p9 st.2 ⟨1, 0, 0, n⟩).2) (nameP st' n) (fun x hx => hn x (List.mem_cons_of_mem _ hx)) (by simp [nameP, hl]) s1
      (fun e => by show st.1 ++ [(p9 st.2 ⟨1, 0, 0, n⟩).1] = st'.1 ++ [(putT st'.2.1 st'.2.2 ⟨1, 0, 0, n⟩).1]; rw [he (s2.2 e), s3 e])
      (fun y hy => by
        rcases List.mem_append.1 hy with hy | hy
        · exact (hp y hy).ext s2
        · rw [List.mem_singleton.1 hy]; exact s4)
    obtain ⟨q1, q2, q3, q4, q5, q6⟩ := h2
    refine ⟨q1, s2.trans q2, q3, q4, q5, ?_⟩
    rw [List.foldl_cons, q6]
    simp; omega
theorem same_names {m : List S26 × Int} {s : List S26 × Bool} {ns : List Int} (h : Sim m s) (h0 : ns ≠ []) (hn : ∀ n ∈ ns, 0 ≤ n ∧ n ≤ 9999) : Same m (list9 (names9 m ns).2 (names9 m ns).1) (namesT s.1 s.2 ns) := by
  obtain ⟨q1, q2, q3, q4, q5, q6⟩ := same_names_fold ns ([], m) ([], s.1, s.2) hn rfl h (fun _ => rfl) (fun y hy => by simp at hy)
  have := same_list (m := (names9 m ns).2) (s := (namesL s.1 s.2 ns).2) (xs := (names9 m ns).1) (xs' := (namesL s.1 s.2 ns).1) q1 q3 (fun e => by
    have e2 : (names9 m ns).1.length = 0 + ns.length := q6
    rw [e] at e2
    exact h0 (List.length_eq_zero_iff.1 (by simpa using e2.symm))) q4 q5
  exact ⟨this.1, q2.trans this.2.1, this.2.2⟩
theorem same_told {m : List S26 × Int} {a : Int × List S26 × Int} {b : Int × List S26 × Bool} (h : Same m a b) : toldP b = if a.2.2 = 0 then (0, a.1, a.2.1) else (a.2.2, 0, []) := by
  obtain ⟨⟨_, _, ⟨c0, c1, c2⟩ | ⟨c0, c1⟩⟩, _, h3, _⟩ := h
  · unfold toldP
    rw [if_pos c0, if_neg (by rw [c1]; decide), h3 c0, c2]
  · unfold toldP
    rw [if_pos c1, if_neg (show ¬ a.2.2 = 0 by omega), c0]
end Go.Proofs.Ytomaeijhljpgdaa.Pure
set_option linter.unusedVariables false
set_option linter.unusedSimpArgs false
namespace Go.Proofs.Ytomaeijhljpgdaa.Pure
open Go.RowKit Go.Proofs.Ytomaeijhljpgdaa.G Go.Proofs.YtomaeijhljpgdaaW.PrintWords Go.Proofs.YtomaeijhljpgdaaW.PrintLast Go.Proofs.YtomaeijhljpgdaaW.PrintMore
theorem l9put_ev (m : List S26 × Int) (hl : m.1.length ≤ 400) (t : S26) : Ev (fun k => spec_l9Put.f k m.1 m.2 t.f0 t.f1 t.f2 t.f3) (p9 m t) := by
  unfold spec_l9Put.f p9
  by_cases h : m.2 = 0
  · simp only [h, if_true]
    refine Ev.bind (put_spec m.1 hl t) ?_
    by_cases h1 : (PT m.1 t).1 = 0
    · simp only [h1, if_true]; exact Ev.now _
    · simp only [h1, if_false]; exact Ev.now _
  · simp only [h, if_false]; exact Ev.now _
theorem l9two_ev (m : List S26 × Int) (hl : m.1.length ≤ 400) (o a b : Int) : Ev (fun k => spec_l9Two.f k m.1 m.2 o a b) (p9 m ⟨o, a, b, 0⟩) := l9put_ev m hl ⟨o, a, b, 0⟩
theorem l9name_ev (m : List S26 × Int) (hl : m.1.length ≤ 400) (n : Int) : Ev (fun k => spec_l9Name.f k m.1 m.2 n) (p9 m ⟨1, 0, 0, n⟩) := l9put_ev m hl ⟨1, 0, 0, n⟩
theorem l9fold_ev : ∀ (ys : List Int) (st : Int × List S26 × Int), st.2.1.length ≤ 400 → Ev (fun k => l9Fold k ys st) (ys.foldl (fun st x => p9 st.2 ⟨3, x, st.1, 0⟩) st)
  | [], st, _ => Ev.now _
  | y :: ys, st, h => by
    simp only [l9Fold, List.foldl_cons]
    exact Ev.bind (l9two_ev st.2 h 3 y st.1) (l9fold_ev ys _ (p9_len _ _ h))
theorem l9list_ev (m : List S26 × Int) (hl : m.1.length ≤ 400) (xs : List Int) (h0 : xs ≠ []) : Ev (fun k => spec_l9List.f k m.1 m.2 xs) (list9 m xs) := by
  unfold spec_l9List.f list9
  have h1 : ¬ xs.length = 0 := fun e => h0 (List.length_eq_zero_iff.1 e)
  simp only [h1, if_false]
  have e : rd xs ((xs.length - 1 : Nat) : Int) = xs[xs.length - 1]?.getD 0 := by simp [rd, List.getD]
  rw [e]
  exact l9fold_ev _ _ hl
theorem l9namesF_ev : ∀ (ns : List Int) (st : List Int × List S26 × Int), st.2.1.length ≤ 400 → Ev (fun k => l9NamesF k ns st) (ns.foldl (fun st n => (st.1 ++ [(p9 st.2 ⟨1, 0, 0, n⟩).1], (p9 st.2 ⟨1, 0, 0, n⟩).2)) st)
  | [], st, _ => Ev.now _
  | n :: ns, st, h => by
    simp only [l9NamesF, List.foldl_cons]
    exact Ev.bind (l9name_ev st.2 h n) (l9namesF_ev ns _ (p9_len _ _ h))
theorem names9_len : ∀ (ns : List Int) (st : List Int × List S26 × Int), st.2.1.length ≤ 400 → (ns.foldl (fun st n => (st.1 ++ [(p9 st.2 ⟨1, 0, 0, n⟩).1], (p9 st.2 ⟨1, 0, 0, n⟩).2)) st).2.1.length ≤ 400 ∧ (ns.foldl (fun st n => (st.1 ++ [(p9 st.2 ⟨1, 0, 0, n⟩).1], (p9 st.2 ⟨1, 0, 0, n⟩).2)) st).1.length = st.1.length + ns.length
  | [], st, h => ⟨h, by simp⟩
  | n :: ns, st, h => by
    have := names9_len ns (st.1 ++ [(p9 st.2 ⟨1, 0, 0, n⟩).1], (p9 st.2 ⟨1, 0, 0, n⟩).2) (p9_len _ _ h)
    rw [List.foldl_cons]
    refine ⟨this.1, ?_⟩
    rw [this.2]
    simp
    omega
theorem l9names_ev (m : List S26 × Int) (hl : m.1.length ≤ 400) (ns : List Int) (h0 : ns ≠ []) (hn : ns.length ≤ 1000000000) : Ev (fun k => spec_l9Names.f k m.1 m.2 ns) (list9 (names9 m ns).2 (names9 m ns).1) := by
  unfold spec_l9Names.f
  simp only [hn, if_true]
  refine Ev.bind (l9namesF_ev ns ([], m) hl) ?_
  have := names9_len ns ([], m) hl
  refine l9list_ev (names9 m ns).2 this.1 (names9 m ns).1 (fun e => ?_)
  have e2 : (names9 m ns).1.length = 0 + ns.length := this.2
  rw [e] at e2
  exact h0 (List.length_eq_zero_iff.1 (by simpa using e2.symm))
def Val (m : List S26 × Int) (p p' : Int) : Prop := Pl m p ∧ (m.2 = 0 → p = p')
theorem Val.ext {m m' : List S26 × Int} {p p' : Int} (h : Val m p p') (he : Ext m m') : Val m' p p' := ⟨h.1.ext he, fun e => h.2 (he.2 e)⟩
theorem Same.len {m : List S26 × Int} {a : Int × List S26 × Int} {b : Int × List S26 × Bool} (h : Same m a b) : a.2.1.length ≤ 400 := h.1.1
theorem names_same {m : List S26 × Int} {s : List S26 × Bool} {ns : List Int} (h : Sim m s) (h0 : ns ≠ []) (hm : ns.length ≤ 1000000000) (hn : ∀ n ∈ ns, 0 ≤ n ∧ n ≤ 9999) : Ev (fun k => spec_l9Names.f k m.1 m.2 ns) (list9 (names9 m ns).2 (names9 m ns).1) ∧ Same m (list9 (names9 m ns).2 (names9 m ns).1) (namesT s.1 s.2 ns) :=
  ⟨l9names_ev m h.1 ns h0 hm, same_names h h0 hn⟩
def badN (n : Int) : Bool := !decide (0 ≤ n ∧ n ≤ 9999)
theorem badN_iff {n : Int} : badN n = false ↔ 0 ≤ n ∧ n ≤ 9999 := by unfold badN; simp
theorem isName_ev (n : Int) : impl_isName.f n = some (!badN n) := by
  unfold impl_isName.f impl_in.f badN
  split
  · simp; omega
  · simp; omega
theorem word_ev (n : Int) : spec_l9Word.f n = some (!badN n) := by
  unfold spec_l9Word.f badN
  rw [in_specT]
  simp
def NF (l : List S26) (ns ps : List Int) : Int := if PF l ps = 0 then (if ns.any badN = true then 3 else 0) else PF l ps
theorem nf_l0 (ns : List Int) (hn : ns.length ≤ 1000000000) (d : Nat) : ∀ (c : Int) (i : Nat), i + d = ns.length → Ev (fun k => impl_namesFault.l0 k c ns (ns.length : Int) i) (if c = 0 then (if (ns.drop i).any badN = true then 3 else 0) else c) := by
  induction d with
  | zero =>
    intro c i hi
    refine ev_succ ?_
    simp only [impl_namesFault.l0, show ¬ (i : Int) < (ns.length : Int) by omega, if_false]
    rw [List.drop_of_length_le (by omega)]
    by_cases h : c = 0
    · simp only [h, if_true, List.any_nil, Bool.false_eq_true, if_false]; exact Ev.now _
    · simp only [h, if_false]; exact Ev.now _
  | succ d ih =>
    intro c i hi
    refine ev_succ ?_
    have hd : ns.drop i = rd ns (i : Int) :: ns.drop (i + 1) := by
      rw [List.drop_eq_getElem_cons (by omega)]
      simp [rd, List.getD, List.getElem?_eq_getElem (show i < ns.length by omega)]
    have hw : wrap64 ((i : Int) + 1) = ((i + 1 : Nat) : Int) := by unfold wrap64; omega
    simp only [impl_namesFault.l0, show (i : Int) < (ns.length : Int) by omega, show 0 ≤ (i : Int) by omega, if_true, hw, isName_ev, Option.bind_some]
    rw [hd, List.any_cons]
    by_cases h : c = 0
    · simp only [h, if_true]
      cases hb : badN (rd ns (i : Int)) with
      | true =>
        simp only [Bool.not_true, Bool.false_eq_true, if_false, Bool.true_or, if_true]
        have := ih 3 (i + 1) (by omega)
        simpa using this
      | false =>
        simp only [Bool.not_false, if_true, Bool.false_or]
        have := ih 0 (i + 1) (by omega)
        simpa using this
    · simp only [h, if_false]
      have := ih c (i + 1) (by omega)
      simpa only [h, if_false] using this
theorem nf_ev {l : List S26} (hw : l.all wf4 = true) (ns ps : List Int) (hn : ns.length ≤ 1000000000) : Ev (fun k => impl_namesFault.f k l ns ps) (NF l ns ps) := by
  unfold impl_namesFault.f NF
  simp only [pf_impl hw, Option.bind_some]
  have := nf_l0 ns hn ns.length (PF l ps) 0 (by omega)
  simpa using this
theorem told_ev {m : List S26 × Int} {a : Int × List S26 × Int} {b : Int × List S26 × Bool} (h : Same m a b) : (if a.2.2 = 0 then (some (0, a.1, a.2.1)) else (some (a.2.2, 0, []))) = some (toldP b) := by
  rw [same_told h]
  split <;> rfl
theorem told_len {m : List S26 × Int} {a : Int × List S26 × Int} {b : Int × List S26 × Bool} (h : Same m a b) : (toldP b).2.2.length ≤ 400 := by
  rw [same_told h]
  split
  · exact h.len
  · simp
theorem words_ev : ∀ ns : List Int, l9Words ns = some (!ns.any badN)
  | [] => rfl
  | n :: ns => by
    unfold l9Words
    rw [word_ev, List.any_cons]
    cases badN n with
    | true => simp
    | false => simp [words_ev ns]
theorem putNames_ev {l : List S26} (hw : l.all wf4 = true) (ns : List Int) (hn1 : ns.length ≤ 1000000000) : ∃ r : Int × Int × List S26, Ev (fun k => spec_PutNames.f k l ns) r ∧ Ev (fun k => impl_PutNames.f k l ns) r ∧ r.2.2.length ≤ 400 := by
  have hn := nf_ev hw ns [] hn1
  have ha := tf_spec l
  unfold spec_PutNames.f impl_PutNames.f
  unfold NF at hn
  have hP : PF l [] = TF l := by
    unfold PF
    by_cases h : TF l = 0
    · rw [if_pos h, if_neg (by simp), h]
    · rw [if_neg h]
  rw [hP] at hn
  by_cases h0 : TF l = 0
  rotate_left
  · refine ⟨(TF l, 0, []), Ev.bind ha ?_, Ev.bind hn ?_, by simp⟩
    · simp only [h0, if_false]; exact Ev.now _
    · simp only [h0, if_false]; exact Ev.now _
  have h4 := TF_len h0
  have hsim : Sim (l, 0) (l, false) := ⟨h4, h4, .inl ⟨rfl, rfl, rfl⟩⟩
  rw [h0] at ha
  rw [if_pos h0] at hn
  cases hb : ns.any badN with
  | true =>
    refine ⟨(3, 0, []), Ev.bind ha ?_, Ev.bind hn ?_, by simp⟩
    · simp only [if_true, words_ev, hb, Option.bind_some, Bool.not_true, Bool.false_eq_true, if_false]; exact Ev.now _
    · simp only [hb, if_true, show ¬ (3 : Int) = 0 by omega, if_false]; exact Ev.now _
  | false =>
    have g : l.length ≤ 400 ∧ ns.length ≤ 1000000000 := ⟨h4, hn1⟩
    have hc : Ev (fun k => impl_namesFault.f k l ns []) 0 := by simpa [hb] using hn
    by_cases he : ns = []
    · subst he
      have hf : tfault 1 0 0 0 l = 0 := fault_name (by omega) (by omega)
      have e : toldP (namesT l false []) = PT l ⟨1, 0, 0, 0⟩ := by
        show toldP (putT l false ⟨1, 0, 0, 0⟩) = _
        rw [putT_eq, told_put]
        unfold PT
        simp only [hf, if_true]
      refine ⟨PT l ⟨1, 0, 0, 0⟩, Ev.bind ha ?_, Ev.bind hc ?_, PT_len l _ h4⟩
      · simp only [if_true, words_ev, hb, Option.bind_some, Bool.not_false, List.length_nil]
        exact list_spec l h4 []
      · simp only [if_true, if_pos g, e]; exact Ev.now _
    · obtain ⟨e1, s1⟩ := names_same (ns := ns) hsim he hn1 (fun n hn2 => by
        refine badN_iff.1 ?_
        cases hq : badN n
        · rfl
        · rw [List.any_eq_true.2 ⟨n, hn2, hq⟩] at hb; cases hb)
      refine ⟨toldP (namesT l false ns), Ev.bind ha ?_, Ev.bind hc ?_, told_len s1⟩
      · have hne : ¬ ns.length = 0 := fun e => he (List.length_eq_zero_iff.1 e)
        simp only [if_true, words_ev, hb, Option.bind_some, Bool.not_false, hne, if_false, copy_ev l h4]
        refine Ev.bind e1 ?_
        rw [told_ev s1]; exact Ev.now _
      · simp only [if_true, if_pos g]; exact Ev.now _
end Go.Proofs.Ytomaeijhljpgdaa.Pure
set_option linter.unusedVariables false
set_option linter.unusedSimpArgs false
namespace Go.Proofs.Ytomaeijhljpgdaa.Pure
open Go.RowKit Go.Proofs.Ytomaeijhljpgdaa.G Go.Proofs.YtomaeijhljpgdaaW.PrintWords Go.Proofs.YtomaeijhljpgdaaW.PrintLast Go.Proofs.YtomaeijhljpgdaaW.PrintMore
theorem FnExactPutNames : laws_FnExactPutNames.Pure := by
  intro l xs hm hw hm1 _
  have hl1 : xs.length ≤ 9223372036854775807 := by unfold maxLen at hm1; exact hm1
  have hl : l.length ≤ 9223372036854775807 := by unfold maxLen at hm; exact hm
  refine Ev.rounds ?_
  unfold laws_FnExactPutNames.f laws_szTermS.f
  by_cases hb1 : (xs.length : Int) > 1048576
  · simp only [hb1, if_true]; exact Ev.now _
  simp only [hb1, if_false]
  rw [w64' (n := 1048576 - (l.length : Int)) (by omega) (by omega)]
  by_cases hbig : 1048576 - (l.length : Int) < 0
  · simp only [hbig, if_true, Option.bind_some, show (-1 : Int) < 0 by omega]; exact Ev.now _
  simp only [hbig, if_false, Option.bind_some]
  have hc := toTermS_ev l (by omega)
  have hc1 := toInt64S_ev xs (by omega)
  obtain ⟨r, h1, h2, h0⟩ := putNames_ev (wf4_map l hw) xs (by omega)
  refine Ev.bind hc (Ev.bind hc1 (Ev.bind h1 (Ev.bind hc (Ev.bind hc1 (Ev.bind h2 ?_)))))
  refine Ev.bind (eqTermResult_ev _ _ _ (by omega)) ?_
  simp only [if_true]
  refine Ev.bind hc (Ev.bind (eqTermS_ev _ (by simp; omega)) ?_)
  simp only [if_true]
  refine Ev.bind hc1 (Ev.bind (eqInt64S_ev _ (by omega)) ?_)
  simp only [if_true]
  refine Ev.bind (markTermS_ev _ 1 (by omega) (by simp; omega)) (Ev.bind (markInt64S_ev _ _ (by simp; omega) (by simp; omega)) ?_)
  simp only [List.length_map, show ¬ (1 + 4 * (l.length : Int) + (xs.length : Int) < 0) by omega, if_false]
  refine Ev.bind (eqTermResult_ev _ _ _ (by omega)) ?_
  refine ev_succ ?_
  simp only [laws_FnExactPutNames.j0, Bool.not_true, Bool.false_eq_true, if_false]
  refine Ev.bind (markTermResult_ev _ _ _ 1 (by omega) (by omega)) (Ev.bind (heldTermResult_ev _ _ _ 1 (by omega) (by omega)) ?_)
  simp only [show ¬ (1 + 4 * (r.2.2.length : Int) < 0) by omega, if_false, if_true]
  refine Ev.bind hc (Ev.bind hc1 (Ev.bind h2 ?_))
  refine Ev.bind (eqTermResult_ev _ _ _ (by omega)) ?_
  simp only [if_true]
  refine Ev.bind (heldTermResult_ev _ _ _ 1 (by omega) (by omega)) ?_
  simp only [show ¬ (1 + 4 * (r.2.2.length : Int) < 0) by omega, if_false, if_true]
  exact Ev.now _
end Go.Proofs.Ytomaeijhljpgdaa.Pure
namespace Go.Proofs.Ytomaeijhljpgdaa.fnExactPutNames
open Go.ChangeShapes Go.WideShapes Go.ChangeAt
open Go.RowKit Go.Proofs.Ytomaeijhljpgdaa.G Go.Proofs.YtomaeijhljpgdaaW.PrintWords Go.Proofs.YtomaeijhljpgdaaW.PrintLast
open Go.ChangeMaps (open_string shut_string)
set_option linter.unusedVariables false
theorem own : ownKnob Try.prog.godebug = none := by kernel_rfl
theorem laidOut : laidOutB Try.prog = true := by kernel_rfl
theorem o2 : Opn.Opens Try.prog 2 (Kd.int .i64) (fun n => (Lit.int .i64 n).wf = true) := Opn.opens_int Try.underlying2 (by kernel_rfl)
theorem o98 : Opn.Opens Try.prog 98 k98 (fun (x : S98) => (fun (x : Int × Int × Int × Int) => (fun n => (Lit.int .i64 n).wf = true) x.1 ∧ (fun (x : Int × Int × Int) => (fun n => (Lit.int .i64 n).wf = true) x.1 ∧ (fun (x : Int × Int) => (fun n => (Lit.int .i64 n).wf = true) x.1 ∧ (fun n => (Lit.int .i64 n).wf = true) x.2) x.2) x.2) (x.f0, x.f1, x.f2, x.f3)) := by
  refine Opn.opens_struct (G := fun (x : Int × Int × Int × Int) => (fun n => (Lit.int .i64 n).wf = true) x.1 ∧ (fun (x : Int × Int × Int) => (fun n => (Lit.int .i64 n).wf = true) x.1 ∧ (fun (x : Int × Int) => (fun n => (Lit.int .i64 n).wf = true) x.1 ∧ (fun n => (Lit.int .i64 n).wf = true) x.2) x.2) x.2) (fun x : S98 => (x.f0, x.f1, x.f2, x.f3)) (fun y => ⟨y.1, y.2.1, y.2.2.1, y.2.2.2⟩) (fun _ => rfl) Try.underlying98 (by kernel_rfl) ?_
  apply Opn.at_cons (T := 2) (G := fun n => (Lit.int .i64 n).wf = true) (G2 := fun (x : Int × Int × Int) => (fun n => (Lit.int .i64 n).wf = true) x.1 ∧ (fun (x : Int × Int) => (fun n => (Lit.int .i64 n).wf = true) x.1 ∧ (fun n => (Lit.int .i64 n).wf = true) x.2) x.2)
  · rfl
  · rfl
  · exact o2
  apply Opn.at_cons (T := 2) (G := fun n => (Lit.int .i64 n).wf = true) (G2 := fun (x : Int × Int) => (fun n => (Lit.int .i64 n).wf = true) x.1 ∧ (fun n => (Lit.int .i64 n).wf = true) x.2)
  · rfl
  · rfl
  · exact o2
  apply Opn.at_cons (T := 2) (G := fun n => (Lit.int .i64 n).wf = true) (G2 := fun n => (Lit.int .i64 n).wf = true)
  · rfl
  · rfl
  · exact o2
  apply Opn.at_last (T := 2)
  · rfl
  · rfl
  · exact o2
set_option maxRecDepth 100000 in
theorem lifted (os : Os) (started : os.Started) (H : Type) (enc : TypeId × Value → H) :
    ReturnsInHanded {} Try.checked os 5 .any (Rows.fnExactPutNamesSpec.pre6 enc Try.prog Try.f5 Rows.fnExactPutNamesRow.domain false) (Rows.fnExactPutNamesSpec.post enc Try.prog Try.f5 false true false false) := by
  refine returnsInHanded_of_change_sized (C := Try.checked) own started (by kernel_rfl) Try.func5
    (ChangeSpec.witness6 (enc := enc) (C := Try.checked) false ⟨#[], #[.slice none 0 0, .slice none 0 0], []⟩ 8 (by kernel_rfl) (by kernel_rfl) (by kernel_rfl) (by kernel_rfl)) ?_
  intro W base args ds gs before hval0 hW hcnd hsz0 _
  have hval : ∀ (j : Nat) t v, Try.f5.params[j]? = some t → args[j]? = some v → Value.okWide Try.prog W .any base t v := hval0
  have hW' := hW
  obtain ⟨p, q, hA0, hV, rfl, hfz, hnd⟩ := hW
  have hA : DataW.TrodAll enc Try.prog W 0 (fun _ => true) true Try.f5.params.toList args.toList ds p := hA0
  rw [Try.params5] at hA hval
  obtain ⟨v0, vs0, d0, ds0, p0, q0, hargs, rfl, rfl, h0, r0⟩ := trodAll_cons hA
  obtain ⟨v1, vs1, d1, ds1, p1, q1, rfl, rfl, rfl, h1, r1⟩ := trodAll_cons r0
  obtain ⟨rfl, rfl, rfl⟩ := trodAll_nil r1
  obtain rfl : args = #[v0, v1] := by cases args; simp_all
  obtain ⟨rfl, rfl⟩ := trodVars_none hV
  obtain ⟨A0, len0, c0, rfl⟩ := okWide_slice Try.underlying44 (hval 0 44 v0 rfl rfl)
  have k0 := h0
  have lt0 : ∀ x ∈ p0, x.block < W.heap.size := by obtain ⟨m, hm⟩ := k0; exact DataW.trod_lt m _ _ _ hm
  obtain ⟨l0, rfl, hr0, hc0, hm0, hg0⟩ := Opn.arg_slice Try.underlying44 (by kernel_rfl) o98 h0
  obtain ⟨A1, len1, c1, rfl⟩ := okWide_slice Try.underlying33 (hval 1 33 v1 rfl rfl)
  have k1 := h1
  have lt1 : ∀ x ∈ p1, x.block < W.heap.size := by obtain ⟨m, hm⟩ := k1; exact DataW.trod_lt m _ _ _ hm
  obtain ⟨l1, rfl, hr1, hc1, hm1, hg1⟩ := Opn.arg_slice Try.underlying33 (by kernel_rfl) o2 h1
  clear hA0 hval0 hsz0
  obtain ⟨k, h⟩ := Pure.FnExactPutNames l0 l1 hm0 hg0 hm1 hg1
  refine (laws_FnExactPutNames.calls k A0 c0 l0 A1 c1 l1 W hr0 hc0 hr1 hc1 h).mono fun e W' ⟨he, bel0⟩ => ?_
  have bel : Below W.heap.size W W' := bel0
  subst he
  exact ⟨_, rfl, _, _, _, [], _, [], hW', trodAll_mk1 (shut_bool Try.underlying4 _), (trodAll_cons_mk (Below.trod laidOut (by kernel_rfl) (of_decide_eq_true (by kernel_rfl)) k0 bel lt0) (trodAll_cons_mk (Below.trod laidOut (by kernel_rfl) (of_decide_eq_true (by kernel_rfl)) k1 bel lt1) trodAll_mk0)), rfl, bel.frame _, fun h => by cases h⟩
theorem over : Rows.fnExactPutNamesRow.holds Try.pinned (OpenSpec.ofChange Rows.fnExactPutNamesSpec) :=
  OpenClaim.holds_of_wide 5 Try.f5 rfl rfl rfl rfl rfl rfl rfl ⟨rfl, rfl, rfl, rfl, rfl⟩ rfl rfl rfl rfl rfl (by kernel_rfl) Try.func5 (by kernel_rfl)
    (of_decide_eq_true (by kernel_rfl)) (by unfold Func.isWrapper; first | (rw [if_pos (by decide +kernel)]; kernel_rfl) | (rw [if_neg (by decide +kernel)]; exact ⟨rfl, rfl⟩))
    (fun os started H enc _ => lifted os started H enc)
end Go.Proofs.Ytomaeijhljpgdaa.fnExactPutNames
namespace Go.Proofs.Ytomaeijhljpgdaa
theorem fnExactPutNames_holds : Rows.FnExactPutNamesSaid := fnExactPutNames.over
end Go.Proofs.Ytomaeijhljpgdaa
#print axioms Go.Proofs.Ytomaeijhljpgdaa.fnExactPutNames_holds
