/- FnExactMoveTerm: for every input the law returns true and its arguments read afterwards as they read before. No condition. -/
import Derived.Test.YtpagejjjfpkmcaaCFnExactMoveTerm6
import Derived.ChangeArms
import Derived.Deep.Slices
import Derived.ProofKit
import Derived.OpenShut
import Derived.Test.YtpagejjjfpkmcaaRows
import Derived.WalkKit
import Derived.ShutString
import Derived.ChangeOld
import Derived.Below
import Derived.SizedLaws
set_option linter.unusedVariables false
namespace Go.Proofs.Ytpagejjjfpkmcaa.Opn
open Go.Proofs.YtpagejjjfpkmcaaW.PrintWords
def Opens {α : Type} (P : Program) (t : TypeId) (d : Kd α) (G : α → Prop) : Prop :=
  P.cellsOf t = d.sz ∧ ∀ (H : Type) (enc : TypeId × Value → H) (W : World) (base : Nat) (sp : Nat → Bool) (held : Bool) (fuel : Nat) (cs : List Value) (x : DataW H × List MemPlace),
    DataW.trod enc P W base sp held fuel t cs = some x → ∃ a, d.K W a cs ∧ G a
theorem opens_int {P : Program} {t : TypeId} {k : IntKind} (ht : P.underlying t = some (.int k)) (hc : P.cellsOf t = 1) : Opens P t (Kd.int k) (fun n => (Lit.int k n).wf = true) :=
  ⟨hc, fun H enc W base sp held fuel cs x hx => by
    obtain ⟨n, h, hx, hw⟩ := DataW.trod_int ht hx
    exact ⟨n, h, hw⟩⟩
theorem opens_slice {α : Type} {P : Program} {t e : TypeId} {d : Kd α} {G : α → Prop} (ht : P.underlying t = some (.slice e)) (hc : P.cellsOf t = 1) (he : Opens P e d G) :
    Opens P t (Kd.slice e d) (fun xs => xs.length ≤ maxLen ∧ ∀ x ∈ xs, G x) :=
  ⟨hc, fun H enc W base sp held fuel cs x hx => by
    rcases Go.Deep.open_slice ht hx with ⟨rfl, rfl⟩ | ⟨a, len, cap, m, n, D, Pl, rfl, hb, hl, hm, hmm, rfl, hel⟩
    · refine ⟨[], ⟨none, 0, rfl, Nat.le_refl _, rfl, by simp, ?_⟩, by simp, by simp⟩
      intro h; exact absurd h (by simp)
    · have hle : len ≤ m := by rw [hmm]; split <;> omega
      have key : ∀ i, i < len → ∃ p : α, ∃ c : List Value, c.length = d.sz ∧ d.K W p c ∧ G p ∧ ∀ j u, c[j]? = some u → W.cell? (a.add (i * d.sz + j)) = some u := by
        intro i hi
        obtain ⟨c, h1, h2⟩ := hel i (by omega)
        obtain ⟨p, h3, h4⟩ := he.2 H enc W base sp held n c _ h2
        obtain ⟨_, h5, h6⟩ := World.cells?_some h1
        rw [he.1] at h5 h6
        refine ⟨p, c, h5, h3, h4, fun j u hj => ?_⟩
        have hjl : j < d.sz := by
          have := (List.getElem?_eq_some_iff.1 hj).1
          omega
        rw [← Go.Deep.add_add, h6 j hjl, hj]
      have ex : ∃ ps : List α, ps.length = len ∧ ∀ i p, ps[i]? = some p → ∃ c : List Value, c.length = d.sz ∧ d.K W p c ∧ G p ∧ ∀ j u, c[j]? = some u → W.cell? (a.add (i * d.sz + j)) = some u := by
        clear hel hmm hle hl hm hx
        induction len with
        | zero => exact ⟨[], rfl, fun i p h => by simp at h⟩
        | succ k ih =>
          obtain ⟨ps, h1, h2⟩ := ih (fun i hi => key i (by omega))
          obtain ⟨p, hp⟩ := key k (by omega)
          refine ⟨ps ++ [p], by simp [h1], fun i q h => ?_⟩
          by_cases hi : i < ps.length
          · rw [List.getElem?_append_left hi] at h
            exact h2 i q h
          · rw [List.getElem?_append_right (by omega)] at h
            have hi0 : i - ps.length = 0 := by
              have := (List.getElem?_eq_some_iff.1 h).1
              simp at this
              omega
            rw [hi0] at h
            simp at h
            subst h
            have : i = k := by omega
            subst this
            exact hp
      obtain ⟨ps, h1, h2⟩ := ex
      subst h1
      refine ⟨ps, ⟨some a, cap, rfl, hl, rfl, by simp only [maxLen] at hm; omega, fun _ => ⟨a, rfl, fun j p hj => ?_⟩⟩, by omega, fun x hx' => ?_⟩
      · obtain ⟨c, g1, g2, g3, g4⟩ := h2 j p hj
        exact ⟨c, g1, g2, g4⟩
      · obtain ⟨i, hi⟩ := List.getElem?_of_mem hx'
        obtain ⟨c, g1, g2, g3, g4⟩ := h2 i x hi
        exact g3⟩
def OpensAt {α : Type} (P : Program) (fs : List Field) (off : Nat) (d : Kd α) (G : α → Prop) : Prop :=
  ∀ (H : Type) (enc : TypeId × Value → H) (W : World) (base : Nat) (sp : Nat → Bool) (held : Bool) (n : Nat) (cs : List Value),
    cs.length = off + d.sz → (∀ f ∈ fs, ∃ y, DataW.trod enc P W base sp held n f.type ((cs.drop f.offset).take (P.cellsOf f.type)) = some y) → ∃ a, d.K W a (cs.drop off) ∧ G a
theorem at_last {α : Type} {P : Program} {f : Field} {off : Nat} {T : TypeId} {d : Kd α} {G : α → Prop} (hf : f.offset = off) (hT : f.type = T) (h : Opens P T d G) : OpensAt P [f] off d G :=
  fun H enc W base sp held n cs hl hfs => by
    subst hT
    obtain ⟨y, hy⟩ := hfs f (List.mem_singleton.2 rfl)
    rw [hf, h.1, List.take_of_length_le (by rw [List.length_drop]; omega)] at hy
    exact h.2 H enc W base sp held n _ _ hy
theorem at_cons {α β : Type} {P : Program} {f : Field} {fs : List Field} {off : Nat} {T : TypeId} {d : Kd α} {d2 : Kd β} {G : α → Prop} {G2 : β → Prop} (hf : f.offset = off) (hT : f.type = T) (h : Opens P T d G) (h2 : OpensAt P fs (off + d.sz) d2 G2) :
    OpensAt P (f :: fs) off (Kd.pair d d2) (fun x => G x.1 ∧ G2 x.2) :=
  fun H enc W base sp held n cs hl hfs => by
    subst hT
    obtain ⟨y, hy⟩ := hfs f (List.mem_cons_self)
    have hl' : cs.length = off + (d.sz + d2.sz) := hl
    rw [hf, h.1] at hy
    obtain ⟨a, k1, g1⟩ := h.2 H enc W base sp held n _ _ hy
    obtain ⟨b, k2, g2⟩ := h2 H enc W base sp held n cs (by omega) (fun f' hf' => hfs f' (List.mem_cons_of_mem _ hf'))
    refine ⟨(a, b), ⟨_, _, ?_, k1, k2⟩, g1, g2⟩
    rw [← List.drop_drop, List.take_append_drop]
theorem opens_struct {α β : Type} {P : Program} {t : TypeId} {fs : List Field} {d : Kd α} {G : α → Prop} (f : β → α) (g : α → β) (hfg : ∀ x, f (g x) = x) (ht : P.underlying t = some (.struct fs.toArray)) (hc : P.cellsOf t = d.sz) (h : OpensAt P fs 0 d G) :
    Opens P t (Kd.iso d f) (fun x => G (f x)) :=
  ⟨hc, fun H enc W base sp held fuel cs x hx => by
    obtain ⟨xs, n, _, _, hl, hlen, hf⟩ := DataW.trod_struct ht hx
    obtain ⟨a, k, g1⟩ := h H enc W base sp held n cs (by rw [hl, hc]; omega) (fun f' hf' => by
      obtain ⟨i, hi⟩ := List.getElem?_of_mem hf'
      have hi' : fs.toArray[i]? = some f' := by simpa using hi
      have hil : i < xs.length := by
        have := (List.getElem?_eq_some_iff.1 hi).1
        have h2 : xs.length = fs.length := by simpa using hlen
        omega
      have := hf i f' hi'
      rw [List.getElem?_eq_getElem hil] at this
      exact ⟨_, this⟩)
    refine ⟨g a, ?_, ?_⟩
    · show d.K W (f (g a)) cs
      rw [hfg]; simpa using k
    · show G (f (g a))
      rw [hfg]; exact g1⟩
theorem arg_slice {α : Type} {P : Program} {W : World} {t e : TypeId} {d : Kd α} {G : α → Prop} {H : Type} {enc : TypeId × Value → H} {base : Nat} {sp : Nat → Bool} {held : Bool} {A : Option Addr} {n c : Nat} {x : DataW H} {ps : List MemPlace}
    (ht : P.underlying t = some (.slice e)) (hc : P.cellsOf t = 1) (he : Opens P e d G) (h : DataW.Trod enc P W base sp held t (.slice A n c) x ps) :
    ∃ xs : List α, n = xs.length ∧ d.C W A xs.length xs ∧ xs.length ≤ c ∧ xs.length ≤ maxLen ∧ ∀ a ∈ xs, G a := by
  obtain ⟨fuel, hf⟩ := h
  obtain ⟨xs, ⟨A', c', h1, h2, h3⟩, h4, h5⟩ := (opens_slice ht hc he).2 H enc W base sp held fuel _ _ hf
  simp [Value.cells] at h1
  obtain ⟨rfl, rfl, rfl⟩ := h1
  exact ⟨xs, rfl, h3, h2, h4, h5⟩
end Go.Proofs.Ytpagejjjfpkmcaa.Opn
namespace Go.Proofs.Ytpagejjjfpkmcaa.Pure
open Go.RowKit Go.Proofs.Ytpagejjjfpkmcaa.G Go.Proofs.YtpagejjjfpkmcaaW.PrintWords Go.Proofs.YtpagejjjfpkmcaaW.PrintLast
def laws_FnExactMoveTerm.Pure : Prop := ∀ (l0 : List S39) (a1 : Int) (l2 : List S39), l0.length ≤ maxLen → (∀ x ∈ l0, (fun (x : S39) => (fun (x : Int × Int × Int × Int) => (fun n => (Lit.int .i64 n).wf = true) x.1 ∧ (fun (x : Int × Int × Int) => (fun n => (Lit.int .i64 n).wf = true) x.1 ∧ (fun (x : Int × Int) => (fun n => (Lit.int .i64 n).wf = true) x.1 ∧ (fun n => (Lit.int .i64 n).wf = true) x.2) x.2) x.2) (x.f0, x.f1, x.f2, x.f3)) x) → (Lit.int .i64 a1).wf = true → l2.length ≤ maxLen → (∀ x ∈ l2, (fun (x : S39) => (fun (x : Int × Int × Int × Int) => (fun n => (Lit.int .i64 n).wf = true) x.1 ∧ (fun (x : Int × Int × Int) => (fun n => (Lit.int .i64 n).wf = true) x.1 ∧ (fun (x : Int × Int) => (fun n => (Lit.int .i64 n).wf = true) x.1 ∧ (fun n => (Lit.int .i64 n).wf = true) x.2) x.2) x.2) (x.f0, x.f1, x.f2, x.f3)) x) → ∃ k, laws_FnExactMoveTerm.f k l0 a1 l2 = some true
end Go.Proofs.Ytpagejjjfpkmcaa.Pure
set_option linter.unusedVariables false
set_option linter.unusedSimpArgs false
namespace Go.Proofs.Ytpagejjjfpkmcaa.Pure
open Go.RowKit Go.Proofs.Ytpagejjjfpkmcaa.G Go.Proofs.YtpagejjjfpkmcaaW.PrintWords Go.Proofs.YtpagejjjfpkmcaaW.PrintLast Go.Proofs.YtpagejjjfpkmcaaW.PrintMore
theorem ev_succ {α : Type} {g : Nat → Option α} {r : α} (h : Ev (fun k => g (k + 1)) r) : Ev g r := by
  obtain ⟨K, hK⟩ := h
  refine ⟨K + 1, fun k hk => ?_⟩
  obtain ⟨m, rfl⟩ : ∃ m, k = m + 1 := ⟨k - 1, by omega⟩
  exact hK m (by omega)
theorem w64' {n : Int} (h0 : -9223372036854775808 ≤ n) (h1 : n ≤ 9223372036854775807) : wrap64 n = n := by unfold wrap64; omega
theorem rd_nat (l : List Int) (i : Nat) : rd l (i : Int) = l.getD i 0 := by simp [rd]
theorem set_split {α : Type} (pre rest : List α) (x y : α) : (pre ++ x :: rest).set pre.length y = pre ++ y :: rest := by
  simp
def toT (x : S39) : S37 := ⟨x.f0, x.f1, x.f2, x.f3⟩
theorem toTermS_l0 (l : List S39) (hl : l.length ≤ 9223372036854775807) (z : S37) (d : Nat) : ∀ (k i : Nat), i + d = l.length → d < k →
    laws_toTermS.l0 k l ((l.map toT).take i ++ List.replicate d z) i = some (l.map toT) := by
  induction d with
  | zero =>
    intro k i hi hk
    obtain ⟨k, rfl⟩ : ∃ m, k = m + 1 := ⟨k - 1, by omega⟩
    simp only [laws_toTermS.l0]; rw [if_neg (by omega)]
    simp [List.take_of_length_le (show (l.map toT).length ≤ i by simp; omega)]
  | succ d ih =>
    intro k i hi hk
    obtain ⟨k, rfl⟩ : ∃ m, k = m + 1 := ⟨k - 1, by omega⟩
    simp only [laws_toTermS.l0, laws_toTerm.f, Option.bind_some]
    rw [if_pos (by omega), if_pos (by omega), if_pos (by simp; omega), w64' (by omega) (by omega)]
    have e : ((l.map toT).take i ++ List.replicate (d + 1) z).set ((i : Int)).toNat (⟨(rd_T39 l i).f0, (rd_T39 l i).f1, (rd_T39 l i).f2, (rd_T39 l i).f3⟩ : S37) = (l.map toT).take (i + 1) ++ List.replicate d z := by
      rw [List.replicate_succ]
      have h1 : ((l.map toT).take i).length = i := by simp; omega
      have := set_split ((l.map toT).take i) (List.replicate d z) z (toT (rd_T39 l i))
      rw [h1] at this
      simp only [Int.toNat_natCast]
      have hg : toT (rd_T39 l i) = (l.map toT)[i]'(by simp; omega) := by simp [rd_T39, List.getD, List.getElem?_eq_getElem (show i < l.length by omega)]
      rw [List.take_succ_eq_append_getElem (by simp; omega), ← hg, List.append_assoc]
      exact this
    rw [e]
    have := ih k (i + 1) (by omega) (by omega)
    simpa using this
theorem toTermS_ev (l : List S39) (hl : l.length ≤ 8796093022208) : Ev (fun k => laws_toTermS.f k l) (l.map toT) := by
  refine ⟨l.length + 1, fun k hk => ?_⟩
  simp only [laws_toTermS.f]
  rw [if_pos (by omega), if_pos (by simp; omega)]
  have := toTermS_l0 l (by omega) z37 l.length k 0 (by omega) (by omega)
  simpa using this
theorem eqTermS_l0 (l : List S37) (hl : l.length ≤ 9223372036854775807) (d : Nat) : ∀ (k i : Nat), i + d = l.length → d < k → laws_eqTermS.l0 k l l i = some true := by
  induction d with
  | zero =>
    intro k i hi hk
    obtain ⟨k, rfl⟩ : ∃ m, k = m + 1 := ⟨k - 1, by omega⟩
    simp only [laws_eqTermS.l0]; rw [if_neg (by omega)]
  | succ d ih =>
    intro k i hi hk
    obtain ⟨k, rfl⟩ : ∃ m, k = m + 1 := ⟨k - 1, by omega⟩
    simp only [laws_eqTermS.l0, laws_eqTerm.f, if_true, Option.bind_some]
    rw [if_pos (by omega), if_pos (by omega), if_pos (by omega), w64' (by omega) (by omega)]
    have := ih k (i + 1) (by omega) (by omega)
    simpa using this
theorem eqTermS_ev (l : List S37) (hl : l.length ≤ 9223372036854775807) : Ev (fun k => laws_eqTermS.f k l l) true := by
  refine ⟨l.length + 1, fun k hk => ?_⟩
  simp only [laws_eqTermS.f, if_true]
  have := eqTermS_l0 l hl l.length k 0 (by omega) (by omega)
  simpa using this
def tmark (m : Int) (i : Nat) : S37 := ⟨m + 4 * i, m + 4 * i + 1, m + 4 * i + 1 + 1, m + 4 * i + 1 + 1 + 1⟩
def tmarks (m : Int) (n : Nat) : List S37 := (List.range n).map (tmark m)
theorem tmarks_length (m : Int) (n : Nat) : (tmarks m n).length = n := by simp [tmarks]
theorem tmarks_succ (m : Int) (n : Nat) : tmarks m (n + 1) = tmarks m n ++ [tmark m n] := by simp [tmarks, List.range_succ]
theorem rd_setT (l : List S37) (i : Nat) (h : i < l.length) (x : S37) : rd_T37 (l.set i x) (i : Int) = x := by
  simp [rd_T37, List.getD, h]
theorem markTermS_l0 (l : List S37) (m : Int) (hm : 0 ≤ m) (hl : m + 4 * l.length ≤ 9223372036854775800) (d : Nat) : ∀ (k i : Nat), i + d = l.length → d < k →
    laws_markTermS.l0 k (tmarks m i ++ l.drop i) (m + 4 * i) i = some (m + 4 * l.length, tmarks m l.length) := by
  induction d with
  | zero =>
    intro k i hi hk
    obtain ⟨k, rfl⟩ : ∃ m, k = m + 1 := ⟨k - 1, by omega⟩
    obtain rfl : i = l.length := by omega
    simp only [laws_markTermS.l0]; rw [if_neg (by simp [tmarks_length])]
    simp
  | succ d ih =>
    intro k i hi hk
    obtain ⟨k, rfl⟩ : ∃ m, k = m + 1 := ⟨k - 1, by omega⟩
    simp only [laws_markTermS.l0]
    have hlen : (tmarks m i ++ l.drop i).length = l.length := by simp [tmarks_length]; omega
    have hle : i < (tmarks m i ++ l.drop i).length := by omega
    have e1 : wrap64 (m + 4 * i + 1) = m + 4 * i + 1 := w64' (by omega) (by omega)
    have e2 : wrap64 (m + 4 * i + 1 + 1) = m + 4 * i + 1 + 1 := w64' (by omega) (by omega)
    have e3 : wrap64 (m + 4 * i + 1 + 1 + 1) = m + 4 * i + 1 + 1 + 1 := w64' (by omega) (by omega)
    have e4 : wrap64 (m + 4 * i + 1 + 1 + 1 + 1) = m + 4 * i + 1 + 1 + 1 + 1 := w64' (by omega) (by omega)
    rw [e1, e2, e3, e4, w64' (n := (i : Int) + 1) (by omega) (by omega)]
    simp only [Option.bind_some, Int.toNat_natCast, show (i : Int) < ((tmarks m i ++ l.drop i).length : Int) by omega, show 0 ≤ (i : Int) by omega, if_true]
    simp only [List.set_set, rd_setT _ i hle]
    have e : (tmarks m i ++ l.drop i).set i (⟨m + 4 * i, m + 4 * i + 1, m + 4 * i + 1 + 1, m + 4 * i + 1 + 1 + 1⟩ : S37) = tmarks m (i + 1) ++ l.drop (i + 1) := by
      rw [List.drop_eq_getElem_cons (show i < l.length by omega), tmarks_succ]
      have := set_split (tmarks m i) (l.drop (i + 1)) l[i] (tmark m i)
      rw [tmarks_length] at this
      show _ = _
      rw [show (⟨m + 4 * i, m + 4 * i + 1, m + 4 * i + 1 + 1, m + 4 * i + 1 + 1 + 1⟩ : S37) = tmark m i from rfl, this]; simp
    rw [e]
    have := ih k (i + 1) (by omega) (by omega)
    rw [show m + 4 * (i : Int) + 1 + 1 + 1 + 1 = m + 4 * ((i + 1 : Nat) : Int) by omega, show (i : Int) + 1 = ((i + 1 : Nat) : Int) by omega]
    exact this
theorem markTermS_ev (l : List S37) (m : Int) (hm : 0 ≤ m) (hl : m + 4 * l.length ≤ 9223372036854775800) : Ev (fun k => laws_markTermS.f k l m) (m + 4 * l.length, tmarks m l.length) := by
  refine ⟨l.length + 1, fun k hk => ?_⟩
  unfold laws_markTermS.f
  have := markTermS_l0 l m hm hl l.length k 0 (by omega) (by omega)
  simpa [tmarks] using this
theorem in_specT (a b c : Int) : spec_l1In.f a b c = some (decide (b ≤ a ∧ a ≤ c)) := by
  unfold spec_l1In.f; split
  · congr 1; simp; omega
  · congr 1; simp; omega
theorem kids_ev (a : Int) : Ev (fun k => spec_l5Kids.f k a) (if a = 3 ∨ a = 4 ∨ a = 5 ∨ a = 7 then 2 else if a = 6 then 1 else 0) := by
  refine ⟨1, fun k hk => ?_⟩
  obtain ⟨m, rfl⟩ : ∃ m, k = m + 1 := ⟨k - 1, by omega⟩
  unfold spec_l5Kids.f
  by_cases h3 : a = 3
  · simp [spec_l5Kids.j0, h3]
  · by_cases h4 : a = 4
    · simp [spec_l5Kids.j0, h4]
    · by_cases h5 : a = 5
      · simp [spec_l5Kids.j0, h5]
      · by_cases h7 : a = 7
        · simp [spec_l5Kids.j0, h7]
        · by_cases h6 : a = 6
          · simp [spec_l5Kids.j0, h6]
          · simp [spec_l5Kids.j0, h3, h4, h5, h6, h7]
theorem notIn_iff (l : List S37) (x : Int) : notIn l x = false ↔ (0 ≤ x ∧ x < (l.length : Int)) := by
  unfold notIn; simp; omega
theorem term_ev (a0 a1 a2 a3 : Int) (l : List S37) (hl : l.length ≤ 9223372036854775807) : Ev (fun k => spec_l5Term.f k l a0 a1 a2 a3) (tfault a0 a1 a2 a3 l) := by
  have hw : wrap64 ((l.length : Int) - 1) = (l.length : Int) - 1 := w64' (by omega) (by omega)
  unfold spec_l5Term.f
  simp only [in_specT, Option.bind_some, decide_eq_true_eq]
  unfold tfault
  by_cases hop : 1 ≤ a0 ∧ a0 ≤ 7
  rotate_left
  · simp only [if_neg hop]; exact Ev.now _
  simp only [if_pos hop]
  refine Ev.bind (kids_ev a0) ?_
  -- what stands behind the form's test
  have j2 : ∀ (n : Int) (t : Bool), (t = (a0 == 6 || a0 == 7)) → (a0 = 6 ∨ a0 = 7 → notIn l a1 = false ∧ (n > 1 → notIn l a2 = false)) → Ev (fun k => spec_l5Term.j2 k l n t a0 a1 a2 a3) (if a0 = 6 ∨ a0 = 7 then (if notFresh l a1 = true then 1 else if n > 1 then (if notFresh l a2 = true ∨ a1 > a2 then 1 else 0) else 0) else 0) := by
    intro n t ht hin
    refine ev_succ ?_
    simp only [spec_l5Term.j2]
    by_cases h67 : a0 = 6 ∨ a0 = 7
    · obtain ⟨i1, i2⟩ := hin h67
      rw [notIn_iff] at i1
      have ht' : t = true := by rw [ht]; rcases h67 with h | h <;> simp [h]
      simp only [ht', if_true, if_pos h67, i1.1, i1.2]
      by_cases hf : (rd_T37 l a1).f0 = 2
      · have hf' : notFresh l a1 = false := by unfold notFresh; simp [hf]
        simp only [hf, hf', if_true, Bool.false_eq_true, if_false]
        by_cases hn : n > 1
        · have i2' := i2 hn
          rw [notIn_iff] at i2'
          simp only [hn, if_true, i2'.1, i2'.2]
          by_cases hg : (rd_T37 l a2).f0 = 2
          · have hg' : notFresh l a2 = false := by unfold notFresh; simp [hg]
            simp only [hg, hg', if_true, Bool.false_eq_true, false_or]
            by_cases hgt : a1 > a2
            · simp only [hgt, if_true]; exact Ev.now _
            · simp only [hgt, if_false]; exact Ev.now _
          · have hg' : notFresh l a2 = true := by unfold notFresh; simpa using hg
            simp only [hg, hg', if_false, true_or, if_true]; exact Ev.now _
        · simp only [hn, if_false]; exact Ev.now _
      · have hf' : notFresh l a1 = true := by unfold notFresh; simpa using hf
        simp only [hf, hf', if_false, if_true]; exact Ev.now _
    · have ht' : t = false := by rw [ht]; simp only [not_or] at h67; simp [h67]
      simp only [ht', if_neg h67, Bool.false_eq_true, if_false]; exact Ev.now _
  have j1 : ∀ (n : Int) (t : Bool), (a0 = 6 ∨ a0 = 7 → t = false → notIn l a1 = false ∧ (n > 1 → notIn l a2 = false)) → Ev (fun k => spec_l5Term.j1 k l n t a0 a1 a2 a3) (if t = true then 3 else (if a0 = 6 ∨ a0 = 7 then (if notFresh l a1 = true then 1 else if n > 1 then (if notFresh l a2 = true ∨ a1 > a2 then 1 else 0) else 0) else 0)) := by
    intro n t hin
    refine ev_succ ?_
    simp only [spec_l5Term.j1]
    cases t with
    | true => simp only [if_true]; exact Ev.now _
    | false =>
      simp only [Bool.false_eq_true, if_false]
      by_cases h6 : a0 = 6
      · simp only [if_pos h6]; exact j2 n true (by simp [h6]) (fun h => hin h rfl)
      · simp only [if_neg h6]; exact j2 n (a0 == 7) (by simp [h6]) (fun h => hin h rfl)
  have dn : ∀ x : Int, (!decide (0 ≤ x ∧ x ≤ (l.length : Int) - 1)) = notIn l x := fun x => rfl
  have dt : ∀ x : Int, (0 ≤ x ∧ x ≤ (l.length : Int) - 1) ↔ notIn l x = false := fun x => by rw [notIn_iff]; omega
  by_cases h12 : a0 = 1 ∨ a0 = 2
  · -- names
    have hk : ¬ (a0 = 3 ∨ a0 = 4 ∨ a0 = 5 ∨ a0 = 7) := by omega
    have hk6 : ¬ a0 = 6 := by omega
    have h67 : ¬ (a0 = 6 ∨ a0 = 7) := by omega
    simp only [if_neg hk, if_neg hk6, if_pos h12, show ¬ (0 : Int) > 0 by omega, if_false, show (0 : Int) < 1 by omega, show (0 : Int) < 2 by omega, if_true]
    by_cases ha : a1 = 0
    · simp only [ha, if_true, true_and]
      refine ev_succ ?_
      simp only [spec_l5Term.j0]
      by_cases hb : a2 = 0
      · simp only [hb, bne_self_eq_false, Bool.false_eq_true, if_false, if_true, in_specT, Option.bind_some, decide_eq_true_eq, show ¬ (0 : Int) > 0 by omega, show ¬ (0 : Int) > 1 by omega]
        by_cases hn : 0 ≤ a3 ∧ a3 ≤ 9999
        · simp only [hn, and_self, if_true]
          have := j1 0 false (fun h => absurd h h67)
          simp only [Bool.false_eq_true, if_false, if_neg h67, ha, hb] at this
          exact this
        · simp only [if_neg hn]
          have := j1 0 true (fun h => absurd h h67)
          simp only [if_true, ha, hb] at this
          exact this
      · have hb' : (a2 != 0) = true := by simpa using hb
        simp only [hb', if_true, hb, if_false]; exact Ev.now _
    · simp only [ha, if_false, false_and]
      refine ev_succ ?_
      simp only [spec_l5Term.j0, if_true]; exact Ev.now _
  · by_cases h6 : a0 = 6
    · have hk : ¬ (a0 = 3 ∨ a0 = 4 ∨ a0 = 5 ∨ a0 = 7) := by omega
      simp only [if_neg hk, if_pos h6, if_neg h12, show (1 : Int) > 0 by omega, if_true, show ¬ (1 : Int) < 1 by omega, if_false, show (1 : Int) < 2 by omega]
      by_cases hn : a3 = 0
      · simp only [hn, if_true, and_true]
        refine ev_succ ?_
        simp only [spec_l5Term.j0]
        by_cases hb : a2 = 0
        · simp only [hb, bne_self_eq_false, Bool.false_eq_true, if_false, if_true, in_specT, Option.bind_some, decide_eq_true_eq, show (1 : Int) > 0 by omega, show ¬ (1 : Int) > 1 by omega, show (0 : Int) ≤ 0 ∧ (0 : Int) ≤ 9999 by omega, and_self, hw, List.any_cons, List.any_nil, Bool.or_false]
          cases hi : notIn l a1 with
          | false =>
            simp only [if_pos ((dt a1).2 hi), Bool.false_eq_true, if_false]
            have := j1 1 false (fun h _ => ⟨hi, fun h => absurd h (by omega)⟩)
            simp only [Bool.false_eq_true, if_false, h6, true_or, if_true, show ¬ (1 : Int) > 1 by omega, hb, hn] at this
            rw [h6]
            exact this
          | true =>
            simp only [if_neg (show ¬ (0 ≤ a1 ∧ a1 ≤ (l.length : Int) - 1) from fun h => by rw [(dt a1).1 h] at hi; cases hi), if_true]
            have := j1 1 true (fun _ h => by cases h)
            simp only [if_true, hb, hn] at this
            exact this
        · have hb' : (a2 != 0) = true := by simpa using hb
          simp only [hb', if_true, hb, if_false]; exact Ev.now _
      · simp only [hn, if_false, and_false]
        refine ev_succ ?_
        simp only [spec_l5Term.j0, if_true]; exact Ev.now _
    · have hk : a0 = 3 ∨ a0 = 4 ∨ a0 = 5 ∨ a0 = 7 := by omega
      simp only [if_pos hk, if_neg h6, if_neg h12, show (2 : Int) > 0 by omega, if_true, show ¬ (2 : Int) < 1 by omega, if_false, show ¬ (2 : Int) < 2 by omega]
      by_cases hn : a3 = 0
      · simp only [hn, if_true]
        refine ev_succ ?_
        simp only [spec_l5Term.j0, Bool.false_eq_true, if_false, if_true, in_specT, Option.bind_some, decide_eq_true_eq, show (2 : Int) > 0 by omega, show (2 : Int) > 1 by omega, show (0 : Int) ≤ 0 ∧ (0 : Int) ≤ 9999 by omega, and_self, hw, dn, List.any_cons, List.any_nil, Bool.or_false]
        cases hi : notIn l a1 with
        | true =>
          simp only [if_neg (show ¬ (0 ≤ a1 ∧ a1 ≤ (l.length : Int) - 1) from fun h => by rw [(dt a1).1 h] at hi; cases hi), Bool.true_or, if_true]
          have := j1 2 true (fun _ h => by cases h)
          simp only [if_true, hn] at this
          exact this
        | false =>
          simp only [if_pos ((dt a1).2 hi), Bool.false_or]
          have := j1 2 (notIn l a2) (fun _ h => ⟨hi, fun _ => h⟩)
          simp only [show (2 : Int) > 1 by omega, if_true, h6, false_or, hn] at this
          have e : (if notIn l a2 = true then (3 : Int) else if a0 = 7 then (if notFresh l a1 = true then 1 else if notFresh l a2 = true ∨ a1 > a2 then 1 else 0) else 0) = (if notIn l a2 = true then 3 else if a0 = 7 then (if (notFresh l a1 || notFresh l a2) = true ∨ a1 > a2 then 1 else 0) else 0) := by
            by_cases q0 : notIn l a2 = true
            · rw [if_pos q0, if_pos q0]
            · rw [if_neg q0, if_neg q0]
              by_cases q7 : a0 = 7
              · rw [if_pos q7, if_pos q7]
                cases notFresh l a1 <;> cases notFresh l a2 <;> simp
              · rw [if_neg q7, if_neg q7]
          rw [e] at this
          exact this
      · simp only [hn, if_false]
        refine ev_succ ?_
        simp only [spec_l5Term.j0, if_true]; exact Ev.now _
theorem drop_rdT (l : List S37) (i : Nat) (h : i < l.length) : l.drop i = rd_T37 l (i : Int) :: l.drop (i + 1) := by
  rw [List.drop_eq_getElem_cons h]
  simp [rd_T37, List.getD, List.getElem?_eq_getElem h]
theorem take_rdT (l : List S37) (i : Nat) (h : i < l.length) : l.take (i + 1) = l.take i ++ [rd_T37 l (i : Int)] := by
  rw [List.take_succ_eq_append_getElem h]
  simp [rd_T37, List.getD, List.getElem?_eq_getElem h]
def tidx (l : List S37) (x : S37) (i : Nat) : Int :=
  match (l.drop i).findIdx? fun y => eq4 x y with
  | some j => ((i + j : Nat) : Int)
  | none => -1
theorem find_l0 (l : List S37) (hl : l.length ≤ 9223372036854775807) (x : S37) (d : Nat) : ∀ (k i : Nat), i + d = l.length → d < k → spec_l5Find.l0 k l i x.f0 x.f1 x.f2 x.f3 = some (tidx l x i) := by
  induction d with
  | zero =>
    intro k i hi hk
    obtain ⟨k, rfl⟩ : ∃ m, k = m + 1 := ⟨k - 1, by omega⟩
    simp only [spec_l5Find.l0]; rw [if_neg (by omega)]; unfold tidx; rw [List.drop_of_length_le (by omega)]; rfl
  | succ d ih =>
    intro k i hi hk
    obtain ⟨k, rfl⟩ : ∃ m, k = m + 1 := ⟨k - 1, by omega⟩
    simp only [spec_l5Find.l0]
    rw [if_pos (by omega), if_pos (by omega), w64' (by omega) (by omega)]
    have e := ih k (i + 1) (by omega) (by omega)
    have e' : spec_l5Find.l0 k l ((i : Int) + 1) x.f0 x.f1 x.f2 x.f3 = some (tidx l x (i + 1)) := by simpa using e
    rw [e']
    have sw : (((rd_T37 l i).f0) == x.f0 && (((rd_T37 l i).f1) == x.f1 && (((rd_T37 l i).f2) == x.f2 && (((rd_T37 l i).f3) == x.f3)))) = eq4 x (rd_T37 l i) := by
      unfold eq4; rw [BEq.comm (b := x.f0), BEq.comm (b := x.f1), BEq.comm (b := x.f2), BEq.comm (b := x.f3)]
    rw [sw]
    unfold tidx
    rw [drop_rdT l i (by omega), List.findIdx?_cons]
    cases h : eq4 x (rd_T37 l i)
    · simp only [Bool.false_eq_true, if_false]
      cases (l.drop (i + 1)).findIdx? fun y => eq4 x y with
      | none => rfl
      | some j => simp; omega
    · simp
theorem find_ev (l : List S37) (hl : l.length ≤ 9223372036854775807) (x : S37) : Ev (fun k => spec_l5Find.f k l x.f0 x.f1 x.f2 x.f3) (tidx l x 0) := by
  refine ⟨l.length + 1, fun k hk => ?_⟩
  have := find_l0 l hl x l.length k 0 (by omega) (by omega)
  simpa [spec_l5Find.f] using this
theorem tidx_nonneg (l : List S37) (x : S37) : tidx l x 0 ≥ 0 ↔ l.any (eq4 x) = true := by
  unfold tidx
  rw [List.drop_zero]
  cases h : l.findIdx? fun y => eq4 x y with
  | none =>
    rw [List.findIdx?_eq_none_iff] at h
    constructor
    · intro h'; simp at h'
    · intro h'
      obtain ⟨y, hy, hq⟩ := List.any_eq_true.1 h'
      have := h y hy
      rw [hq] at this; cases this
  | some j =>
    rw [List.findIdx?_eq_some_iff_getElem] at h
    obtain ⟨hj, h3, _⟩ := h
    constructor
    · intro _; exact List.any_eq_true.2 ⟨_, List.getElem_mem hj, h3⟩
    · intro _; simp only [Nat.zero_add]; omega
def TF (l : List S37) : Int := if 400 < l.length then 2 else TFs [] l
theorem tf_spec_l0 (l : List S37) (hl : l.length ≤ 400) (d : Nat) : ∀ (i : Nat), i + d = l.length → Ev (fun k => spec_TermsFault.l0 k l i) (TFs (l.take i) (l.drop i)) := by
  induction d with
  | zero =>
    intro i hi
    refine ev_succ ?_
    simp only [spec_TermsFault.l0, show ¬ (i : Int) < (l.length : Int) by omega, if_false]
    rw [List.drop_of_length_le (by omega)]; exact Ev.now _
  | succ d ih =>
    intro i hi
    refine ev_succ ?_
    simp only [spec_TermsFault.l0, show (i : Int) < (l.length : Int) by omega, show 0 ≤ (i : Int) by omega, show (i : Int) ≤ (l.length : Int) by omega, if_true, Int.toNat_natCast]
    rw [drop_rdT l i (by omega)]
    generalize hx : rd_T37 l (i : Int) = x
    simp only [TFs]
    refine Ev.bind (term_ev _ _ _ _ _ (by rw [List.length_take]; omega)) ?_
    by_cases h0 : tfault x.f0 x.f1 x.f2 x.f3 (l.take i) = 0
    · simp only [h0, if_true]
      refine Ev.bind (find_ev _ (by rw [List.length_take]; omega) x) ?_
      by_cases hh : (l.take i).any (eq4 x) = true
      · simp only [if_pos hh, if_pos ((tidx_nonneg _ _).2 hh)]; exact Ev.now _
      · simp only [if_neg hh, if_neg (fun h => hh ((tidx_nonneg _ _).1 h))]
        rw [w64' (by omega) (by omega), ← hx, ← take_rdT l i (by omega)]
        have := ih (i + 1) (by omega)
        simpa using this
    · simp only [h0, if_false]; exact Ev.now _
theorem tf_spec (l : List S37) : Ev (fun k => spec_TermsFault.f k l) (TF l) := by
  unfold spec_TermsFault.f TF
  by_cases h : 400 < l.length
  · simp only [show (l.length : Int) > 400 by omega, h, if_true]; exact Ev.now _
  · simp only [show ¬ (l.length : Int) > 400 by omega, h, if_false]
    have := tf_spec_l0 l (by omega) l.length 0 (by omega)
    simpa using this
theorem tf_impl {l : List S37} (h : l.all wf4 = true) : impl_TermsFault.f l = some (TF l) := by
  unfold impl_TermsFault.f TF
  rw [if_pos h]
theorem TFs_ok : ∀ (l pre : List S37), TFs pre l = 0 → ∀ i : Nat, i < l.length → tfault (rd_T37 l i).f0 (rd_T37 l i).f1 (rd_T37 l i).f2 (rd_T37 l i).f3 (pre ++ l.take i) = 0
  | [], _, _, i, hi => absurd hi (Nat.not_lt_zero _)
  | x :: r, pre, h, i, hi => by
    simp only [TFs] at h
    by_cases h0 : tfault x.f0 x.f1 x.f2 x.f3 pre = 0
    · rw [if_pos h0] at h
      by_cases hh : pre.any (eq4 x) = true
      · rw [if_pos hh] at h; cases h
      · rw [if_neg hh] at h
        match i, hi with
        | 0, _ => simpa [rd_T37] using h0
        | i + 1, hi =>
          have := TFs_ok r _ h i (by simpa using hi)
          have e : rd_T37 (x :: r) ((i + 1 : Nat) : Int) = rd_T37 r (i : Int) := by simp [rd_T37, List.getD, show ((i : Int) + 1).toNat = i + 1 by omega]
          rw [e, List.take_succ_cons]
          simpa using this
    · rw [if_neg h0] at h; exact absurd h h0
theorem at_ev (l : List S37) (hl : l.length ≤ 9223372036854775807) (a : Int) : spec_l5At.f l a = some (!notIn l a) := by
  unfold spec_l5At.f
  rw [in_specT, w64' (n := (l.length : Int) - 1) (by omega) (by omega)]
  unfold notIn
  simp
theorem wf4_map (l : List S39) (h : ∀ x ∈ l, ((Lit.int .i64 x.f0).wf = true ∧ (Lit.int .i64 x.f1).wf = true ∧ (Lit.int .i64 x.f2).wf = true ∧ (Lit.int .i64 x.f3).wf = true)) : (l.map toT).all wf4 = true := by
  rw [List.all_eq_true]
  intro y hy
  obtain ⟨x, hx, rfl⟩ := List.mem_map.1 hy
  obtain ⟨h0, h1, h2, h3⟩ := h x hx
  unfold wf4 toT
  simp [h0, h1, h2, h3]
theorem heldTermS_l0 (n : Nat) (m : Int) (hm : 0 ≤ m) (hl : m + 4 * n ≤ 9223372036854775800) (d : Nat) : ∀ (k i : Nat), i + d = n → d < k →
    laws_heldTermS.l0 k (tmarks m n) (m + 4 * i) i = some (m + 4 * n) := by
  induction d with
  | zero =>
    intro k i hi hk
    obtain ⟨k, rfl⟩ : ∃ m, k = m + 1 := ⟨k - 1, by omega⟩
    obtain rfl : i = n := by omega
    simp only [laws_heldTermS.l0]; rw [if_neg (by simp [tmarks_length])]
  | succ d ih =>
    intro k i hi hk
    obtain ⟨k, rfl⟩ : ∃ m, k = m + 1 := ⟨k - 1, by omega⟩
    simp only [laws_heldTermS.l0]
    have e : rd_T37 (tmarks m n) (i : Int) = tmark m i := by
      simp [rd_T37, tmarks, List.getD, List.getElem?_map, List.getElem?_range (show i < n by omega)]
    have e1 : wrap64 (m + 4 * i + 1) = m + 4 * i + 1 := w64' (by omega) (by omega)
    have e2 : wrap64 (m + 4 * i + 1 + 1) = m + 4 * i + 1 + 1 := w64' (by omega) (by omega)
    have e3 : wrap64 (m + 4 * i + 1 + 1 + 1) = m + 4 * i + 1 + 1 + 1 := w64' (by omega) (by omega)
    have e4 : wrap64 (m + 4 * i + 1 + 1 + 1 + 1) = m + 4 * i + 1 + 1 + 1 + 1 := w64' (by omega) (by omega)
    rw [e1, e2, e3, e4, e, w64' (n := (i : Int) + 1) (by omega) (by omega)]
    rw [if_pos (by rw [tmarks_length]; omega), if_pos (by omega)]
    simp only [tmark, if_true]
    have := ih k (i + 1) (by omega) (by omega)
    rw [show m + 4 * (i : Int) + 1 + 1 + 1 + 1 = m + 4 * ((i + 1 : Nat) : Int) by omega, show (i : Int) + 1 = ((i + 1 : Nat) : Int) by omega]
    exact this
theorem heldTermS_ev (n : Nat) (m : Int) (hm : 0 ≤ m) (hl : m + 4 * n ≤ 9223372036854775800) : Ev (fun k => laws_heldTermS.f k (tmarks m n) m) (m + 4 * n) := by
  refine ⟨n + 1, fun k hk => ?_⟩
  unfold laws_heldTermS.f
  have := heldTermS_l0 n m hm hl n k 0 (by omega) (by omega)
  simpa using this
theorem eqTermResult_ev (c a : Int) (l : List S37) (hl : l.length ≤ 9223372036854775807) : Ev (fun k => laws_eqTermResult.f k c a l c a l) true := by
  simp only [laws_eqTermResult.f, if_true]
  refine Ev.bind (eqTermS_ev l hl) ?_
  simp only [if_true]; exact Ev.now _
theorem markTermResult_ev (c a : Int) (l : List S37) (m : Int) (hm : 0 ≤ m) (hl : m + 4 * l.length ≤ 9223372036854775800) : Ev (fun k => laws_markTermResult.f k c a l m) (m + 4 * l.length, tmarks m l.length) := by
  simp only [laws_markTermResult.f]
  refine Ev.bind (markTermS_ev l m hm hl) ?_
  exact Ev.now _
theorem heldTermResult_ev (c a : Int) (n : Nat) (m : Int) (hm : 0 ≤ m) (hl : m + 4 * n ≤ 9223372036854775800) : Ev (fun k => laws_heldTermResult.f k c a (tmarks m n) m) (m + 4 * n) := by
  simp only [laws_heldTermResult.f]
  refine Ev.bind (heldTermS_ev n m hm hl) ?_
  simp only [show ¬ (m + 4 * (n : Int) < 0) by omega, if_false]; exact Ev.now _
theorem TF_len {l : List S37} (h : TF l = 0) : l.length ≤ 400 := by
  unfold TF at h
  by_cases hb : 400 < l.length
  · rw [if_pos hb] at h; cases h
  · omega
def PT (l : List S37) (t : S37) : Int × Int × List S37 := if tfault t.f0 t.f1 t.f2 t.f3 l = 0 then (if 0 ≤ tidx l t 0 then (0, tidx l t 0, l) else if 400 ≤ l.length then (2, 0, []) else (0, (l.length : Int), l ++ [t])) else (tfault t.f0 t.f1 t.f2 t.f3 l, 0, [])
theorem copy_ev (l : List S37) (hl : l.length ≤ 400) : spec_l5Copy.f l = some l := by
  unfold spec_l5Copy.f
  simp only [Option.bind_some, List.length_nil, List.nil_append]
  rw [if_pos (by omega)]
theorem put_spec (l : List S37) (hl : l.length ≤ 400) (t : S37) : Ev (fun k => spec_l5Put.f k l t.f0 t.f1 t.f2 t.f3) (PT l t) := by
  unfold spec_l5Put.f PT
  refine Ev.bind (term_ev _ _ _ _ l (by omega)) ?_
  by_cases h : tfault t.f0 t.f1 t.f2 t.f3 l = 0
  · simp only [h, if_true]
    refine Ev.bind (find_ev l (by omega) t) ?_
    by_cases h0 : 0 ≤ tidx l t 0
    · simp only [h0, if_true, show tidx l t 0 ≥ 0 from h0, copy_ev l hl, Option.bind_some]; exact Ev.now _
    · simp only [h0, if_false, show ¬ tidx l t 0 ≥ 0 from h0]
      by_cases h1 : 400 ≤ l.length
      · simp only [h1, if_true, show (l.length : Int) ≥ 400 by omega]; exact Ev.now _
      · simp only [h1, if_false, show ¬ (l.length : Int) ≥ 400 by omega, copy_ev l hl, Option.bind_some, List.length_cons, List.length_nil, show l.length + (0 + 1) < 4398046511104 by omega, if_true]; exact Ev.now _
  · simp only [h, if_false]; exact Ev.now _
def kid (t : S37) : List Int := if t.f0 = 1 ∨ t.f0 = 2 then [] else if t.f0 = 6 then [t.f1] else [t.f1, t.f2]
def sets (b : List Bool) (ks : List Int) : List Bool := ks.foldl (fun b x => b.set x.toNat true) b
def dn (L : List S37) : Nat → List Bool → List Bool
  | 0, b => b
  | n + 1, b => dn L n (if b.getD n false = true then sets b (kid (rd_T37 L (n : Int))) else b)
def up : List Bool → Nat → List Int
  | [], _ => []
  | x :: t, i => if x = true then (i : Int) :: up t (i + 1) else up t (i + 1)
def PLs (L : List S37) (n : Nat) : List Int := up (dn L (n + 1) ((List.replicate (n + 1) false).set n true)) 0
theorem rd_take {L : List S37} {i : Nat} {a : Int} (h0 : 0 ≤ a) (h1 : a < (i : Int)) : rd_T37 (L.take i) a = rd_T37 L a := by
  unfold rd_T37
  have : a.toNat < i := by omega
  simp [List.getD, List.getElem?_take, this]
theorem node_ok {L : List S37} (h : TF L = 0) (i : Nat) (hi : i < L.length) :
    ((rd_T37 L i).f0 = 1 ∨ (rd_T37 L i).f0 = 2) ∧ (rd_T37 L i).f1 = 0 ∧ (rd_T37 L i).f2 = 0 ∧ (0 ≤ (rd_T37 L i).f3 ∧ (rd_T37 L i).f3 ≤ 9999) ∨
    (rd_T37 L i).f0 = 6 ∧ (rd_T37 L i).f2 = 0 ∧ (rd_T37 L i).f3 = 0 ∧ (0 ≤ (rd_T37 L i).f1 ∧ (rd_T37 L i).f1 < i) ∧ (rd_T37 L (rd_T37 L i).f1).f0 = 2 ∨
    ((rd_T37 L i).f0 = 3 ∨ (rd_T37 L i).f0 = 4 ∨ (rd_T37 L i).f0 = 5 ∨ (rd_T37 L i).f0 = 7) ∧ (rd_T37 L i).f3 = 0 ∧ (0 ≤ (rd_T37 L i).f1 ∧ (rd_T37 L i).f1 < i) ∧ (0 ≤ (rd_T37 L i).f2 ∧ (rd_T37 L i).f2 < i) ∧ ((rd_T37 L i).f0 = 7 → (rd_T37 L (rd_T37 L i).f1).f0 = 2 ∧ (rd_T37 L (rd_T37 L i).f2).f0 = 2 ∧ (rd_T37 L i).f1 ≤ (rd_T37 L i).f2) := by
  have hl := TF_len h
  unfold TF at h
  rw [if_neg (by omega)] at h
  have ht := TFs_ok L [] h i hi
  rw [List.nil_append] at ht
  generalize rd_T37 L (i : Int) = x at ht ⊢
  have hlen : (L.take i).length = i := by rw [List.length_take]; omega
  unfold tfault at ht
  split at ht
  rotate_left
  · cases ht
  rename_i hop
  split at ht
  · rename_i h12
    split at ht
    · rename_i hz
      split at ht
      · rename_i hn
        exact .inl ⟨h12, hz.1, hz.2, hn⟩
      · cases ht
    · cases ht
  rename_i h12
  split at ht
  · rename_i h6
    split at ht
    · rename_i hz
      split at ht
      · cases ht
      · rename_i hin
        split at ht
        · cases ht
        · rename_i hf
          simp only [List.any_cons, List.any_nil, Bool.or_false, Bool.not_eq_true] at hin hf
          have e1 := (notIn_iff _ _).1 hin
          rw [hlen] at e1
          unfold notFresh at hf
          rw [rd_take e1.1 e1.2] at hf
          exact .inr (.inl ⟨h6, hz.1, hz.2, e1, by simpa using hf⟩)
    · cases ht
  rename_i h6
  split at ht
  · rename_i hz
    split at ht
    · cases ht
    · rename_i hin
      simp only [List.any_cons, List.any_nil, Bool.or_false, Bool.or_eq_true, not_or, Bool.not_eq_true] at hin
      have e1 := (notIn_iff _ _).1 hin.1
      have e2 := (notIn_iff _ _).1 hin.2
      rw [hlen] at e1 e2
      refine .inr (.inr ⟨by omega, hz, e1, e2, fun h7 => ?_⟩)
      rw [if_pos h7] at ht
      split at ht
      · cases ht
      · rename_i hf
        simp only [List.any_cons, List.any_nil, Bool.or_false, Bool.or_eq_true, not_or, Bool.not_eq_true] at hf
        unfold notFresh at hf
        rw [rd_take e1.1 e1.2, rd_take e2.1 e2.2] at hf
        exact ⟨by simpa using hf.1.1, by simpa using hf.1.2, by omega⟩
  · cases ht
theorem kid_ok {L : List S37} (h : TF L = 0) (i : Nat) (hi : i < L.length) : ∀ y ∈ kid (rd_T37 L i), 0 ≤ y ∧ y < (i : Int) := by
  have hn := node_ok h i hi
  intro y hy
  unfold kid at hy
  rcases hn with hn | hn | hn
  · rw [if_pos hn.1] at hy; cases hy
  · rw [if_neg (by omega), if_pos hn.1] at hy
    obtain rfl := List.mem_singleton.1 hy
    exact hn.2.2.2.1
  · rw [if_neg (by omega), if_neg (by omega)] at hy
    simp only [List.mem_cons, List.not_mem_nil, or_false] at hy
    rcases hy with rfl | rfl
    · exact hn.2.2.1
    · exact hn.2.2.2.1
theorem sets_length (ks : List Int) : ∀ b : List Bool, (sets b ks).length = b.length := by
  unfold sets
  induction ks with
  | nil => intro b; rfl
  | cons x t ih => intro b; rw [List.foldl_cons, ih]; simp
theorem dn_length (L : List S37) : ∀ (n : Nat) (b : List Bool), (dn L n b).length = b.length
  | 0, _ => rfl
  | n + 1, b => by
    rw [dn, dn_length L n]
    split
    · exact sets_length _ _
    · rfl
theorem up_mem : ∀ (b : List Bool) (i : Nat) (y : Int), y ∈ up b i ↔ ∃ j : Nat, y = ((i + j : Nat) : Int) ∧ b.getD j false = true
  | [], i, y => by simp [up]
  | x :: t, i, y => by
    unfold up
    constructor
    · intro h
      split at h
      · rename_i hx
        rcases List.mem_cons.1 h with rfl | h
        · exact ⟨0, by simp, by simpa using hx⟩
        · obtain ⟨j, e, hj⟩ := (up_mem t (i + 1) y).1 h
          exact ⟨j + 1, by rw [e]; congr 1; omega, by simpa using hj⟩
      · obtain ⟨j, e, hj⟩ := (up_mem t (i + 1) y).1 h
        exact ⟨j + 1, by rw [e]; congr 1; omega, by simpa using hj⟩
    · rintro ⟨j, e, hj⟩
      cases j with
      | zero =>
        have hx : x = true := by simpa using hj
        rw [if_pos hx, e]
        simp
      | succ j =>
        have := (up_mem t (i + 1) y).2 ⟨j, by rw [e]; congr 1; omega, by simpa using hj⟩
        split
        · exact List.mem_cons_of_mem _ this
        · exact this
theorem up_len : ∀ (b : List Bool) (i : Nat), (up b i).length ≤ b.length
  | [], _ => by simp [up]
  | x :: t, i => by
    have := up_len t (i + 1)
    unfold up
    split <;> simp <;> omega
theorem up_rise : ∀ (b : List Bool) (i : Nat), (up b i).Pairwise (· < ·) ∧ ∀ y ∈ up b i, (i : Int) ≤ y
  | [], _ => by simp [up]
  | x :: t, i => by
    obtain ⟨h1, h2⟩ := up_rise t (i + 1)
    unfold up
    split
    · refine ⟨List.pairwise_cons.2 ⟨fun y hy => by have := h2 y hy; omega, h1⟩, fun y hy => ?_⟩
      rcases List.mem_cons.1 hy with rfl | hy
      · exact Int.le_refl _
      · have := h2 y hy; omega
    · exact ⟨h1, fun y hy => by have := h2 y hy; omega⟩
theorem rdOf_nat (b : List Bool) (i : Nat) : rdOf false b (i : Int) = b.getD i false := by simp [rdOf]
theorem drop_getD (b : List Bool) (i : Nat) (h : i < b.length) : b.drop i = b.getD i false :: b.drop (i + 1) := by
  rw [List.drop_eq_getElem_cons h]; simp [List.getD, List.getElem?_eq_getElem h]
theorem names_ev (op : Int) : Ev (fun k => impl_namesOf.f k op) (!(op == 1 || op == 2), (!(op == 1 || op == 2)) && !(op == 6), (op == 1 || op == 2)) := by
  refine ⟨1, fun k hk => ?_⟩
  obtain ⟨m, rfl⟩ : ∃ m, k = m + 1 := ⟨k - 1, by omega⟩
  unfold impl_namesOf.f
  simp only [impl_namesOf.j0]
  by_cases h1 : op = 1
  · subst h1; rfl
  · by_cases h2 : op = 2
    · subst h2; rfl
    · by_cases h6 : op = 6
      · subst h6; rfl
      · simp [h1, h2, h6]
theorem tparts_ev (x : S37) : Ev (fun k => impl_Term_parts.f k x.f0 x.f1 x.f2 x.f3) (kid x) := by
  unfold impl_Term_parts.f kid
  refine Ev.bind (names_ev x.f0) ?_
  by_cases h1 : x.f0 = 1
  · simp only [h1, true_or, if_true, beq_self_eq_true, Bool.true_or]; exact Ev.now _
  · by_cases h2 : x.f0 = 2
    · simp only [h2, or_true, if_true, beq_self_eq_true, Bool.or_true]; exact Ev.now _
    · have e12 : (x.f0 == 1 || x.f0 == 2) = false := by simp [h1, h2]
      simp only [h1, h2, or_self, if_false, e12, Bool.not_false, Bool.true_and, Bool.false_eq_true]
      by_cases h6 : x.f0 = 6
      · simp only [h6, if_true, beq_self_eq_true, Bool.not_true, Bool.false_eq_true, if_false]; exact Ev.now _
      · have e6 : (x.f0 == 6) = false := by simpa using h6
        simp only [h6, if_false, e6, Bool.not_false, if_true]; exact Ev.now _
theorem pi_l2 (b : List Bool) (hb : b.length ≤ 1000) (d : Nat) : ∀ (i : Nat) (acc : List Int), i + d = b.length → acc.length + d ≤ 2000 → Ev (fun k => impl_partsOf.l2 k acc b (b.length : Int) i) (acc ++ up (b.drop i) i) := by
  induction d with
  | zero =>
    intro i acc hi ha
    refine ev_succ ?_
    simp only [impl_partsOf.l2, show ¬ (i : Int) < (b.length : Int) by omega, if_false]
    rw [List.drop_eq_nil_of_le (by omega)]
    simp only [up, List.append_nil]
    exact Ev.now _
  | succ d ih =>
    intro i acc hi ha
    refine ev_succ ?_
    have hlt : i < b.length := by omega
    have e1 : wrap64 ((i : Int) + 1) = ((i + 1 : Nat) : Int) := by rw [w64' (by omega) (by omega)]; omega
    simp only [impl_partsOf.l2, show (i : Int) < (b.length : Int) by omega, show 0 ≤ (i : Int) by omega, if_true, e1, rdOf_nat]
    rw [drop_getD b i hlt, up]
    by_cases hx : b.getD i false = true
    · simp only [hx, if_true, show acc.length < 17592186044416 by omega]
      have := ih (i + 1) (acc ++ [(i : Int)]) (by omega) (by simp; omega)
      rw [List.append_assoc] at this
      exact this
    · simp only [hx, if_false]
      exact ih (i + 1) acc (by omega) (by omega)
theorem sets_cons (b : List Bool) (x : Int) (t : List Int) : sets b (x :: t) = sets (b.set x.toNat true) t := rfl
theorem rd_getI (l : List Int) (j : Nat) (h : j < l.length) : l.drop j = rd l (j : Int) :: l.drop (j + 1) := by
  rw [List.drop_eq_getElem_cons h, rd_nat]; simp [List.getD, List.getElem?_eq_getElem h]
theorem pi_l1 (L : List S37) (acc : List Int) (i : Int) (ks : List Int) (hk : ks.length ≤ 2) (r : List Int) (d : Nat) : ∀ (j : Nat) (b : List Bool), j + d = ks.length → (∀ y ∈ ks, 0 ≤ y ∧ y < (b.length : Int)) →
    Ev (fun k => impl_partsOf.l0 k L (sets b (ks.drop j)) acc (wrap64 (i - 1))) r → Ev (fun k => impl_partsOf.l1 k L b acc i ks (ks.length : Int) j) r := by
  induction d with
  | zero =>
    intro j b hj hb h
    refine ev_succ ?_
    simp only [impl_partsOf.l1, show ¬ (j : Int) < (ks.length : Int) by omega, if_false]
    rw [List.drop_eq_nil_of_le (by omega)] at h
    exact h
  | succ d ih =>
    intro j b hj hb h
    refine ev_succ ?_
    have hlt : j < ks.length := by omega
    have hm : rd ks (j : Int) ∈ ks := by rw [rd_nat]; simp only [List.getD, List.getElem?_eq_getElem hlt, Option.getD_some]; exact List.getElem_mem hlt
    have hy := hb _ hm
    have e1 : wrap64 ((j : Int) + 1) = ((j + 1 : Nat) : Int) := by rw [w64' (by omega) (by omega)]; omega
    simp only [impl_partsOf.l1, show (j : Int) < (ks.length : Int) by omega, show 0 ≤ (j : Int) by omega, if_true, hy.1, hy.2, e1]
    rw [rd_getI ks j hlt, sets_cons] at h
    exact ih (j + 1) _ (by omega) (fun y hy => by rw [List.length_set]; exact hb y hy) h
theorem kid_len (x : S37) : (kid x).length ≤ 2 := by
  unfold kid; split
  · simp
  · split <;> simp
theorem pi_l0 {L : List S37} (h : TF L = 0) : ∀ (n : Nat) (b : List Bool), n ≤ b.length → n ≤ L.length → b.length ≤ 1000 → Ev (fun k => impl_partsOf.l0 k L b [] ((n : Int) - 1)) (up (dn L n b) 0)
  | 0, b => by
    intro h1 h2 h3
    refine ev_succ ?_
    simp only [impl_partsOf.l0, show ¬ ((0 : Nat) : Int) - 1 ≥ 0 by omega, if_false, dn]
    have := pi_l2 b h3 b.length 0 [] (by omega) (by simp; omega)
    simpa using this
  | n + 1, b => by
    intro h1 h2 h3
    refine ev_succ ?_
    have hw : wrap64 ((n : Int) - 1) = (n : Int) - 1 := w64' (by omega) (by omega)
    have e0 : (((n + 1 : Nat) : Int) - 1) = (n : Int) := by omega
    simp only [impl_partsOf.l0, e0, show (n : Int) ≥ 0 by omega, show 0 ≤ (n : Int) by omega, show (n : Int) < (b.length : Int) by omega, show (n : Int) < (L.length : Int) by omega, if_true, rdOf_nat, dn]
    by_cases hx : b.getD n false = true
    · simp only [hx, if_true]
      refine Ev.bind (tparts_ev (rd_T37 L (n : Int))) ?_
      have hk := kid_ok h n (by omega)
      refine pi_l1 L [] (n : Int) (kid (rd_T37 L (n : Int))) (kid_len _) _ (kid (rd_T37 L (n : Int))).length 0 b (by omega) (fun y hy => by have := hk y hy; omega) ?_
      rw [List.drop_zero, hw]
      exact pi_l0 h n _ (by rw [sets_length]; omega) (by omega) (by rw [sets_length]; omega)
    · simp only [hx, if_false, hw]
      exact pi_l0 h n b (by omega) (by omega) h3
theorem parts_impl {L : List S37} (h : TF L = 0) (n : Nat) (hn : n < L.length) : Ev (fun k => impl_partsOf.f k L (n : Int)) (PLs L n) := by
  have hl := TF_len h
  have e1 : wrap64 ((n : Int) + 1) = ((n + 1 : Nat) : Int) := by rw [w64' (by omega) (by omega)]; omega
  unfold impl_partsOf.f PLs
  simp only [e1, show (0 : Int) ≤ ((n + 1 : Nat) : Int) by omega, if_true, Int.toNat_natCast, show n + 1 ≤ 281474976710656 by omega, Option.bind_some, show 0 ≤ (n : Int) by omega, List.length_replicate, show (n : Int) < ((n + 1 : Nat) : Int) by omega]
  have := pi_l0 h (n + 1) ((List.replicate (n + 1) false).set n true) (by simp) (by omega) (by simp; omega)
  rw [show (((n + 1 : Nat) : Int) - 1) = (n : Int) by omega] at this
  exact this
theorem ps_l1 (b : List Bool) (hb : b.length ≤ 1000) (n : Nat) (hn : b.length = n + 1) (d : Nat) : ∀ (i : Nat) (acc : List Int), i + d = b.length → acc.length + d ≤ 2000 → Ev (fun k => spec_l5Parts.l1 k (n : Int) b acc i) (acc ++ up (b.drop i) i) := by
  induction d with
  | zero =>
    intro i acc hi ha
    refine ev_succ ?_
    simp only [spec_l5Parts.l1, show ¬ (i : Int) ≤ (n : Int) by omega, if_false]
    rw [List.drop_eq_nil_of_le (by omega)]
    simp only [up, List.append_nil]
    exact Ev.now _
  | succ d ih =>
    intro i acc hi ha
    refine ev_succ ?_
    have hlt : i < b.length := by omega
    have e1 : wrap64 ((i : Int) + 1) = ((i + 1 : Nat) : Int) := by rw [w64' (by omega) (by omega)]; omega
    simp only [spec_l5Parts.l1, show (i : Int) ≤ (n : Int) by omega, show (i : Int) < (b.length : Int) by omega, show 0 ≤ (i : Int) by omega, if_true, e1, rdOf_nat]
    rw [drop_getD b i hlt, up]
    by_cases hx : b.getD i false = true
    · simp only [hx, if_true, show acc.length < 17592186044416 by omega]
      have := ih (i + 1) (acc ++ [(i : Int)]) (by omega) (by simp; omega)
      rw [List.append_assoc] at this
      exact this
    · simp only [hx, if_false]
      exact ih (i + 1) acc (by omega) (by omega)
theorem ps_l0 {L : List S37} (h : TF L = 0) (m : Nat) : ∀ (n : Nat) (b : List Bool), n ≤ b.length → n ≤ L.length → b.length ≤ 1000 → b.length = m + 1 → Ev (fun k => spec_l5Parts.l0 k L (m : Int) b ((n : Int) - 1)) (up (dn L n b) 0)
  | 0, b => by
    intro h1 h2 h3 h4
    refine ev_succ ?_
    simp only [spec_l5Parts.l0, show ¬ ((0 : Nat) : Int) - 1 ≥ 0 by omega, if_false, dn]
    have := ps_l1 b h3 m h4 b.length 0 [] (by omega) (by simp; omega)
    simpa using this
  | n + 1, b => by
    intro h1 h2 h3 h4
    refine ev_succ ?_
    have hw : wrap64 ((n : Int) - 1) = (n : Int) - 1 := w64' (by omega) (by omega)
    have e0 : (((n + 1 : Nat) : Int) - 1) = (n : Int) := by omega
    simp only [spec_l5Parts.l0, e0, show (n : Int) ≥ 0 by omega, show 0 ≤ (n : Int) by omega, show (n : Int) < (b.length : Int) by omega, show (n : Int) < (L.length : Int) by omega, if_true, rdOf_nat, dn]
    by_cases hx : b.getD n false = true
    · simp only [hx, if_true, hw]
      have hk := node_ok h n (by omega)
      have hl : ∀ ys, (sets b ys).length = b.length := fun ys => sets_length ys b
      have hrec := fun ys => ps_l0 h m n (sets b ys) (by rw [hl]; omega) (by omega) (by rw [hl]; omega) (by rw [hl]; exact h4)
      refine Ev.bind (kids_ev (rd_T37 L (n : Int)).f0) ?_
      rcases hk with hk | hk | hk
      · have e : kid (rd_T37 L (n : Int)) = [] := by unfold kid; rw [if_pos hk.1]
        rw [e]
        have r := hrec []
        have ek : (if (rd_T37 L (n : Int)).f0 = 3 ∨ (rd_T37 L (n : Int)).f0 = 4 ∨ (rd_T37 L (n : Int)).f0 = 5 ∨ (rd_T37 L (n : Int)).f0 = 7 then (2 : Int) else if (rd_T37 L (n : Int)).f0 = 6 then 1 else 0) = 0 := by rw [if_neg (by omega), if_neg (by omega)]
        simp only [ek, show ¬ (0 : Int) > 0 by omega, if_false]
        have hk2 := kids_ev (rd_T37 L (n : Int)).f0
        rw [ek] at hk2
        refine Ev.bind hk2 ?_
        simp only [show ¬ (0 : Int) > 1 by omega, if_false]
        exact r
      · have e : kid (rd_T37 L (n : Int)) = [(rd_T37 L (n : Int)).f1] := by unfold kid; rw [if_neg (by omega), if_pos hk.1]
        rw [e]
        have r := hrec [(rd_T37 L (n : Int)).f1]
        have ek : (if (rd_T37 L (n : Int)).f0 = 3 ∨ (rd_T37 L (n : Int)).f0 = 4 ∨ (rd_T37 L (n : Int)).f0 = 5 ∨ (rd_T37 L (n : Int)).f0 = 7 then (2 : Int) else if (rd_T37 L (n : Int)).f0 = 6 then 1 else 0) = 1 := by rw [if_neg (by omega), if_pos hk.1]
        have hk2 := kids_ev (rd_T37 L (n : Int)).f0
        rw [ek] at hk2
        have hf := hk.2.2.2.1
        simp only [ek, show (1 : Int) > 0 by omega, if_true, hf.1, show (rd_T37 L (n : Int)).f1 < (b.length : Int) by omega, Option.bind_some]
        refine Ev.bind hk2 ?_
        simp only [show ¬ (1 : Int) > 1 by omega, if_false]
        exact r
      · have e : kid (rd_T37 L (n : Int)) = [(rd_T37 L (n : Int)).f1, (rd_T37 L (n : Int)).f2] := by unfold kid; rw [if_neg (by omega), if_neg (by omega)]
        rw [e]
        have r := hrec [(rd_T37 L (n : Int)).f1, (rd_T37 L (n : Int)).f2]
        have ek : (if (rd_T37 L (n : Int)).f0 = 3 ∨ (rd_T37 L (n : Int)).f0 = 4 ∨ (rd_T37 L (n : Int)).f0 = 5 ∨ (rd_T37 L (n : Int)).f0 = 7 then (2 : Int) else if (rd_T37 L (n : Int)).f0 = 6 then 1 else 0) = 2 := by rw [if_pos hk.1]
        have hk2 := kids_ev (rd_T37 L (n : Int)).f0
        rw [ek] at hk2
        have hf := hk.2.2.1
        have hf2 := hk.2.2.2.1
        simp only [ek, show (2 : Int) > 0 by omega, if_true, hf.1, show (rd_T37 L (n : Int)).f1 < (b.length : Int) by omega, Option.bind_some]
        refine Ev.bind hk2 ?_
        simp only [show (2 : Int) > 1 by omega, if_true, hf2.1, show (rd_T37 L (n : Int)).f2 < (b.length : Int) by omega]
        exact r
    · simp only [hx, if_false, hw]
      exact ps_l0 h m n b (by omega) (by omega) h3 h4
theorem parts_spec {L : List S37} (h : TF L = 0) (n : Nat) (hn : n < L.length) : Ev (fun k => spec_l5Parts.f k L (n : Int)) (PLs L n) := by
  have hl := TF_len h
  have e1 : wrap64 ((n : Int) + 1) = ((n + 1 : Nat) : Int) := by rw [w64' (by omega) (by omega)]; omega
  unfold spec_l5Parts.f PLs
  simp only [e1, show (0 : Int) ≤ ((n + 1 : Nat) : Int) by omega, if_true, Int.toNat_natCast, show n + 1 ≤ 281474976710656 by omega, Option.bind_some, show 0 ≤ (n : Int) by omega, List.length_replicate, show (n : Int) < ((n + 1 : Nat) : Int) by omega]
  have := ps_l0 h n (n + 1) ((List.replicate (n + 1) false).set n true) (by simp) (by omega) (by simp; omega) (by simp)
  rw [show (((n + 1 : Nat) : Int) - 1) = (n : Int) by omega] at this
  exact this
theorem getD_set (b : List Bool) (i j : Nat) : (b.set i true).getD j false = (b.getD j false || (decide (i = j) && decide (j < b.length))) := by
  by_cases h : j < b.length
  · by_cases e : i = j
    · subst e; simp [List.getD, h]
    · simp [List.getD, List.getElem?_set, e, h]
  · have h1 : b.length ≤ j := by omega
    simp [List.getD, List.getElem?_eq_none h1, h]
theorem sets_getD (j : Nat) : ∀ (ks : List Int) (b : List Bool), j < b.length → (sets b ks).getD j false = (b.getD j false || ks.any (fun y => decide (y.toNat = j)))
  | [], b, _ => by simp [sets]
  | x :: t, b, h => by
    rw [sets_cons, sets_getD j t _ (by simpa using h), getD_set]
    simp [h, Bool.or_assoc]
theorem dn_mono (L : List S37) (j : Nat) : ∀ (n : Nat) (b : List Bool), j < b.length → b.getD j false = true → (dn L n b).getD j false = true
  | 0, _, _, h => h
  | n + 1, b, hj, h => by
    rw [dn]
    split
    · refine dn_mono L j n _ (by rw [sets_length]; exact hj) ?_
      rw [sets_getD j _ b hj, h, Bool.true_or]
    · exact dn_mono L j n b hj h
theorem dn_high {L : List S37} (hL : TF L = 0) (j : Nat) : ∀ (n : Nat) (b : List Bool), n ≤ j + 1 → n ≤ L.length → j < b.length → (dn L n b).getD j false = b.getD j false
  | 0, _, _, _, _ => rfl
  | n + 1, b, h1, h2, hj => by
    rw [dn]
    split
    · rw [dn_high hL j n _ (by omega) (by omega) (by rw [sets_length]; exact hj), sets_getD j _ b hj]
      have : (kid (rd_T37 L (n : Int))).any (fun y => decide (y.toNat = j)) = false := by
        rw [List.any_eq_false]
        intro y hy
        have := kid_ok hL n (by omega) y hy
        simp; omega
      rw [this, Bool.or_false]
    · exact dn_high hL j n b (by omega) (by omega) hj
theorem dn_closed {L : List S37} (hL : TF L = 0) : ∀ (n : Nat) (b : List Bool), n ≤ L.length → n ≤ b.length → ∀ j, j < n → (dn L n b).getD j false = true → ∀ y ∈ kid (rd_T37 L (j : Int)), (dn L n b).getD y.toNat false = true
  | 0, _, _, _, j, hj, _, _, _ => absurd hj (Nat.not_lt_zero _)
  | n + 1, b, h1, h2, j, hj, h, y, hy => by
    have hk := kid_ok hL j (by omega) y hy
    by_cases e : j = n
    · subst e
      rw [dn_high hL j (j + 1) b (by omega) (by omega) (by omega)] at h
      rw [dn, if_pos h]
      refine dn_mono L _ j _ (by rw [sets_length]; omega) ?_
      rw [sets_getD _ _ b (by omega)]
      have : (kid (rd_T37 L (j : Int))).any (fun z => decide (z.toNat = y.toNat)) = true := List.any_eq_true.2 ⟨y, hy, by simp⟩
      rw [this, Bool.or_true]
    · rw [dn] at h ⊢
      split at h
      · rename_i hb
        rw [if_pos hb]
        exact dn_closed hL n _ (by omega) (by rw [sets_length]; omega) j (by omega) h y hy
      · rename_i hb
        rw [if_neg hb]
        exact dn_closed hL n b (by omega) (by omega) j (by omega) h y hy
theorem PLs_ok {L : List S37} (hL : TF L = 0) (n : Nat) (hn : n < L.length) :
    (∀ y ∈ PLs L n, 0 ≤ y ∧ y ≤ (n : Int)) ∧ (PLs L n).Pairwise (· < ·) ∧ (PLs L n).length ≤ n + 1 ∧ (∀ y ∈ PLs L n, ∀ z ∈ kid (rd_T37 L y), z ∈ PLs L n ∧ z < y) ∧ (n : Int) ∈ PLs L n := by
  have hlen : (dn L (n + 1) ((List.replicate (n + 1) false).set n true)).length = n + 1 := by rw [dn_length]; simp
  have hb : ∀ j, (dn L (n + 1) ((List.replicate (n + 1) false).set n true)).getD j false = true → j < n + 1 := fun j h => by
    by_cases hj : j < n + 1
    · exact hj
    · rw [List.getD, List.getElem?_eq_none (by omega)] at h; simp at h
  refine ⟨fun y hy => ?_, (up_rise _ 0).1, by have := up_len (dn L (n + 1) ((List.replicate (n + 1) false).set n true)) 0; unfold PLs; omega, fun y hy z hz => ?_, ?_⟩
  · obtain ⟨j, e, hj⟩ := (up_mem _ _ _).1 hy
    have := hb j hj
    rw [e]; omega
  · obtain ⟨j, e, hj⟩ := (up_mem _ _ _).1 hy
    have hj1 := hb j hj
    rw [Nat.zero_add] at e
    subst e
    have hk := kid_ok hL j (by omega) z hz
    have := dn_closed hL (n + 1) _ (by omega) (by simp) j hj1 hj z hz
    exact ⟨(up_mem _ _ _).2 ⟨z.toNat, by omega, this⟩, hk.2⟩
  · refine (up_mem _ _ _).2 ⟨n, by simp, ?_⟩
    refine dn_mono L n _ _ (by simp) ?_
    rw [getD_set]; simp
theorem tix_eq (l : List S37) (x : S37) : tix l x 0 = tidx l x 0 := rfl
theorem PT_put {l : List S37} {t : S37} (h : tfault t.f0 t.f1 t.f2 t.f3 l = 0) : PT l t = if (putT l false t).2.2 = true then (2, 0, []) else (0, (putT l false t).1, (putT l false t).2.1) := by
  unfold PT putT putP
  rw [if_pos h, tix_eq]
  by_cases h1 : 0 ≤ tidx l t 0
  · simp [h1]
  · by_cases h2 : 400 ≤ l.length
    · simp [h1, h2]
    · simp [h1, h2]
theorem putT_prop {l : List S37} {t : S37} (hl : l.length ≤ 400) (h : (putT l false t).2.2 = false) :
    0 ≤ (putT l false t).1 ∧ (putT l false t).1 < ((putT l false t).2.1.length : Int) ∧ (∃ q, (putT l false t).2.1 = l ++ q) ∧ rd_T37 (putT l false t).2.1 (putT l false t).1 = t := by
  unfold putT putP at h ⊢
  by_cases h1 : 0 ≤ tix l t 0
  · simp only [h1, if_true] at h ⊢
    unfold tix at h1 ⊢
    rw [List.drop_zero] at h1 ⊢
    cases hf : l.findIdx? fun y => eq4 t y with
    | none => rw [hf] at h1; simp at h1
    | some j =>
      have hx := List.findIdx?_eq_some_iff_getElem.1 hf
      obtain ⟨hj, he, _⟩ := hx
      refine ⟨by simp, by simpa using hj, ⟨[], by simp⟩, ?_⟩
      have : t = l[j] := eq4_iff.1 he
      rw [this]
      simp [rd_T37, List.getD, List.getElem?_eq_getElem hj]
  · by_cases h2 : 400 ≤ l.length
    · simp [h1, h2] at h
    · simp only [h1, h2, if_false, Bool.false_eq_true] at h ⊢
      refine ⟨by omega, by simp; omega, ⟨[t], rfl⟩, ?_⟩
      simp [rd_T37, List.getD]
theorem rd_app {l q : List S37} {a : Int} (h0 : 0 ≤ a) (h1 : a < (l.length : Int)) : rd_T37 (l ++ q) a = rd_T37 l a := by
  have : a.toNat < l.length := by omega
  simp [rd_T37, List.getD, List.getElem?_append_left this]
def Mi (L l : List S37) (mp : Int → Int) (P : List Int) : Prop := l.length ≤ 400 ∧ ∀ p ∈ P, 0 ≤ mp p ∧ mp p < (l.length : Int) ∧ (rd_T37 l (mp p)).f0 = (rd_T37 L p).f0
def mvQ (t : S37) : S37 := if t.f0 = 7 then both4 t.f1 t.f2 else t
theorem mv_fault {L l : List S37} (hL : TF L = 0) {mp : Int → Int} {P : List Int} (h : Mi L l mp P) (i : Nat) (hi : i < L.length) (hk : ∀ y ∈ kid (rd_T37 L (i : Int)), y ∈ P) :
    tfault (mvQ (mvT L mp (i : Int))).f0 (mvQ (mvT L mp (i : Int))).f1 (mvQ (mvT L mp (i : Int))).f2 (mvQ (mvT L mp (i : Int))).f3 l = 0 := by
  have hn := node_ok hL i hi
  have nf : ∀ p ∈ P, notIn l (mp p) = false := fun p hp => (notIn_iff _ _).2 ⟨(h.2 p hp).1, (h.2 p hp).2.1⟩
  rcases hn with hn | hn | hn
  · have e7 : ¬ (mvT L mp (i : Int)).f0 = 7 := by show ¬ (rd_T37 L (i : Int)).f0 = 7; omega
    have eA : hasA (rd_T37 L (i : Int)).f0 = false := by unfold hasA; rcases hn.1 with e | e <;> rw [e] <;> rfl
    have eB : hasB (rd_T37 L (i : Int)).f0 = false := by unfold hasB; rw [eA]; rfl
    unfold mvQ
    rw [if_neg e7]
    unfold mvT
    rw [eA, eB]
    simp only [Bool.false_eq_true, if_false]
    unfold tfault
    rw [if_pos (by omega), if_pos hn.1, if_pos ⟨hn.2.1, hn.2.2.1⟩, if_pos hn.2.2.2]
  · have e7 : ¬ (mvT L mp (i : Int)).f0 = 7 := by show ¬ (rd_T37 L (i : Int)).f0 = 7; omega
    have eA : hasA (rd_T37 L (i : Int)).f0 = true := by unfold hasA; rw [hn.1]; rfl
    have eB : hasB (rd_T37 L (i : Int)).f0 = false := by unfold hasB hasA; rw [hn.1]; rfl
    have ek : kid (rd_T37 L (i : Int)) = [(rd_T37 L (i : Int)).f1] := by unfold kid; rw [if_neg (by omega), if_pos hn.1]
    have hp := hk (rd_T37 L (i : Int)).f1 (by rw [ek]; simp)
    unfold mvQ
    rw [if_neg e7]
    unfold mvT
    rw [eA, eB]
    simp only [Bool.false_eq_true, if_false, if_true]
    unfold tfault
    rw [if_pos (by omega), if_neg (by omega), if_pos hn.1, if_pos ⟨hn.2.1, hn.2.2.1⟩]
    have f1 : notFresh l (mp (rd_T37 L (i : Int)).f1) = false := by unfold notFresh; rw [(h.2 _ hp).2.2, hn.2.2.2.2]; rfl
    simp [nf _ hp, f1]
  · have eA : hasA (rd_T37 L (i : Int)).f0 = true := by unfold hasA; rcases hn.1 with e | e | e | e <;> rw [e] <;> rfl
    have eB : hasB (rd_T37 L (i : Int)).f0 = true := by unfold hasB hasA; rcases hn.1 with e | e | e | e <;> rw [e] <;> rfl
    have ek : kid (rd_T37 L (i : Int)) = [(rd_T37 L (i : Int)).f1, (rd_T37 L (i : Int)).f2] := by unfold kid; rw [if_neg (by omega), if_neg (by omega)]
    have hp1 := hk (rd_T37 L (i : Int)).f1 (by rw [ek]; simp)
    have hp2 := hk (rd_T37 L (i : Int)).f2 (by rw [ek]; simp)
    by_cases h7 : (rd_T37 L (i : Int)).f0 = 7
    · have e7 : (mvT L mp (i : Int)).f0 = 7 := h7
      unfold mvQ
      rw [if_pos e7]
      unfold mvT both4
      rw [eA, eB]
      simp only [if_true]
      have hf := hn.2.2.2.2 h7
      have f1 : notFresh l (mp (rd_T37 L (i : Int)).f1) = false := by unfold notFresh; rw [(h.2 _ hp1).2.2, hf.1]; rfl
      have f2 : notFresh l (mp (rd_T37 L (i : Int)).f2) = false := by unfold notFresh; rw [(h.2 _ hp2).2.2, hf.2.1]; rfl
      have n1 := nf _ hp1
      have n2 := nf _ hp2
      generalize mp (rd_T37 L (i : Int)).f1 = a at *
      generalize mp (rd_T37 L (i : Int)).f2 = b at *
      unfold tfault
      rw [if_pos (by omega), if_neg (by omega), if_neg (by omega), if_pos rfl]
      by_cases c1 : b < a
      · have c2 : ¬ a < b := by omega
        simp [c1, c2, n1, n2, f1, f2]
      · by_cases c2 : a < b
        · simp [c1, c2, n1, n2, f1, f2]
        · simp [c1, c2, n1, n2, f1, f2]
    · have e7 : ¬ (mvT L mp (i : Int)).f0 = 7 := h7
      unfold mvQ
      rw [if_neg e7]
      unfold mvT
      rw [eA, eB]
      simp only [if_true]
      unfold tfault
      rw [if_pos (by omega), if_neg (by omega), if_neg (by omega), if_pos hn.2.1]
      simp [nf _ hp1, nf _ hp2, h7]
theorem both5_ev (l : List S37) (hl : l.length ≤ 400) (a b : Int) : Ev (fun k => spec_l5Both.f k l a b) (PT l (both4 a b)) := by
  have e : both4 a b = ⟨7, if a < b then a else b, if a > b then a else b, 0⟩ := by
    unfold both4
    congr 1
    · by_cases h1 : b < a
      · rw [if_pos h1, if_neg (by omega)]
      · by_cases h2 : a < b
        · rw [if_neg h1, if_pos h2]
        · rw [if_neg h1, if_neg h2]; omega
    · by_cases h1 : a < b
      · rw [if_pos h1, if_neg (by omega)]
      · by_cases h2 : a > b
        · rw [if_neg h1, if_pos h2]
        · rw [if_neg h1, if_neg h2]; omega
  have m1 : spec_l1Min.f a b = some (if a < b then a else b) := by unfold spec_l1Min.f; split <;> rfl
  have m2 : spec_l1Max.f a b = some (if a > b then a else b) := by unfold spec_l1Max.f; split <;> rfl
  rw [e]
  unfold spec_l5Both.f
  simp only [m1, m2, Option.bind_some]
  refine Ev.bind (put_spec l hl ⟨7, if a < b then a else b, if a > b then a else b, 0⟩) ?_
  exact Ev.now _
theorem to_j2 {L : List S37} (hL : TF L = 0) (n j i : Nat) (hj : j < L.length) (hjn : j ≤ n) (ks place : List Int) (l : List S37) (mp : Int → Int) (hi : i < ks.length) (hr : rd ks (i : Int) = (j : Int)) (hp : place.length = n + 1) (hm : ∀ y : Int, 0 ≤ y → y ≤ (n : Int) → rd place y = mp y) (r : Int × Int × List S37)
    (h : Ev (fun k => spec_l5Move.j2 k L (n : Int) ks place l (i : Int) (rd_T37 L (j : Int)).f0 (rd_T37 L (j : Int)).f1 (rd_T37 L (j : Int)).f2 (rd_T37 L (j : Int)).f3 (mvT L mp (j : Int)).f0 (mvT L mp (j : Int)).f1 (mvT L mp (j : Int)).f2 (mvT L mp (j : Int)).f3) r) :
    Ev (fun k => spec_l5Move.l0 k L (n : Int) ks place l (i : Int)) r := by
  have hn := node_ok hL j hj
  refine ev_succ ?_
  simp only [spec_l5Move.l0, show (i : Int) < (ks.length : Int) by omega, show 0 ≤ (i : Int) by omega, if_true, hr, show 0 ≤ (j : Int) by omega, show (j : Int) < (L.length : Int) by omega]
  refine Ev.bind (kids_ev _) ?_
  rcases hn with hn | hn | hn
  · have eA : hasA (rd_T37 L (j : Int)).f0 = false := by unfold hasA; rcases hn.1 with e | e <;> rw [e] <;> rfl
    have eB : hasB (rd_T37 L (j : Int)).f0 = false := by unfold hasB; rw [eA]; rfl
    unfold mvT at h
    rw [eA, eB] at h
    simp only [Bool.false_eq_true, if_false, hn.2.1, hn.2.2.1] at h
    have ek : (if (rd_T37 L (j : Int)).f0 = 3 ∨ (rd_T37 L (j : Int)).f0 = 4 ∨ (rd_T37 L (j : Int)).f0 = 5 ∨ (rd_T37 L (j : Int)).f0 = 7 then (2 : Int) else if (rd_T37 L (j : Int)).f0 = 6 then 1 else 0) = 0 := by rw [if_neg (by omega), if_neg (by omega)]
    have hk2 := kids_ev (rd_T37 L (j : Int)).f0
    rw [ek] at hk2
    simp only [ek, show ¬ (0 : Int) > 0 by omega, if_false, hn.2.1, hn.2.2.1]
    refine ev_succ ?_
    simp only [spec_l5Move.j1]
    refine Ev.bind hk2 ?_
    simp only [show ¬ (0 : Int) > 1 by omega, if_false]
    exact h
  · have eA : hasA (rd_T37 L (j : Int)).f0 = true := by unfold hasA; rw [hn.1]; rfl
    have eB : hasB (rd_T37 L (j : Int)).f0 = false := by unfold hasB hasA; rw [hn.1]; rfl
    unfold mvT at h
    rw [eA, eB] at h
    simp only [Bool.false_eq_true, if_false, if_true, hn.2.1] at h
    have ek : (if (rd_T37 L (j : Int)).f0 = 3 ∨ (rd_T37 L (j : Int)).f0 = 4 ∨ (rd_T37 L (j : Int)).f0 = 5 ∨ (rd_T37 L (j : Int)).f0 = 7 then (2 : Int) else if (rd_T37 L (j : Int)).f0 = 6 then 1 else 0) = 1 := by rw [if_neg (by omega), if_pos hn.1]
    have hk2 := kids_ev (rd_T37 L (j : Int)).f0
    rw [ek] at hk2
    have hf := hn.2.2.2.1
    rw [← hm _ hf.1 (by omega)] at h
    simp only [ek, show (1 : Int) > 0 by omega, if_true, hf.1, show (rd_T37 L (j : Int)).f1 < (place.length : Int) by omega, hn.2.1]
    refine ev_succ ?_
    simp only [spec_l5Move.j1]
    refine Ev.bind hk2 ?_
    simp only [show ¬ (1 : Int) > 1 by omega, if_false]
    exact h
  · have eA : hasA (rd_T37 L (j : Int)).f0 = true := by unfold hasA; rcases hn.1 with e | e | e | e <;> rw [e] <;> rfl
    have eB : hasB (rd_T37 L (j : Int)).f0 = true := by unfold hasB hasA; rcases hn.1 with e | e | e | e <;> rw [e] <;> rfl
    unfold mvT at h
    rw [eA, eB] at h
    simp only [if_true] at h
    have ek : (if (rd_T37 L (j : Int)).f0 = 3 ∨ (rd_T37 L (j : Int)).f0 = 4 ∨ (rd_T37 L (j : Int)).f0 = 5 ∨ (rd_T37 L (j : Int)).f0 = 7 then (2 : Int) else if (rd_T37 L (j : Int)).f0 = 6 then 1 else 0) = 2 := by rw [if_pos hn.1]
    have hk2 := kids_ev (rd_T37 L (j : Int)).f0
    rw [ek] at hk2
    have hf := hn.2.2.1
    have hf2 := hn.2.2.2.1
    rw [← hm _ hf.1 (by omega), ← hm _ hf2.1 (by omega)] at h
    simp only [ek, show (2 : Int) > 0 by omega, if_true, hf.1, show (rd_T37 L (j : Int)).f1 < (place.length : Int) by omega]
    refine ev_succ ?_
    simp only [spec_l5Move.j1]
    refine Ev.bind hk2 ?_
    simp only [show (2 : Int) > 1 by omega, if_true, hf2.1, show (rd_T37 L (j : Int)).f2 < (place.length : Int) by omega]
    exact h
theorem rd_setI {l : List Int} {j : Nat} {v y : Int} (h0 : 0 ≤ y) (hj : j < l.length) : rd (l.set j v) y = if y = (j : Int) then v else rd l y := by
  obtain ⟨m, rfl⟩ := Int.eq_ofNat_of_zero_le h0
  by_cases e : m = j
  · subst e; rw [if_pos rfl]; simp [rd, List.getD, hj]
  · rw [if_neg (by omega)]; simp [rd, List.getD, List.getElem?_set, show ¬ j = m by omega]
theorem Mi_put {L l : List S37} {mp : Int → Int} {P : List Int} {y : Int} {t : S37} (h : Mi L l mp P) (hf : (putT l false t).2.2 = false) (ht : t.f0 = (rd_T37 L y).f0) : Mi L (putT l false t).2.1 (mput mp y (putT l false t).1) (P ++ [y]) := by
  obtain ⟨h1, h2, ⟨q, hq⟩, h4⟩ := putT_prop h.1 hf
  refine ⟨putT_len h.1, fun p hp => ?_⟩
  unfold mput
  by_cases e : p = y
  · subst e
    rw [if_pos rfl]
    exact ⟨h1, h2, by rw [h4, ht]⟩
  · rw [if_neg e]
    rcases List.mem_append.1 hp with hp | hp
    · obtain ⟨g1, g2, g3⟩ := h.2 p hp
      rw [hq]
      exact ⟨g1, by simp; omega, by rw [rd_app g1 g2]; exact g3⟩
    · exact absurd (List.mem_singleton.1 hp) e
theorem mvQ_f0 (t : S37) : (mvQ t).f0 = t.f0 := by
  unfold mvQ
  split
  · rename_i h; rw [h]; rfl
  · rfl
theorem move_spec {L : List S37} (hL : TF L = 0) (n : Nat) (hn : n < L.length) (d : Nat) : ∀ (i : Nat) (l : List S37) (mp : Int → Int) (place : List Int), i + d = (PLs L n).length → place.length = n + 1 → (∀ y : Int, 0 ≤ y → y ≤ (n : Int) → rd place y = mp y) → Mi L l mp ((PLs L n).take i) →
    Ev (fun k => spec_l5Move.l0 k L (n : Int) (PLs L n) place l (i : Int)) (mvR (n : Int) (MV L ((PLs L n).drop i) l mp)) := by
  obtain ⟨k1, k2, k3, k4, k5⟩ := PLs_ok hL n hn
  have h400 := TF_len hL
  generalize PLs L n = ks at *
  induction d with
  | zero =>
    intro i l mp place hi hp hm hI
    refine ev_succ ?_
    simp only [spec_l5Move.l0, show ¬ (i : Int) < (ks.length : Int) by omega, if_false, show 0 ≤ (n : Int) by omega, if_true, show (n : Int) < (place.length : Int) by omega]
    rw [List.drop_eq_nil_of_le (by omega), hm (n : Int) (by omega) (by omega)]
    exact Ev.now _
  | succ d ih =>
    intro i l mp place hi hp hm hI
    have hlt : i < ks.length := by omega
    have hmem : rd ks (i : Int) ∈ ks := by rw [rd_nat]; simp only [List.getD, List.getElem?_eq_getElem hlt, Option.getD_some]; exact List.getElem_mem hlt
    have hb := k1 _ hmem
    obtain ⟨j, hj⟩ := Int.eq_ofNat_of_zero_le hb.1
    have htk : ks.take (i + 1) = ks.take i ++ [rd ks (i : Int)] := by
      rw [List.take_succ_eq_append_getElem hlt, rd_nat]; simp [List.getD, List.getElem?_eq_getElem hlt]
    have hkid : ∀ z ∈ kid (rd_T37 L (j : Int)), z ∈ ks.take i := by
      intro z hz
      obtain ⟨z1, z2⟩ := k4 _ hmem z (by rw [hj]; exact hz)
      obtain ⟨m, hmlt, rfl⟩ := List.getElem_of_mem z1
      have hmi : m < i := by
        by_cases c : m < i
        · exact c
        · exfalso
          have e : rd ks (i : Int) = ks[i] := by rw [rd_nat]; simp [List.getD, List.getElem?_eq_getElem hlt]
          rw [e] at z2
          by_cases c2 : m = i
          · subst c2; omega
          · have := List.pairwise_iff_getElem.1 k2 i m hlt hmlt (by omega)
            omega
      exact List.mem_take_iff_getElem.2 ⟨m, by omega, rfl⟩
    have c0 : 0 ≤ (i : Int) := by omega
    have c1 : (i : Int) < (ks.length : Int) := by omega
    have c2 : 0 ≤ (j : Int) := by omega
    have c3 : (j : Int) < (place.length : Int) := by omega
    have c4 : j < L.length := by omega
    have c5 : j ≤ n := by omega
    have c6 : i + 1 + d = ks.length := by omega
    have c7 : j < place.length := by omega
    have hw : wrap64 ((i : Int) + 1) = ((i + 1 : Nat) : Int) := by rw [w64' (by omega) (by omega)]; omega
    have hfault := mv_fault hL hI j c4 hkid
    have hPT := PT_put hfault
    have hput := put_spec l hI.1 (mvT L mp (j : Int))
    refine to_j2 hL n j i c4 c5 ks place l mp hlt hj hp hm _ ?_
    rw [rd_getI ks i hlt, hj]
    simp only [MV]
    have eP : mvP L l (mvT L mp (j : Int)) = putT l false (mvQ (mvT L mp (j : Int))) := rfl
    rw [eP]
    -- behind the put
    have fin : (putT l false (mvQ (mvT L mp (j : Int)))).2.2 = false → Ev (fun k => spec_l5Move.l0 k L (n : Int) ks (place.set j (putT l false (mvQ (mvT L mp (j : Int)))).1) (putT l false (mvQ (mvT L mp (j : Int)))).2.1 ((i + 1 : Nat) : Int)) (mvR (n : Int) (MV L (ks.drop (i + 1)) (putT l false (mvQ (mvT L mp (j : Int)))).2.1 (mput mp (j : Int) (putT l false (mvQ (mvT L mp (j : Int)))).1))) := fun hf => by
      refine ih (i + 1) _ _ _ c6 (by rw [List.length_set]; exact hp) (fun y y0 y1 => ?_) ?_
      · rw [rd_setI y0 c7]
        unfold mput
        split
        · rfl
        · exact hm y y0 y1
      · rw [htk, hj]
        exact Mi_put hI hf (by rw [mvQ_f0]; rfl)
    refine ev_succ ?_
    simp only [spec_l5Move.j2]
    refine Ev.bind hput ?_
    by_cases h7 : (rd_T37 L (j : Int)).f0 = 7
    · have eQ : mvQ (mvT L mp (j : Int)) = both4 (mvT L mp (j : Int)).f1 (mvT L mp (j : Int)).f2 := by unfold mvQ; rw [if_pos (show (mvT L mp (j : Int)).f0 = 7 from h7)]
      have hb5 := both5_ev l hI.1 (mvT L mp (j : Int)).f1 (mvT L mp (j : Int)).f2
      rw [← eQ, hPT] at hb5
      simp only [h7, if_true]
      by_cases hf : (putT l false (mvQ (mvT L mp (j : Int)))).2.2 = true
      · rw [if_pos hf] at hb5
        refine Ev.bind hb5 ?_
        simp only [show ¬ (2 : Int) = 0 by decide, if_false, hf, if_true]
        exact Ev.now _
      · rw [if_neg hf] at hb5
        refine Ev.bind hb5 ?_
        simp only [if_true, hf, if_false, c0, c1, hj, c2, c3, Int.toNat_natCast, hw]
        exact fin (by simpa using hf)
    · have eQ : mvQ (mvT L mp (j : Int)) = mvT L mp (j : Int) := by unfold mvQ; rw [if_neg (show ¬ (mvT L mp (j : Int)).f0 = 7 from h7)]
      rw [eQ] at hPT fin ⊢
      rw [hPT]
      simp only [h7, if_false]
      by_cases hf : (putT l false (mvT L mp (j : Int))).2.2 = true
      · simp only [hf, if_true, show ¬ (2 : Int) = 0 by decide, if_false]
        exact Ev.now _
      · simp only [hf, if_false, if_true, c0, c1, hj, c2, c3, Int.toNat_natCast, hw]
        exact fin (by simpa using hf)
def MVm (L : List S37) (a : Int) (M : List S37) : Int × Int × List S37 :=
  if TF L = 0 then (if TF M = 0 then (if notIn L a = true then (3, 0, []) else mvR a (MV L (PLs L a.toNat) M (fun _ => 0))) else (TF M, 0, [])) else (TF L, 0, [])
theorem MV_len (L : List S37) : ∀ (ks : List Int) (l : List S37) (mp : Int → Int) (a : Int), l.length ≤ 400 → (mvR a (MV L ks l mp)).2.2.length ≤ 400
  | [], l, mp, a, h => h
  | k :: r, l, mp, a, h => by
    rw [MV]
    split
    · simp [mvR]
    · exact MV_len L r _ _ a (putT_len h)
theorem MVm_len (L : List S37) (a : Int) (M : List S37) : (MVm L a M).2.2.length ≤ 400 := by
  unfold MVm
  split
  · split
    · rename_i h
      split
      · simp
      · exact MV_len _ _ _ _ _ (TF_len h)
    · simp
  · simp
theorem mv_spec (L : List S37) (hl : L.length ≤ 1048576) (a : Int) (M : List S37) : Ev (fun k => spec_MoveTerm.f k L a M) (MVm L a M) := by
  unfold spec_MoveTerm.f MVm
  refine Ev.bind (tf_spec L) ?_
  by_cases hL : TF L = 0
  · simp only [hL, if_true]
    refine Ev.bind (tf_spec M) ?_
    by_cases hM : TF M = 0
    · simp only [hM, if_true, at_ev L (by omega) a, Option.bind_some]
      by_cases hn : notIn L a = true
      · simp only [hn, Bool.not_true, Bool.false_eq_true, if_false, if_true]; exact Ev.now _
      · have hn' : notIn L a = false := by simpa using hn
        have hb := (notIn_iff _ _).1 hn'
        obtain ⟨n, rfl⟩ := Int.eq_ofNat_of_zero_le hb.1
        have hnl : n < L.length := by omega
        have h400 := TF_len hL
        have e1 : wrap64 ((n : Int) + 1) = ((n + 1 : Nat) : Int) := by rw [w64' (by omega) (by omega)]; omega
        simp only [hn', Bool.not_false, if_true, Bool.false_eq_true, if_false, Int.toNat_natCast]
        have key : Ev (fun k => spec_l5Move.f k L (n : Int) M) (mvR (n : Int) (MV L (PLs L n) M (fun _ => 0))) := by
          unfold spec_l5Move.f
          refine Ev.bind (parts_spec hL n hnl) ?_
          simp only [e1, show (0 : Int) ≤ ((n + 1 : Nat) : Int) by omega, if_true, Int.toNat_natCast, show n + 1 ≤ 35184372088832 by omega, copy_ev M (TF_len hM), Option.bind_some]
          have := move_spec hL n hnl (PLs L n).length 0 M (fun _ => 0) (List.replicate (n + 1) 0) (by omega) (by simp) (fun y y0 y1 => by
            obtain ⟨m, rfl⟩ := Int.eq_ofNat_of_zero_le y0
            simp [rd, List.getD, List.getElem?_replicate, show m < n + 1 by omega]) ⟨TF_len hM, fun p hp => by simp at hp⟩
          rw [List.drop_zero] at this
          exact this
        refine Ev.bind key ?_
        exact Ev.now _
    · simp only [hM, if_false]; exact Ev.now _
  · simp only [hL, if_false]; exact Ev.now _
theorem place_ev (L : List S37) (hl : L.length ≤ 1048576) (a : Int) : impl_isPlace.f L a = some (!notIn L a) := by
  have e : wrap64 ((L.length : Int) - 1) = (L.length : Int) - 1 := w64' (by omega) (by omega)
  unfold impl_isPlace.f
  rw [e, impl_in_eq]
  simp only [Option.bind_some]
  unfold notIn
  rw [Bool.not_not]
theorem mv_impl (L : List S37) (hl : L.length ≤ 1048576) (hw : L.all wf4 = true) (a : Int) (M : List S37) (hwM : M.all wf4 = true) : Ev (fun k => impl_MoveTerm.f k L a M) (MVm L a M) := by
  unfold impl_MoveTerm.f MVm fo2
  simp only [tf_impl hw, tf_impl hwM, Option.bind_some]
  by_cases hL : TF L = 0
  · simp only [hL, if_true]
    by_cases hM : TF M = 0
    · simp only [hM, if_true, place_ev L hl a, Option.bind_some]
      by_cases hn : notIn L a = true
      · simp only [hn, Bool.not_true, Bool.false_eq_true, if_false, if_true]; exact Ev.now _
      · have hn' : notIn L a = false := by simpa using hn
        have hb := (notIn_iff _ _).1 hn'
        obtain ⟨n, rfl⟩ := Int.eq_ofNat_of_zero_le hb.1
        have hnl : n < L.length := by omega
        have h400 := TF_len hL
        have hM4 := TF_len hM
        obtain ⟨k1, k2, k3, k4, k5⟩ := PLs_ok hL n hnl
        simp only [hn', Bool.not_false, if_true, Bool.false_eq_true, if_false, Int.toNat_natCast]
        refine Ev.bind (parts_impl hL n hnl) ?_
        rw [if_pos ⟨fun x hx => ⟨(k1 x hx).1, by have := (k1 x hx).2; omega⟩, by omega, h400, hM4, by omega, by omega⟩]
        exact Ev.now _
    · simp only [hM, if_false]; exact Ev.now _
  · simp only [hL, if_false]; exact Ev.now _
theorem FnExactMoveTerm : laws_FnExactMoveTerm.Pure := by
  intro l a l2 hm hw ha hm2 hw2
  have hl : l.length ≤ 9223372036854775807 := by unfold maxLen at hm; exact hm
  have hl2 : l2.length ≤ 9223372036854775807 := by unfold maxLen at hm2; exact hm2
  refine Ev.rounds ?_
  unfold laws_FnExactMoveTerm.f laws_szTermS.f
  rw [w64' (n := 1048576 - (l.length : Int)) (by omega) (by omega)]
  by_cases hbig : 1048576 - (l.length : Int) < 0
  · simp only [hbig, if_true, Option.bind_some, show (-1 : Int) < 0 by omega]; exact Ev.now _
  simp only [hbig, if_false, Option.bind_some]
  rw [w64' (n := 1048576 - (l.length : Int) - (l2.length : Int)) (by omega) (by omega)]
  by_cases hbig2 : 1048576 - (l.length : Int) - (l2.length : Int) < 0
  · simp only [hbig2, if_true, Option.bind_some, show (-1 : Int) < 0 by omega]; exact Ev.now _
  simp only [hbig2, if_false, Option.bind_some]
  have hc := toTermS_ev l (by omega)
  have hc2 := toTermS_ev l2 (by omega)
  have h0 := MVm_len (l.map toT) a (l2.map toT)
  have h1 := mv_spec (l.map toT) (by rw [List.length_map]; omega) a (l2.map toT)
  have h2 := mv_impl (l.map toT) (by rw [List.length_map]; omega) (wf4_map l hw) a (l2.map toT) (wf4_map l2 hw2)
  generalize MVm (l.map toT) a (l2.map toT) = r at h0 h1 h2
  refine Ev.bind hc (Ev.bind hc2 (Ev.bind h1 (Ev.bind hc (Ev.bind hc2 (Ev.bind h2 ?_)))))
  refine Ev.bind (eqTermResult_ev _ _ _ (by omega)) ?_
  simp only [if_true]
  refine Ev.bind hc (Ev.bind (eqTermS_ev _ (by simp; omega)) ?_)
  simp only [if_true]
  refine Ev.bind hc2 (Ev.bind (eqTermS_ev _ (by simp; omega)) ?_)
  simp only [if_true]
  refine Ev.bind (markTermS_ev _ 1 (by omega) (by simp; omega)) ?_
  simp only [List.length_map]
  refine Ev.bind (markTermS_ev _ (1 + 4 * (l.length : Int)) (by omega) (by simp; omega)) ?_
  simp only [List.length_map, show ¬ (1 + 4 * (l.length : Int) + 4 * (l2.length : Int) < 0) by omega, if_false]
  refine Ev.bind (eqTermResult_ev _ _ _ (by omega)) ?_
  refine ev_succ ?_
  simp only [laws_FnExactMoveTerm.j0, Bool.not_true, Bool.false_eq_true, if_false]
  refine Ev.bind (markTermResult_ev _ _ _ 1 (by omega) (by omega)) (Ev.bind (heldTermResult_ev _ _ _ 1 (by omega) (by omega)) ?_)
  simp only [show ¬ (1 + 4 * (r.2.2.length : Int) < 0) by omega, if_false, if_true]
  refine Ev.bind hc (Ev.bind hc2 (Ev.bind h2 (Ev.bind (eqTermResult_ev _ _ _ (by omega)) ?_)))
  simp only [if_true]
  refine Ev.bind (heldTermResult_ev _ _ _ 1 (by omega) (by omega)) ?_
  simp only [show ¬ (1 + 4 * (r.2.2.length : Int) < 0) by omega, if_false, if_true]
  exact Ev.now _
end Go.Proofs.Ytpagejjjfpkmcaa.Pure
namespace Go.Proofs.Ytpagejjjfpkmcaa.fnExactMoveTerm
open Go.ChangeShapes Go.WideShapes Go.ChangeAt
open Go.RowKit Go.Proofs.Ytpagejjjfpkmcaa.G Go.Proofs.YtpagejjjfpkmcaaW.PrintWords Go.Proofs.YtpagejjjfpkmcaaW.PrintLast
open Go.ChangeMaps (open_string shut_string)
set_option linter.unusedVariables false
theorem own : ownKnob Try.prog.godebug = none := by kernel_rfl
theorem laidOut : laidOutB Try.prog = true := by kernel_rfl
theorem o2 : Opn.Opens Try.prog 2 (Kd.int .i64) (fun n => (Lit.int .i64 n).wf = true) := Opn.opens_int Try.underlying2 (by kernel_rfl)
theorem o39 : Opn.Opens Try.prog 39 k39 (fun (x : S39) => (fun (x : Int × Int × Int × Int) => (fun n => (Lit.int .i64 n).wf = true) x.1 ∧ (fun (x : Int × Int × Int) => (fun n => (Lit.int .i64 n).wf = true) x.1 ∧ (fun (x : Int × Int) => (fun n => (Lit.int .i64 n).wf = true) x.1 ∧ (fun n => (Lit.int .i64 n).wf = true) x.2) x.2) x.2) (x.f0, x.f1, x.f2, x.f3)) := by
  refine Opn.opens_struct (G := fun (x : Int × Int × Int × Int) => (fun n => (Lit.int .i64 n).wf = true) x.1 ∧ (fun (x : Int × Int × Int) => (fun n => (Lit.int .i64 n).wf = true) x.1 ∧ (fun (x : Int × Int) => (fun n => (Lit.int .i64 n).wf = true) x.1 ∧ (fun n => (Lit.int .i64 n).wf = true) x.2) x.2) x.2) (fun x : S39 => (x.f0, x.f1, x.f2, x.f3)) (fun y => ⟨y.1, y.2.1, y.2.2.1, y.2.2.2⟩) (fun _ => rfl) Try.underlying39 (by kernel_rfl) ?_
  apply Opn.at_cons (T := 2) (G := fun n => (Lit.int .i64 n).wf = true) (G2 := fun (x : Int × Int × Int) => (fun n => (Lit.int .i64 n).wf = true) x.1 ∧ (fun (x : Int × Int) => (fun n => (Lit.int .i64 n).wf = true) x.1 ∧ (fun n => (Lit.int .i64 n).wf = true) x.2) x.2)
  · rfl
  · rfl
  · exact o2
  apply Opn.at_cons (T := 2) (G := fun n => (Lit.int .i64 n).wf = true) (G2 := fun (x : Int × Int) => (fun n => (Lit.int .i64 n).wf = true) x.1 ∧ (fun n => (Lit.int .i64 n).wf = true) x.2)
  · rfl
  · rfl
  · exact o2
  apply Opn.at_cons (T := 2) (G := fun n => (Lit.int .i64 n).wf = true) (G2 := fun n => (Lit.int .i64 n).wf = true)
  · rfl
  · rfl
  · exact o2
  apply Opn.at_last (T := 2)
  · rfl
  · rfl
  · exact o2
set_option maxRecDepth 100000 in
theorem lifted (os : Os) (started : os.Started) (H : Type) (enc : TypeId × Value → H) :
    ReturnsInHanded {} Try.checked os 3 .any (Rows.fnExactMoveTermSpec.pre6 enc Try.prog Try.f3 Rows.fnExactMoveTermRow.domain false) (Rows.fnExactMoveTermSpec.post enc Try.prog Try.f3 false true false false) := by
  refine returnsInHanded_of_change_sized (C := Try.checked) own started (by kernel_rfl) Try.func3
    (ChangeSpec.witness6 (enc := enc) (C := Try.checked) false ⟨#[], #[.slice none 0 0, .int .i64 0, .slice none 0 0], []⟩ 8 (by kernel_rfl) (by kernel_rfl) (by kernel_rfl) (by kernel_rfl)) ?_
  intro W base args ds gs before hval0 hW hcnd hsz0 _
  have hval : ∀ (j : Nat) t v, Try.f3.params[j]? = some t → args[j]? = some v → Value.okWide Try.prog W .any base t v := hval0
  have hW' := hW
  obtain ⟨p, q, hA0, hV, rfl, hfz, hnd⟩ := hW
  have hA : DataW.TrodAll enc Try.prog W 0 (fun _ => true) true Try.f3.params.toList args.toList ds p := hA0
  rw [Try.params3] at hA hval
  obtain ⟨v0, vs0, d0, ds0, p0, q0, hargs, rfl, rfl, h0, r0⟩ := trodAll_cons hA
  obtain ⟨v1, vs1, d1, ds1, p1, q1, rfl, rfl, rfl, h1, r1⟩ := trodAll_cons r0
  obtain ⟨v2, vs2, d2, ds2, p2, q2, rfl, rfl, rfl, h2, r2⟩ := trodAll_cons r1
  obtain ⟨rfl, rfl, rfl⟩ := trodAll_nil r2
  obtain rfl : args = #[v0, v1, v2] := by cases args; simp_all
  obtain ⟨rfl, rfl⟩ := trodVars_none hV
  obtain ⟨A0, len0, c0, rfl⟩ := okWide_slice Try.underlying22 (hval 0 22 v0 rfl rfl)
  have k0 := h0
  have lt0 : ∀ x ∈ p0, x.block < W.heap.size := by obtain ⟨m, hm⟩ := k0; exact DataW.trod_lt m _ _ _ hm
  obtain ⟨l0, rfl, hr0, hc0, hm0, hg0⟩ := Opn.arg_slice Try.underlying22 (by kernel_rfl) o39 h0
  obtain ⟨a1, rfl, rfl, rfl, w1⟩ := open_int Try.underlying2 (hval 1 2 v1 rfl rfl) h1
  obtain ⟨A2, len2, c2, rfl⟩ := okWide_slice Try.underlying22 (hval 2 22 v2 rfl rfl)
  have k2 := h2
  have lt2 : ∀ x ∈ p2, x.block < W.heap.size := by obtain ⟨m, hm⟩ := k2; exact DataW.trod_lt m _ _ _ hm
  obtain ⟨l2, rfl, hr2, hc2, hm2, hg2⟩ := Opn.arg_slice Try.underlying22 (by kernel_rfl) o39 h2
  clear hA0 hval0 hsz0
  obtain ⟨k, h⟩ := Pure.FnExactMoveTerm l0 a1 l2 hm0 hg0 w1 hm2 hg2
  refine (laws_FnExactMoveTerm.calls k A0 c0 l0 a1 A2 c2 l2 W hr0 hc0 hr2 hc2 h).mono fun e W' ⟨he, bel0⟩ => ?_
  have bel : Below W.heap.size W W' := bel0
  subst he
  exact ⟨_, rfl, _, _, _, [], _, [], hW', trodAll_mk1 (shut_bool Try.underlying4 _), (trodAll_cons_mk (Below.trod laidOut (by kernel_rfl) (of_decide_eq_true (by kernel_rfl)) k0 bel lt0) (trodAll_cons_mk (shut_int Try.underlying2 w1) (trodAll_cons_mk (Below.trod laidOut (by kernel_rfl) (of_decide_eq_true (by kernel_rfl)) k2 bel lt2) trodAll_mk0))), rfl, bel.frame _, fun h => by cases h⟩
theorem over : Rows.fnExactMoveTermRow.holds Try.pinned (OpenSpec.ofChange Rows.fnExactMoveTermSpec) :=
  OpenClaim.holds_of_wide 3 Try.f3 rfl rfl rfl rfl rfl rfl rfl ⟨rfl, rfl, rfl, rfl, rfl⟩ rfl rfl rfl rfl rfl (by kernel_rfl) Try.func3 (by kernel_rfl)
    (of_decide_eq_true (by kernel_rfl)) (by unfold Func.isWrapper; first | (rw [if_pos (by decide +kernel)]; kernel_rfl) | (rw [if_neg (by decide +kernel)]; exact ⟨rfl, rfl⟩))
    (fun os started H enc _ => lifted os started H enc)
end Go.Proofs.Ytpagejjjfpkmcaa.fnExactMoveTerm
namespace Go.Proofs.Ytpagejjjfpkmcaa
theorem fnExactMoveTerm_holds : Rows.FnExactMoveTermSaid := fnExactMoveTerm.over
end Go.Proofs.Ytpagejjjfpkmcaa
#print axioms Go.Proofs.Ytpagejjjfpkmcaa.fnExactMoveTerm_holds
