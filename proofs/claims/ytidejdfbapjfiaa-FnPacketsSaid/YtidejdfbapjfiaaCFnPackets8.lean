/- FnPackets: for every input the law returns true and its arguments read afterwards as they read before. No condition. -/
import Derived.Test.YtidejdfbapjfiaaCFnPackets7
import Derived.Deep.Cut
import Derived.ChangeArms
import Derived.Deep.Slices
import Derived.ProofKit
import Derived.OpenShut
import Derived.Laws.BitsLemmas
import Derived.Lib.Bytes
import Derived.Test.YtidejdfbapjfiaaRows
import Derived.WalkKit
import Derived.ShutString
import Derived.ChangeOld
import Derived.Below
import Derived.SizedLaws
set_option linter.unusedVariables false
namespace Go.Proofs.Ytidejdfbapjfiaa.Opn
open Go.Proofs.YtidejdfbapjfiaaW.PrintWords
def Opens {α : Type} (P : Program) (t : TypeId) (d : Kd α) (G : α → Prop) : Prop :=
  P.cellsOf t = d.sz ∧ ∀ (H : Type) (enc : TypeId × Value → H) (W : World) (base : Nat) (sp : Nat → Bool) (held : Bool) (fuel : Nat) (cs : List Value) (x : DataW H × List MemPlace),
    DataW.trod enc P W base sp held fuel t cs = some x → ∃ a, d.K W a cs ∧ G a
theorem opens_int {P : Program} {t : TypeId} {k : IntKind} (ht : P.underlying t = some (.int k)) (hc : P.cellsOf t = 1) : Opens P t (Kd.int k) (fun n => (Lit.int k n).wf = true) :=
  ⟨hc, fun H enc W base sp held fuel cs x hx => by
    obtain ⟨n, h, hx, hw⟩ := DataW.trod_int ht hx
    exact ⟨n, h, hw⟩⟩
theorem opens_slice {α : Type} {P : Program} {t e : TypeId} {d : Kd α} {G : α → Prop} (ht : P.underlying t = some (.slice e)) (hc : P.cellsOf t = 1) (he : Opens P e d G) :
    Opens P t (Kd.slice e d) (fun xs => xs.length ≤ maxLen ∧ ∀ x ∈ xs, G x) :=
  ⟨hc, fun H enc W base sp held fuel cs x hx => by
    rcases Go.Deep.open_slice ht hx with ⟨rfl, rfl⟩ | ⟨a, len, cap, m, n, D, Pl, rfl, hb, hl, hm, hmm, rfl, hel⟩
    · refine ⟨[], ⟨none, 0, rfl, Nat.le_refl _, rfl, by simp, ?_⟩, by simp, by simp⟩
      intro h; exact absurd h (by simp)
    · have hle : len ≤ m := by rw [hmm]; split <;> omega
      have key : ∀ i, i < len → ∃ p : α, ∃ c : List Value, c.length = d.sz ∧ d.K W p c ∧ G p ∧ ∀ j u, c[j]? = some u → W.cell? (a.add (i * d.sz + j)) = some u := by
        intro i hi
        obtain ⟨c, h1, h2⟩ := hel i (by omega)
        obtain ⟨p, h3, h4⟩ := he.2 H enc W base sp held n c _ h2
        obtain ⟨_, h5, h6⟩ := World.cells?_some h1
        rw [he.1] at h5 h6
        refine ⟨p, c, h5, h3, h4, fun j u hj => ?_⟩
        have hjl : j < d.sz := by
          have := (List.getElem?_eq_some_iff.1 hj).1
          omega
        rw [← Go.Deep.add_add, h6 j hjl, hj]
      have ex : ∃ ps : List α, ps.length = len ∧ ∀ i p, ps[i]? = some p → ∃ c : List Value, c.length = d.sz ∧ d.K W p c ∧ G p ∧ ∀ j u, c[j]? = some u → W.cell? (a.add (i * d.sz + j)) = some u := by
        clear hel hmm hle hl hm hx
        induction len with
        | zero => exact ⟨[], rfl, fun i p h => by simp at h⟩
        | succ k ih =>
          obtain ⟨ps, h1, h2⟩ := ih (fun i hi => key i (by omega))
          obtain ⟨p, hp⟩ := key k (by omega)
          refine ⟨ps ++ [p], by simp [h1], fun i q h => ?_⟩
          by_cases hi : i < ps.length
          · rw [List.getElem?_append_left hi] at h
            exact h2 i q h
          · rw [List.getElem?_append_right (by omega)] at h
            have hi0 : i - ps.length = 0 := by
              have := (List.getElem?_eq_some_iff.1 h).1
              simp at this
              omega
            rw [hi0] at h
            simp at h
            subst h
            have : i = k := by omega
            subst this
            exact hp
      obtain ⟨ps, h1, h2⟩ := ex
      subst h1
      refine ⟨ps, ⟨some a, cap, rfl, hl, rfl, by simp only [maxLen] at hm; omega, fun _ => ⟨a, rfl, fun j p hj => ?_⟩⟩, by omega, fun x hx' => ?_⟩
      · obtain ⟨c, g1, g2, g3, g4⟩ := h2 j p hj
        exact ⟨c, g1, g2, g4⟩
      · obtain ⟨i, hi⟩ := List.getElem?_of_mem hx'
        obtain ⟨c, g1, g2, g3, g4⟩ := h2 i x hi
        exact g3⟩
theorem arg_slice {α : Type} {P : Program} {W : World} {t e : TypeId} {d : Kd α} {G : α → Prop} {H : Type} {enc : TypeId × Value → H} {base : Nat} {sp : Nat → Bool} {held : Bool} {A : Option Addr} {n c : Nat} {x : DataW H} {ps : List MemPlace}
    (ht : P.underlying t = some (.slice e)) (hc : P.cellsOf t = 1) (he : Opens P e d G) (h : DataW.Trod enc P W base sp held t (.slice A n c) x ps) :
    ∃ xs : List α, n = xs.length ∧ d.C W A xs.length xs ∧ xs.length ≤ c ∧ xs.length ≤ maxLen ∧ ∀ a ∈ xs, G a := by
  obtain ⟨fuel, hf⟩ := h
  obtain ⟨xs, ⟨A', c', h1, h2, h3⟩, h4, h5⟩ := (opens_slice ht hc he).2 H enc W base sp held fuel _ _ hf
  simp [Value.cells] at h1
  obtain ⟨rfl, rfl, rfl⟩ := h1
  exact ⟨xs, rfl, h3, h2, h4, h5⟩
end Go.Proofs.Ytidejdfbapjfiaa.Opn
namespace Go.Proofs.Ytidejdfbapjfiaa.Pure
open Go.RowKit Go.Proofs.Ytidejdfbapjfiaa.G Go.Proofs.YtidejdfbapjfiaaW.PrintWords Go.Proofs.YtidejdfbapjfiaaW.PrintLast
def laws_FnPackets.Pure : Prop := ∀ (l0 : List Int), l0.length ≤ maxLen → (∀ x ∈ l0, (fun n => (Lit.int .u8 n).wf = true) x) → ∃ k, laws_FnPackets.f k l0 = some true
end Go.Proofs.Ytidejdfbapjfiaa.Pure
set_option linter.unusedVariables false
set_option linter.unusedSimpArgs false
namespace Go.Proofs.Ytidejdfbapjfiaa.Pure
open Go.RowKit Go.Proofs.Ytidejdfbapjfiaa.G Go.Proofs.YtidejdfbapjfiaaW.PrintWords Go.Proofs.YtidejdfbapjfiaaW.PrintLast Go.Proofs.YtidejdfbapjfiaaW.PrintMore
theorem ev_succ {α : Type} {g : Nat → Option α} {r : α} (h : Ev (fun k => g (k + 1)) r) : Ev g r := by
  obtain ⟨K, hK⟩ := h
  refine ⟨K + 1, fun k hk => ?_⟩
  obtain ⟨m, rfl⟩ : ∃ m, k = m + 1 := ⟨k - 1, by omega⟩
  exact hK m (by omega)
theorem w64' {n : Int} (h0 : -9223372036854775808 ≤ n) (h1 : n ≤ 9223372036854775807) : wrap64 n = n := by unfold wrap64; omega
theorem byte_wf {l : List Int} (h : ∀ x ∈ l, (Lit.int .u8 x).wf = true) : ∀ x ∈ l, 0 ≤ x ∧ x ≤ 255 := fun x hx => by
  have := h x hx
  simpa [Lit.wf, IntKind.min, IntKind.max, IntKind.signed, IntKind.bits] using this
theorem rd_nat (l : List Int) (i : Nat) : rd l (i : Int) = l.getD i 0 := by simp [rd]
theorem w64d {n : Int} (h0 : 0 ≤ n) (h1 : n ≤ 9223372036854775807) : wrap64 n = n := by unfold wrap64; omega
theorem rd_byte {l : List Int} (hb : ∀ x ∈ l, 0 ≤ x ∧ x ≤ 255) (i : Int) : 0 ≤ rd l i ∧ rd l i ≤ 255 := by
  unfold rd
  simp only [List.getD]
  cases h : l[i.toNat]? with
  | none => simp
  | some x => simpa using hb x (List.mem_of_getElem? h)
theorem next_ok (l : List Int) (hb : ∀ x ∈ l, 0 ≤ x ∧ x ≤ 255) (hl : l.length ≤ 1048576) (s a : Int) (s0 : 0 ≤ s) (s1 : s ≤ 1000000000000) (ha : 1 ≤ a) : ∃ r, spec_l1Next.f l s a = some (r, s + 1) ∧ 0 ≤ r ∧ r < a := by
  unfold spec_l1Next.f
  have e1 : wrap64 (s + 1) = s + 1 := w64d (by omega) (by omega)
  have e2 : wrap64 (s + 1 - 1) = s := by rw [w64d (by omega) (by omega)]; omega
  rw [if_neg (by omega), e1, e2]
  by_cases h0 : (l.length : Int) = 0
  · rw [if_pos h0, if_neg (by omega), w64d (by omega) (by omega)]
    exact ⟨_, rfl, Int.tmod_nonneg _ (by omega), Int.tmod_lt_of_pos _ (by omega)⟩
  rw [if_neg h0]
  have m0 := Int.tmod_nonneg (l.length : Int) (show 0 ≤ s by omega)
  have m1 := Int.tmod_lt_of_pos s (show 0 < (l.length : Int) by omega)
  have d0 : 0 ≤ s.tdiv (l.length : Int) := Int.tdiv_nonneg s0 (by omega)
  have d1 : s.tdiv (l.length : Int) ≤ s := by
    rw [Int.tdiv_eq_ediv_of_nonneg s0]; exact Int.ediv_le_self _ s0
  have r0 := rd_byte hb (s.tmod (l.length : Int))
  generalize rd l (s.tmod (l.length : Int)) = x at r0 ⊢
  rw [if_pos m0, if_pos m1]
  have f1 : wrap64 x = x := w64d r0.1 (by omega)
  have f2 : wrap64 (s.tdiv (l.length : Int)) = s.tdiv (l.length : Int) := w64d d0 (by omega)
  generalize s.tdiv (l.length : Int) = q at d0 d1 f2 ⊢
  have f3 : wrap64 (q * 37) = q * 37 := w64d (by omega) (by omega)
  have f4 : wrap64 (x + q * 37) = x + q * 37 := w64d (by omega) (by omega)
  rw [f1, f2, f3, f4]
  by_cases h2 : a > 200
  · rw [if_pos h2]
    try simp only [e1]
    have g0 : 0 ≤ (wrap64 (s + 1)).tmod (l.length : Int) := Int.tmod_nonneg _ (by rw [e1]; omega)
    have g1 : (wrap64 (s + 1)).tmod (l.length : Int) < (l.length : Int) := Int.tmod_lt_of_pos _ (by omega)
    have y0 := rd_byte hb ((wrap64 (s + 1)).tmod (l.length : Int))
    rw [e1] at g0 g1 y0
    generalize rd l ((s + 1).tmod (l.length : Int)) = y at y0 ⊢
    rw [if_pos g0, if_pos g1, if_neg (by omega)]
    have f5 : wrap64 y = y := w64d y0.1 (by omega)
    have f6 : wrap64 (y * 13) = y * 13 := w64d (by omega) (by omega)
    have f7 : wrap64 ((x + q * 37) * 251) = (x + q * 37) * 251 := w64d (by omega) (by omega)
    have f8 : wrap64 ((x + q * 37) * 251 + y * 13) = (x + q * 37) * 251 + y * 13 := w64d (by omega) (by omega)
    have f9 : wrap64 ((x + q * 37) * 251 + y * 13 + s) = (x + q * 37) * 251 + y * 13 + s := w64d (by omega) (by omega)
    rw [f5, f6, f7, f8, f9]
    exact ⟨_, rfl, Int.tmod_nonneg _ (by omega), Int.tmod_lt_of_pos _ (by omega)⟩
  · rw [if_neg h2, if_neg (by omega)]
    exact ⟨_, rfl, Int.tmod_nonneg _ (by omega), Int.tmod_lt_of_pos _ (by omega)⟩
theorem pick_ok (l : List Int) (hb : ∀ x ∈ l, 0 ≤ x ∧ x ≤ 255) (hl : l.length ≤ 1048576) (s : Int) (L : List Int) (s0 : 0 ≤ s) (s1 : s ≤ 1000000000000) (hL : 1 ≤ L.length) : ∃ x, x ∈ L ∧ spec_l1Pick.f l s L = some (x, s + 1) := by
  obtain ⟨r, h, r0, r1⟩ := next_ok l hb hl s (L.length : Int) s0 s1 (by omega)
  obtain ⟨n, rfl⟩ := Int.eq_ofNat_of_zero_le r0
  have hn : n < L.length := by omega
  refine ⟨L[n], List.getElem_mem hn, ?_⟩
  unfold spec_l1Pick.f
  rw [h]; simp only [Option.bind_some]
  rw [if_pos r0, if_pos r1]
  have : rd L (n : Int) = L[n] := by simp [rd, List.getD, List.getElem?_eq_getElem hn]
  rw [this]
def Bs (l : List Int) : Prop := ∀ x ∈ l, 0 ≤ x ∧ x ≤ 255
theorem some_l0 (l : List Int) (hb : Bs l) (hl : l.length ≤ 1048576) (d : Nat) (hd : d ≤ 1000) : ∀ (acc : List Int) (s : Int), Bs acc → acc.length + d ≤ 1000 → 0 ≤ s → s + 3 * d ≤ 1000000 →
    ∃ r, Ev (fun k => spec_l1Some.l0 k d acc l s) r ∧ Bs r.1 ∧ r.1.length = acc.length + d ∧ r.2 = s + 3 * d := by
  induction d with
  | zero =>
    intro acc s ha hal s0 s1
    refine ⟨(acc, s), ev_succ ?_, ha, by simp, by simp⟩
    simp only [spec_l1Some.l0, show ¬ ((0 : Nat) : Int) > 0 by omega, if_false]; exact Ev.now _
  | succ d ih =>
    intro acc s ha hal s0 s1
    obtain ⟨x, ex, x0, x1⟩ := next_ok l hb hl s 256 s0 (by omega) (by omega)
    obtain ⟨y, ey, y0, y1⟩ := next_ok l hb hl (s + 1) 256 (by omega) (by omega) (by omega)
    obtain ⟨z, hz, ez⟩ := pick_ok l hb hl (s + 1 + 1) [x, y, 0, 255] (by omega) (by omega) (by simp)
    obtain ⟨r, er, r1, r2, r3⟩ := ih (by omega) (acc ++ [z % 256]) (s + 1 + 1 + 1) (by
      intro w hw
      simp only [List.mem_append, List.mem_singleton] at hw
      rcases hw with hw | rfl
      · exact ha w hw
      · omega) (by simp; omega) (by omega) (by omega)
    refine ⟨r, ev_succ ?_, r1, by rw [r2]; simp; omega, by rw [r3]; omega⟩
    have ed : wrap64 (((d + 1 : Nat) : Int) - 1) = (d : Int) := by rw [show ((d + 1 : Nat) : Int) - 1 = (d : Int) by omega]; exact w64d (by omega) (by omega)
    simp only [spec_l1Some.l0, show ((d + 1 : Nat) : Int) > 0 by omega, if_true, ex, ey, ez, Option.bind_some, show acc.length < 140737488355328 by omega, ed]
    exact er
theorem some_ok (l : List Int) (hb : Bs l) (hl : l.length ≤ 1048576) (s n : Int) (n0 : 0 ≤ n) (n1 : n ≤ 301) (s0 : 0 ≤ s) (s1 : s ≤ 1000) :
    ∃ r, Ev (fun k => spec_l1Some.f k l s n) r ∧ Bs r.1 ∧ (r.1.length : Int) = n ∧ 0 ≤ r.2 ∧ r.2 ≤ 2000 := by
  obtain ⟨m, rfl⟩ := Int.eq_ofNat_of_zero_le n0
  obtain ⟨r, er, h1, h2, h3⟩ := some_l0 l hb hl m (by omega) [] s (by intro x hx; cases hx) (by simp; omega) s0 (by omega)
  exact ⟨r, er, h1, by rw [h2]; simp, by omega, by omega⟩
theorem in_spec' (a b c : Int) : spec_l1In.f a b c = some (decide (b ≤ a ∧ a ≤ c)) := by
  unfold spec_l1In.f
  by_cases h1 : b ≤ a <;> by_cases h2 : a ≤ c <;> simp [h1, h2]
theorem in_impl' (a b c : Int) : impl_in.f a b c = some (decide (b ≤ a ∧ a ≤ c)) := by
  unfold impl_in.f
  by_cases h1 : b ≤ a <;> by_cases h2 : a ≤ c <;> simp [h1, h2]
def nb (n : Int) (l : List Int) : Int := l.foldl (fun n b => n * 256 + b) n
theorem nb_snoc (n : Int) (l : List Int) (b : Int) : nb n (l ++ [b]) = nb n l * 256 + b := by simp [nb]
theorem nb_bound (l : List Int) (hb : ∀ x ∈ l, 0 ≤ x ∧ x ≤ 255) : ∀ n : Int, 0 ≤ n → 0 ≤ nb n l ∧ nb n l < (n + 1) * 256 ^ l.length := by
  induction l with
  | nil => intro n hn; simp [nb]; omega
  | cons b r ih =>
    intro n hn
    have h1 := hb b (List.mem_cons_self)
    obtain ⟨h2, h3⟩ := ih (fun x hx => hb x (List.mem_cons_of_mem _ hx)) (n * 256 + b) (by omega)
    have e : nb n (b :: r) = nb (n * 256 + b) r := rfl
    rw [e]
    refine ⟨h2, ?_⟩
    rw [List.length_cons, Int.pow_succ, Int.mul_comm ((256 : Int) ^ r.length) 256, ← Int.mul_assoc]
    have h4 : (n * 256 + b + 1) * (256 : Int) ^ r.length ≤ (n + 1) * 256 * (256 : Int) ^ r.length := Int.mul_le_mul_of_nonneg_right (by omega) (Int.le_of_lt (Int.pow_pos (by decide)))
    omega
theorem or_byte (x b : Int) (h0 : 0 ≤ x) (h1 : x < 281474976710656) (b0 : 0 ≤ b) (b1 : b ≤ 255) : Go.bits .or .i64 (wrap64 (x * 256)) (wrap64 b) = wrap64 (x * 256) + b := by
  rw [w64' (n := b) (by omega) (by omega), w64' (n := x * 256) (by omega) (by omega)]
  exact bits_join .i64 63 (by decide) (fun n h₀ h₁ => by rw [IntKind.wrap_i64]; omega) 8 (x * 256) b (by omega) (by omega) (by omega) b0 (by omega) (by omega)
theorem take_mem {l : List Int} {i : Nat} (hb : ∀ x ∈ l, 0 ≤ x ∧ x ≤ 255) : ∀ x ∈ l.take i, 0 ≤ x ∧ x ≤ 255 := fun x hx => hb x (List.mem_of_mem_take hx)
theorem rd_mem {l : List Int} {i : Nat} (hb : ∀ x ∈ l, 0 ≤ x ∧ x ≤ 255) (h : i < l.length) : 0 ≤ rd l i ∧ rd l i ≤ 255 := by
  rw [rd_nat]
  simp only [List.getD, List.getElem?_eq_getElem h, Option.getD_some]
  exact hb _ (List.getElem_mem h)
theorem take_snoc_rd (l : List Int) (i : Nat) (h : i < l.length) : l.take (i + 1) = l.take i ++ [rd l i] := by
  rw [List.take_succ_eq_append_getElem h, rd_nat]
  simp [List.getD, List.getElem?_eq_getElem h]
theorem impl_take_l0 (l : List Int) (hb : ∀ x ∈ l, 0 ≤ x ∧ x ≤ 255) (hl : l.length ≤ 7) (d : Nat) : ∀ (k i : Nat), i + d = l.length → d < k →
    impl_take.l0 k (nb 0 (l.take i)) l (l.length : Int) i = some (nb 0 l) := by
  induction d with
  | zero =>
    intro k i hi hk
    obtain ⟨k, rfl⟩ : ∃ m, k = m + 1 := ⟨k - 1, by omega⟩
    simp only [impl_take.l0]; rw [if_neg (by omega), List.take_of_length_le (by omega)]
  | succ d ih =>
    intro k i hi hk
    obtain ⟨k, rfl⟩ : ∃ m, k = m + 1 := ⟨k - 1, by omega⟩
    have h1 := nb_bound (l.take i) (take_mem hb) 0 (by omega)
    have hli : (l.take i).length = i := by simp; omega
    rw [hli] at h1
    have h2 : (256 : Int) ^ i ≤ 281474976710656 := by
      have : i = 0 ∨ i = 1 ∨ i = 2 ∨ i = 3 ∨ i = 4 ∨ i = 5 ∨ i = 6 := by omega
      rcases this with rfl | rfl | rfl | rfl | rfl | rfl | rfl <;> decide
    have h3 := rd_mem hb (show i < l.length by omega)
    simp only [impl_take.l0]
    rw [if_pos (by omega), if_pos (by omega), if_pos (by omega), or_byte _ _ h1.1 (by omega) h3.1 h3.2, w64' (n := nb 0 (l.take i) * 256) (by omega) (by omega), ← nb_snoc, ← take_snoc_rd l i (by omega), w64' (n := (i : Int) + 1) (by omega) (by omega)]
    have := ih k (i + 1) (by omega) (by omega)
    simpa using this
theorem impl_take_ev (l : List Int) (hb : ∀ x ∈ l, 0 ≤ x ∧ x ≤ 255) (hl : l.length ≤ 7) : Ev (fun k => impl_take.f k l) (nb 0 l) := by
  refine ⟨l.length + 1, fun k hk => ?_⟩
  unfold impl_take.f
  have := impl_take_l0 l hb hl l.length k 0 (by omega) (by omega)
  simpa [nb] using this
theorem spec_take_l0 (l : List Int) (hb : ∀ x ∈ l, 0 ≤ x ∧ x ≤ 255) (hl : l.length ≤ 9223372036854775807) (a s : Nat) (hs : s ≤ 7) (has : a + s ≤ l.length) (d : Nat) : ∀ (k i : Nat), i + d = s → d < k →
    spec_l1Take.l0 k l a s (nb 0 ((l.drop a).take i)) i = some (nb 0 ((l.drop a).take s)) := by
  induction d with
  | zero =>
    intro k i hi hk
    obtain ⟨k, rfl⟩ : ∃ m, k = m + 1 := ⟨k - 1, by omega⟩
    obtain rfl : i = s := by omega
    simp only [spec_l1Take.l0]; rw [if_neg (by omega)]
  | succ d ih =>
    intro k i hi hk
    obtain ⟨k, rfl⟩ : ∃ m, k = m + 1 := ⟨k - 1, by omega⟩
    have hb' : ∀ x ∈ l.drop a, 0 ≤ x ∧ x ≤ 255 := fun x hx => hb x (List.mem_of_mem_drop hx)
    have h1 := nb_bound ((l.drop a).take i) (take_mem hb') 0 (by omega)
    have hli : ((l.drop a).take i).length = i := by simp; omega
    rw [hli] at h1
    have h2 : (256 : Int) ^ i ≤ 281474976710656 := by
      have : i = 0 ∨ i = 1 ∨ i = 2 ∨ i = 3 ∨ i = 4 ∨ i = 5 ∨ i = 6 := by omega
      rcases this with rfl | rfl | rfl | rfl | rfl | rfl | rfl <;> decide
    have h0 : 0 ≤ nb 0 ((l.drop a).take i) ∧ nb 0 ((l.drop a).take i) ≤ 281474976710656 := by constructor <;> omega
    clear h1 h2
    have h3 := rd_mem hb (show a + i < l.length by omega)
    have e0 : wrap64 ((a : Int) + i) = ((a + i : Nat) : Int) := by rw [w64' (by omega) (by omega)]; omega
    have e1 : rd l ((a + i : Nat) : Int) = rd (l.drop a) i := by rw [rd_nat, rd_nat]; simp [List.getD, List.getElem?_drop]
    simp only [spec_l1Take.l0]
    rw [if_pos (by omega), e0, if_pos (by omega), if_pos (by omega), w64' (n := rd l ((a + i : Nat) : Int)) (by omega) (by omega), w64' (n := nb 0 ((l.drop a).take i) * 256) (by omega) (by omega), e1, w64' (n := nb 0 ((l.drop a).take i) * 256 + rd (l.drop a) i) (by omega) (by omega), ← nb_snoc, ← take_snoc_rd (l.drop a) i (by simp; omega), w64' (n := (i : Int) + 1) (by omega) (by omega)]
    have := ih k (i + 1) (by omega) (by omega)
    simpa using this
theorem spec_take_ev (l : List Int) (hb : ∀ x ∈ l, 0 ≤ x ∧ x ≤ 255) (hl : l.length ≤ 9223372036854775807) (a s : Nat) (hs : s ≤ 7) (has : a + s ≤ l.length) : Ev (fun k => spec_l1Take.f k l a s) (nb 0 ((l.drop a).take s)) := by
  refine ⟨s + 1, fun k hk => ?_⟩
  unfold spec_l1Take.f
  have := spec_take_l0 l hb hl a s hs has s k 0 (by omega) (by omega)
  simpa [nb] using this
end Go.Proofs.Ytidejdfbapjfiaa.Pure
set_option linter.unusedVariables false
set_option linter.unusedSimpArgs false
namespace Go.Proofs.Ytidejdfbapjfiaa.Pure
open Go Go.Lib Go.RowKit Go.Proofs.Ytidejdfbapjfiaa.G Go.Proofs.YtidejdfbapjfiaaW.PrintWords Go.Proofs.YtidejdfbapjfiaaW.PrintLast Go.Proofs.YtidejdfbapjfiaaW.PrintMore
def By : Nat → Int → List Int
  | 0, _ => []
  | j + 1, v => By j (v / 256) ++ [v % 256]
theorem By_length : ∀ (j : Nat) (v : Int), (By j v).length = j
  | 0, _ => rfl
  | j + 1, v => by simp [By, By_length j]
theorem By_byte : ∀ (j : Nat) (v : Int), ∀ x ∈ By j v, 0 ≤ x ∧ x ≤ 255
  | 0, _ => by simp [By]
  | j + 1, v => by
    intro x hx
    simp only [By, List.mem_append, List.mem_singleton] at hx
    rcases hx with hx | rfl
    · exact By_byte j _ x hx
    · omega
theorem By_nb : ∀ (j : Nat) (v : Int), 0 ≤ v → v < 256 ^ j → nb 0 (By j v) = v
  | 0, v => by intro h0 h1; simp [By, nb] at *; omega
  | j + 1, v => by
    intro h0 h1
    have h2 : v / 256 < 256 ^ j := by
      rw [Int.pow_succ] at h1
      exact Int.ediv_lt_of_lt_mul (by omega) h1
    rw [By, nb_snoc, By_nb j (v / 256) (by omega) h2]
    omega
theorem put_l0 : ∀ (j : Nat) (k : Nat) (v : Int) (acc : List Int), j < k → j ≤ acc.length → j ≤ 7 → impl_put.l0 k v acc ((j : Int) - 1) = some (By j v ++ acc.drop j)
  | 0, k, v, acc => by
    intro hk _ _
    obtain ⟨k, rfl⟩ : ∃ m, k = m + 1 := ⟨k - 1, by omega⟩
    simp [impl_put.l0, By]
  | j + 1, k, v, acc => by
    intro hk hj h7
    obtain ⟨k, rfl⟩ : ∃ m, k = m + 1 := ⟨k - 1, by omega⟩
    have ih := put_l0 j k (v / 256) (acc.set j (v % 256)) (by omega) (by simp; omega) (by omega)
    have e : (((j + 1 : Nat) : Int) - 1) = (j : Int) := by omega
    simp only [impl_put.l0]
    rw [e, if_pos (by omega), if_pos (by omega), if_pos (by omega), Int.toNat_natCast, w64' (by omega) (by omega), ih]
    have hd : (acc.set j (v % 256)).drop j = v % 256 :: acc.drop (j + 1) := by
      rw [List.drop_eq_getElem_cons (by simp; omega), List.getElem_set_self, List.drop_set_of_lt (by omega)]
    rw [hd, By, List.append_assoc]; rfl
theorem put_ev (v : Int) (j : Nat) (hj : j ≤ 7) : Ev (fun k => impl_put.f k v (j : Int)) (By j v) := by
  refine ⟨j + 1, fun k hk => ?_⟩
  unfold impl_put.f
  have := put_l0 j k v (List.replicate j 0) (by omega) (by simp) (by omega)
  dsimp only
  rw [if_pos (by omega), Int.toNat_natCast, if_pos (by omega), w64' (by omega) (by omega)]
  simpa using this
theorem By_of_nb : ∀ (n : Nat) (x : List Int), x.length = n → (∀ y ∈ x, 0 ≤ y ∧ y ≤ 255) → By n (nb 0 x) = x
  | 0, x, h, _ => by rw [List.length_eq_zero_iff.1 h]; rfl
  | n + 1, x, h, hb => by
    have hne : x ≠ [] := by intro e; rw [e] at h; simp at h
    have hx := List.dropLast_concat_getLast hne
    have hb1 := hb _ (List.getLast_mem hne)
    have hl : x.dropLast.length = n := by simp [h]
    have ih := By_of_nb n x.dropLast hl (fun y hy => hb y (List.dropLast_subset _ hy))
    generalize x.dropLast = y at hx hl ih
    generalize x.getLast hne = b at hx hb1
    subst hx
    rw [nb_snoc, By, show (nb 0 y * 256 + b) / 256 = nb 0 y by omega, show (nb 0 y * 256 + b) % 256 = b by omega, ih]
theorem text_inj : ∀ (x y : List Int), (∀ z ∈ x, 0 ≤ z ∧ z ≤ 255) → (∀ z ∈ y, 0 ≤ z ∧ z ≤ 255) → (x.map fun n => UInt8.ofNat n.toNat) = (y.map fun n => UInt8.ofNat n.toNat) → x = y
  | [], [], _, _, _ => rfl
  | [], _ :: _, _, _, h => by simp at h
  | _ :: _, [], _, _, h => by simp at h
  | a :: x, b :: y, hx, hy, h => by
    simp only [List.map_cons, List.cons.injEq] at h
    have h1 := hx a List.mem_cons_self
    have h2 := hy b List.mem_cons_self
    have h3 := congrArg UInt8.toNat h.1
    rw [UInt8.toNat_ofNat_of_lt' (by show a.toNat < 256; omega), UInt8.toNat_ofNat_of_lt' (by show b.toNat < 256; omega)] at h3
    rw [text_inj x y (fun z hz => hx z (List.mem_cons_of_mem _ hz)) (fun z hz => hy z (List.mem_cons_of_mem _ hz)) h.2, show a = b by omega]
theorem text_eq (x y : List Int) (hx : ∀ z ∈ x, 0 ≤ z ∧ z ≤ 255) (hy : ∀ z ∈ y, 0 ≤ z ∧ z ≤ 255) : ((strOfNums x).toList == (strOfNums y).toList) = decide (x = y) := by
  rw [strOfNums_toList, strOfNums_toList]
  by_cases h : x = y
  · rw [h]; simp
  · rw [decide_eq_false h]
    have : ¬ bytesOf x = bytesOf y := fun e => h (text_inj x y hx hy e)
    simpa using this
end Go.Proofs.Ytidejdfbapjfiaa.Pure
set_option linter.unusedVariables false
set_option linter.unusedSimpArgs false
namespace Go.Proofs.Ytidejdfbapjfiaa.Pure
open Go Go.RowKit Go.Proofs.Ytidejdfbapjfiaa.G Go.Proofs.YtidejdfbapjfiaaW.PrintWords Go.Proofs.YtidejdfbapjfiaaW.PrintLast Go.Proofs.YtidejdfbapjfiaaW.PrintMore
def fl (x : Int) : Int := if x = 0 then 0 else (x - 1) % 65535 + 1
theorem fl_low {x : Int} (h0 : 0 ≤ x) (h1 : x ≤ 65535) : fl x = x := by unfold fl; split <;> omega
theorem fl_b {x : Int} (h0 : 0 ≤ x) : 0 ≤ fl x ∧ fl x ≤ 65535 := by unfold fl; split <;> omega
theorem fl_step {x : Int} (h : 65536 ≤ x) : fl (x % 65536 + x / 65536) = fl x := by
  have h1 : ¬ x = 0 := by omega
  have h2 : ¬ x % 65536 + x / 65536 = 0 := by omega
  unfold fl; rw [if_neg h1, if_neg h2]; omega
theorem fl_add {x y : Int} (h0 : 0 ≤ x) (h1 : 0 ≤ y) : fl (fl x + y) = fl (x + y) := by
  by_cases hx : x = 0
  · subst hx; rfl
  · have e : fl x = (x - 1) % 65535 + 1 := by unfold fl; rw [if_neg hx]
    rw [e]
    unfold fl
    rw [if_neg (by omega), if_neg (by omega)]; omega
theorem fold_impl (n : Nat) : ∀ x : Int, 0 ≤ x → x ≤ n → x ≤ 1099511627776 → Ev (fun k => impl_fold.l0 k x) (fl x) := by
  induction n using Nat.strongRecOn with
  | _ n ih =>
    intro x h0 hn h1
    refine ev_succ ?_
    simp only [impl_fold.l0]
    by_cases h : x ≥ 65536
    · rw [Int.tmod_eq_emod_of_nonneg h0, Int.tdiv_eq_ediv_of_nonneg h0, w64' (n := x / 65536) (by omega) (by omega), w64' (by omega) (by omega)]
      simp only [h, if_true]
      rw [← fl_step (by omega : 65536 ≤ x)]
      exact ih (x % 65536 + x / 65536).toNat (by omega) _ (by omega) (by omega) (by omega)
    · simp only [h, if_false]
      rw [fl_low h0 (by omega)]; exact Ev.now _
theorem fold_spec (n : Nat) : ∀ x : Int, 0 ≤ x → x ≤ n → x ≤ 1099511627776 → Ev (fun k => spec_l1Fold.l0 k x) (fl x) := by
  induction n using Nat.strongRecOn with
  | _ n ih =>
    intro x h0 hn h1
    refine ev_succ ?_
    simp only [spec_l1Fold.l0]
    by_cases h : x > 65535
    · rw [Int.tmod_eq_emod_of_nonneg h0, Int.tdiv_eq_ediv_of_nonneg h0, w64' (n := x / 65536) (by omega) (by omega), w64' (by omega) (by omega)]
      simp only [h, if_true]
      rw [← fl_step (by omega : 65536 ≤ x)]
      exact ih (x % 65536 + x / 65536).toNat (by omega) _ (by omega) (by omega) (by omega)
    · simp only [h, if_false]
      rw [fl_low h0 (by omega)]; exact Ev.now _
def As (i : Nat) : List Int → Int
  | [] => 0
  | x :: t => (if i % 2 = 0 then 256 * x else x) + As (i + 1) t
theorem As_nonneg : ∀ (l : List Int) (i : Nat), (∀ x ∈ l, 0 ≤ x ∧ x ≤ 255) → 0 ≤ As i l ∧ As i l ≤ 65280 * l.length
  | [], i, _ => by simp [As]
  | x :: t, i, hb => by
    have h1 := As_nonneg t (i + 1) (fun y hy => hb y (List.mem_cons_of_mem _ hy))
    have h2 := hb x List.mem_cons_self
    simp only [As, List.length_cons]
    split <;> omega
theorem rdD {l : List Int} {i : Nat} (h : i < l.length) : l.drop i = rd l (i : Int) :: l.drop (i + 1) := by
  rw [List.drop_eq_getElem_cons h, rd_nat]; simp [List.getD, List.getElem?_eq_getElem h]
theorem sum_impl_l0 (l : List Int) (hb : ∀ x ∈ l, 0 ≤ x ∧ x ≤ 255) (hl : l.length ≤ 1048576) (d : Nat) : ∀ (i : Nat) (acc : Int), i + d = l.length → 0 ≤ acc → acc ≤ 65280 * i →
    Ev (fun k => impl_SumWords.l0 k acc l (l.length : Int) i) (65535 - fl (acc + As i (l.drop i))) := by
  induction d with
  | zero =>
    intro i acc hi a0 a1
    refine ev_succ ?_
    have hd : l.drop i = [] := List.drop_eq_nil_of_le (by omega)
    simp only [impl_SumWords.l0, show ¬ (i : Int) < (l.length : Int) by omega, if_false, hd, As, Int.add_zero]
    have hf := fl_b a0
    refine Ev.bind (fold_impl acc.toNat acc a0 (by omega) (by omega)) ?_
    rw [w64' (by omega) (by omega)]
    exact Ev.now _
  | succ d ih =>
    intro i acc hi a0 a1
    have hlt : i < l.length := by omega
    have hr := rd_mem hb hlt
    refine ev_succ ?_
    rw [rdD hlt]
    have ht : Int.tmod (i : Int) 2 = (i : Int) % 2 := Int.tmod_eq_emod_of_nonneg (by omega)
    simp only [impl_SumWords.l0, show (i : Int) < (l.length : Int) by omega, show 0 ≤ (i : Int) by omega, if_true, ht, As]
    have e1 : wrap64 ((i : Int) + 1) = ((i + 1 : Nat) : Int) := by rw [w64' (by omega) (by omega)]; omega
    rw [e1]
    by_cases h2 : i % 2 = 0
    · simp only [h2, show (i : Int) % 2 = 0 by omega, if_true]
      rw [w64' (n := rd l i) (by omega) (by omega), w64' (n := 256 * rd l i) (by omega) (by omega), w64' (n := acc + 256 * rd l i) (by omega) (by omega), ← Int.add_assoc]
      exact ih (i + 1) _ (by omega) (by omega) (by omega)
    · simp only [h2, show ¬ (i : Int) % 2 = 0 by omega, if_false]
      rw [w64' (n := rd l i) (by omega) (by omega), w64' (n := acc + rd l i) (by omega) (by omega), ← Int.add_assoc]
      exact ih (i + 1) _ (by omega) (by omega) (by omega)
theorem sum_impl (l : List Int) (hb : ∀ x ∈ l, 0 ≤ x ∧ x ≤ 255) (hl : l.length ≤ 1048576) : Ev (fun k => impl_SumWords.f k l) (65535 - fl (As 0 l)) := by
  have := sum_impl_l0 l hb hl l.length 0 0 (by omega) (by omega) (by omega)
  rw [Int.zero_add] at this; exact this
theorem sum_spec_l0 (l : List Int) (hb : ∀ x ∈ l, 0 ≤ x ∧ x ≤ 255) (hl : l.length ≤ 1048576) (d : Nat) : ∀ (i : Nat) (acc : Int), i % 2 = 0 → l.length ≤ i + 2 * d → i ≤ l.length + 1 → 0 ≤ acc → acc ≤ 65535 →
    Ev (fun k => spec_SumWords.l0 k l acc i) (65535 - fl (acc + As i (l.drop i))) := by
  induction d with
  | zero =>
    intro i acc h2 hi hu a0 a1
    refine ev_succ ?_
    have hd : l.drop i = [] := List.drop_eq_nil_of_le (by omega)
    simp only [spec_SumWords.l0, show ¬ (i : Int) < (l.length : Int) by omega, if_false, hd, As, Int.add_zero, fl_low a0 a1]
    rw [w64' (by omega) (by omega)]
    exact Ev.now _
  | succ d ih =>
    intro i acc h2 hi hu a0 a1
    refine ev_succ ?_
    by_cases hlt : i < l.length
    · have hr := rd_mem hb hlt
      have e1 : wrap64 ((i : Int) + 1) = ((i + 1 : Nat) : Int) := by rw [w64' (by omega) (by omega)]; omega
      have e2 : wrap64 ((i : Int) + 2) = ((i + 2 : Nat) : Int) := by rw [w64' (by omega) (by omega)]; omega
      simp only [spec_SumWords.l0, show (i : Int) < (l.length : Int) by omega, show 0 ≤ (i : Int) by omega, if_true, e1, e2]
      rw [w64' (n := rd l i) (by omega) (by omega), w64' (n := 256 * rd l i) (by omega) (by omega), w64' (n := acc + 256 * rd l i) (by omega) (by omega), rdD hlt]
      by_cases hlt2 : i + 1 < l.length
      · have hr2 := rd_mem hb hlt2
        simp only [show ((i + 1 : Nat) : Int) < (l.length : Int) by omega, show 0 ≤ ((i + 1 : Nat) : Int) by omega, if_true]
        rw [w64' (n := rd l (i + 1 : Nat)) (by omega) (by omega), w64' (by omega) (by omega), rdD hlt2]
        have hp : 0 ≤ acc + 256 * rd l i + rd l (i + 1 : Nat) := by omega
        refine Ev.bind (fold_spec (acc + 256 * rd l i + rd l (i + 1 : Nat)).toNat _ hp (by omega) (by omega)) ?_
        have hf := fl_b hp
        have ha := As_nonneg (l.drop (i + 2)) (i + 2) (fun x hx => hb x (List.mem_of_mem_drop hx))
        have hz : As i (rd l i :: rd l (i + 1 : Nat) :: l.drop (i + 1 + 1)) = 256 * rd l i + (rd l (i + 1 : Nat) + As (i + 2) (l.drop (i + 2))) := by
          simp only [As, h2, if_true, show ¬ (i + 1) % 2 = 0 by omega, if_false]
        rw [hz, show acc + (256 * rd l i + (rd l (i + 1 : Nat) + As (i + 2) (l.drop (i + 2)))) = (acc + 256 * rd l i + rd l (i + 1 : Nat)) + As (i + 2) (l.drop (i + 2)) by omega, ← fl_add hp ha.1]
        exact ih (i + 2) _ (by omega) (by omega) (by omega) hf.1 hf.2
      · simp only [show ¬ ((i + 1 : Nat) : Int) < (l.length : Int) by omega, if_false]
        have hp : 0 ≤ acc + 256 * rd l i := by omega
        refine Ev.bind (fold_spec (acc + 256 * rd l i).toNat _ hp (by omega) (by omega)) ?_
        have hf := fl_b hp
        have hd : l.drop (i + 1) = [] := List.drop_eq_nil_of_le (by omega)
        have hd2 : l.drop (i + 2) = [] := List.drop_eq_nil_of_le (by omega)
        have hz : As i (rd l i :: l.drop (i + 1)) = 256 * rd l i := by
          simp only [As, hd, h2, if_true, Int.add_zero]
        rw [hz]
        have := ih (i + 2) (fl (acc + 256 * rd l i)) (by omega) (by omega) (by omega) hf.1 hf.2
        rw [hd2, fl_add hp (by simp [As])] at this
        simp only [As, Int.add_zero] at this
        exact this
    · have hd : l.drop i = [] := List.drop_eq_nil_of_le (by omega)
      simp only [spec_SumWords.l0, show ¬ (i : Int) < (l.length : Int) by omega, if_false, hd, As, Int.add_zero, fl_low a0 a1]
      rw [w64' (by omega) (by omega)]
      exact Ev.now _
theorem sum_spec (l : List Int) (hb : ∀ x ∈ l, 0 ≤ x ∧ x ≤ 255) (hl : l.length ≤ 1048576) : Ev (fun k => spec_SumWords.f k l) (65535 - fl (As 0 l)) := by
  have := sum_spec_l0 l hb hl l.length 0 0 (by omega) (by omega) (by omega) (by omega) (by omega)
  rw [Int.zero_add] at this; exact this
theorem check_impl (l : List Int) (hb : ∀ x ∈ l, 0 ≤ x ∧ x ≤ 255) (hl : l.length ≤ 1048576) : Ev (fun k => impl_CheckWords.f k l) (65535 - fl (As 0 l) == 0) := by
  unfold impl_CheckWords.f
  exact Ev.bind (sum_impl l hb hl) (Ev.now _)
theorem check_spec (l : List Int) (hb : ∀ x ∈ l, 0 ≤ x ∧ x ≤ 255) (hl : l.length ≤ 1048576) : Ev (fun k => spec_CheckWords.f k l) (65535 - fl (As 0 l) == 0) := by
  unfold spec_CheckWords.f
  exact Ev.bind (sum_spec l hb hl) (Ev.now _)
abbrev Pk := Int × Int × Int × Int × Int × Int × Int × List Int
def bad (c : Int) : Pk := (c, 0, 0, 0, 0, 0, 0, [])
def PB (a b c t : Int) (p : List Int) : Pk :=
  if c = 6 ∨ c = 17 then (if p.length < 4 then bad 5 else if 200 < (p.drop 4).length then bad 2 else (0, a, b, c, t, nb 0 (p.take 2), nb 0 ((p.drop 2).take 2), p.drop 4))
  else if 200 < p.length then bad 2 else (0, a, b, c, t, 0, 0, p)
def PP (l : List Int) : Pk :=
  if (20 ≤ l.length ∧ l.length ≤ 224) ∧ rd l 0 = 69 ∧ rd l 1 = 0 ∧ nb 0 ((l.drop 4).take 4) = 16384 ∧ nb 0 ((l.drop 2).take 2) = (l.length : Int) then
    (if 65535 - fl (As 0 (l.take 20)) = 0 then (if rd l 8 = 0 ∨ rd l 9 = 0 then bad 3 else PB (nb 0 ((l.drop 12).take 4)) (nb 0 ((l.drop 16).take 4)) (rd l 9) (rd l 8) (l.drop 20)) else bad 6)
  else bad 5
theorem rd_bb {l : List Int} (hb : ∀ x ∈ l, 0 ≤ x ∧ x ≤ 255) (i : Nat) : 0 ≤ rd l (i : Int) ∧ rd l (i : Int) ≤ 255 := by
  by_cases h : i < l.length
  · exact rd_mem hb h
  · rw [rd_nat]; simp [List.getD, List.getElem?_eq_none (show l.length ≤ i by omega)]
theorem ports_impl (c : Int) : impl_HasPorts.f c = some (decide (c = 6 ∨ c = 17)) := by
  unfold impl_HasPorts.f
  by_cases h : c = 6
  · simp [h]
  · rw [if_neg h]; congr 1; by_cases h2 : c = 17 <;> simp [h, h2]
theorem ports_spec (c : Int) : spec_HasPorts.f c = some (decide (c = 6 ∨ c = 17)) := by
  unfold spec_HasPorts.f
  by_cases h : c = 6
  · simp [h]
  · rw [if_neg h]; congr 1; by_cases h2 : c = 17 <;> simp [h, h2]
theorem ps_body (l : List Int) (hb : ∀ x ∈ l, 0 ≤ x ∧ x ≤ 255) (h20 : 20 ≤ l.length) (hl : l.length ≤ 224) (a b c t : Int) : Ev (fun k => spec_ParsePacket.j1 k l false a b c t 0 0) (PB a b c t (l.drop 20)) := by
  refine ev_succ ?_
  have hp : ∀ x ∈ l.drop 20, 0 ≤ x ∧ x ≤ 255 := fun x hx => hb x (List.mem_of_mem_drop hx)
  have hpl : (l.drop 20).length ≤ 204 := by simp; omega
  simp only [spec_ParsePacket.j1, Bool.false_eq_true, if_false, show (20 : Int) ≤ (l.length : Int) by omega, if_true, ports_spec, Option.bind_some, decide_eq_true_eq, PB, spec_l2Bad.f]
  generalize l.drop 20 = p at hp hpl
  by_cases h1 : c = 6 ∨ c = 17
  · simp only [h1, if_true]
    by_cases h2 : p.length < 4
    · simp only [h2, show (p.length : Int) < 4 by omega, if_true]; exact Ev.now _
    · simp only [h2, show ¬ (p.length : Int) < 4 by omega, if_false]
      have e1 := spec_take_ev p hp (by omega) 0 2 (by omega) (by omega)
      have e2 := spec_take_ev p hp (by omega) 2 2 (by omega) (by omega)
      rw [List.drop_zero] at e1
      refine Ev.bind e1 (Ev.bind e2 ?_)
      simp only [show (4 : Int) ≤ (p.length : Int) by omega, if_true]
      by_cases h3 : 200 < (p.drop 4).length
      · simp only [h3, show ((p.drop 4).length : Int) > 200 by omega, if_true]; exact Ev.now _
      · simp only [h3, show ¬ ((p.drop 4).length : Int) > 200 by omega, if_false, List.length_nil, Nat.zero_add, show (p.drop 4).length < 140737488355328 by omega, if_true, List.nil_append]; exact Ev.now _
  · simp only [h1, if_false]
    by_cases h3 : 200 < p.length
    · simp only [h3, show (p.length : Int) > 200 by omega, if_true]; exact Ev.now _
    · simp only [h3, show ¬ (p.length : Int) > 200 by omega, if_false, List.length_nil, Nat.zero_add, show p.length < 140737488355328 by omega, if_true, List.nil_append]; exact Ev.now _
theorem pp_spec (l : List Int) (hb : ∀ x ∈ l, 0 ≤ x ∧ x ≤ 255) (hl : l.length ≤ 1048576) : Ev (fun k => spec_ParsePacket.f k l) (PP l) := by
  have b5 : Ev (fun k => spec_ParsePacket.j0 k l true) (bad 5) := by
    refine ev_succ ?_
    simp only [spec_ParsePacket.j0, if_true, spec_l2Bad.f, Option.bind_some]; exact Ev.now _
  unfold spec_ParsePacket.f PP
  simp only [in_spec', Option.bind_some, decide_eq_true_eq]
  by_cases h1 : 20 ≤ l.length ∧ l.length ≤ 224
  · simp only [h1, show (20 : Int) ≤ (l.length : Int) ∧ (l.length : Int) ≤ 224 by omega, and_self, true_and, if_true, show 0 < (l.length : Int) by omega, show 1 < (l.length : Int) by omega]
    by_cases h2 : rd l 0 = 69
    · by_cases h3 : rd l 1 = 0
      · simp only [h2, h3, if_true, true_and]
        refine Ev.bind (spec_take_ev l hb (by omega) 4 4 (by omega) (by omega)) ?_
        by_cases h4 : nb 0 ((l.drop 4).take 4) = 16384
        · simp only [h4, if_true, true_and]
          refine Ev.bind (spec_take_ev l hb (by omega) 2 2 (by omega) (by omega)) ?_
          by_cases h5 : nb 0 ((l.drop 2).take 2) = (l.length : Int)
          · simp only [h5, if_true, bne_self_eq_false]
            refine ev_succ ?_
            simp only [spec_ParsePacket.j0, Bool.false_eq_true, if_false, show (20 : Int) ≤ (l.length : Int) by omega, if_true]
            refine Ev.bind (check_spec (l.take 20) (fun x hx => hb x (List.mem_of_mem_take hx)) (by simp; omega)) ?_
            by_cases h6 : 65535 - fl (As 0 (l.take 20)) = 0
            · simp only [h6, beq_self_eq_true, if_true]
              refine Ev.bind (spec_take_ev l hb (by omega) 12 4 (by omega) (by omega)) (Ev.bind (spec_take_ev l hb (by omega) 16 4 (by omega) (by omega)) ?_)
              have r8 : 0 ≤ rd l 8 ∧ rd l 8 ≤ 255 := rd_bb hb 8
              have r9 : 0 ≤ rd l 9 ∧ rd l 9 ≤ 255 := rd_bb hb 9
              simp only [show 9 < (l.length : Int) by omega, show 8 < (l.length : Int) by omega, if_true]
              rw [w64' (n := rd l 8) (by omega) (by omega), w64' (n := rd l 9) (by omega) (by omega)]
              have b3 : ∀ a b c t : Int, Ev (fun k => spec_ParsePacket.j1 k l true a b c t 0 0) (bad 3) := by
                intro a b c t
                refine ev_succ ?_
                simp only [spec_ParsePacket.j1, if_true, spec_l2Bad.f, Option.bind_some]; exact Ev.now _
              by_cases h7 : rd l 8 = 0
              · simp only [h7, if_true, true_or]; exact b3 _ _ _ _
              · by_cases h8 : rd l 9 = 0
                · simp only [h7, h8, if_true, if_false, beq_self_eq_true, or_true]; exact b3 _ _ _ _
                · simp only [h7, h8, if_false, or_self, show (rd l 9 == 0) = false by simpa using h8]
                  exact ps_body l hb h1.1 h1.2 _ _ _ _
            · simp only [h6, if_false, show (65535 - fl (As 0 (l.take 20)) == 0) = false by simpa using h6, Bool.false_eq_true, spec_l2Bad.f, Option.bind_some]; exact Ev.now _
          · simp only [h5, if_false, show (nb 0 ((l.drop 2).take 2) != (l.length : Int)) = true by simpa using h5]; exact b5
        · simp only [h4, if_false, false_and]; exact b5
      · simp only [h2, h3, if_true, if_false, false_and, and_false]; exact b5
    · simp only [h2, if_false, false_and]; exact b5
  · simp only [h1, show ¬ ((20 : Int) ≤ (l.length : Int) ∧ (l.length : Int) ≤ 224) by omega, if_false, false_and]; exact b5
theorem pi_body (p : List Int) (hp : ∀ x ∈ p, 0 ≤ x ∧ x ≤ 255) (hpl : p.length ≤ 204) (a b c t : Int) : Ev (fun k => impl_ParsePacket.j0 k p false a b c t 0 0) (PB a b c t p) := by
  refine ev_succ ?_
  simp only [impl_ParsePacket.j0, Bool.false_eq_true, if_false, ports_impl, Option.bind_some, decide_eq_true_eq, PB]
  by_cases h1 : c = 6 ∨ c = 17
  · simp only [h1, if_true]
    by_cases h2 : p.length < 4
    · simp only [h2, show (p.length : Int) < 4 by omega, if_true]; exact Ev.now _
    · simp only [h2, show ¬ (p.length : Int) < 4 by omega, if_false]
      refine ev_succ ?_
      simp only [impl_ParsePacket.j1, ports_impl, Option.bind_some, decide_eq_true_eq, h1, if_true, show (2 : Int) ≤ (p.length : Int) by omega, show (4 : Int) ≤ (p.length : Int) by omega, show (2 : Int) ≤ 4 by omega]
      have e1 := impl_take_ev (p.take 2) (fun x hx => hp x (List.mem_of_mem_take hx)) (by simp; omega)
      have e2 := impl_take_ev ((p.drop 2).take 2) (fun x hx => hp x (List.mem_of_mem_drop (List.mem_of_mem_take hx))) (by simp; omega)
      rw [show (p.take 4).drop 2 = (p.drop 2).take 2 by rw [List.drop_take]]
      refine Ev.bind e1 (Ev.bind e2 ?_)
      by_cases h3 : 200 < (p.drop 4).length
      · simp only [h3, show ((p.drop 4).length : Int) > 200 by omega, if_true]; exact Ev.now _
      · simp only [h3, show ¬ ((p.drop 4).length : Int) > 200 by omega, if_false, slices_Clone_byte_byte.f, show (p.drop 4).length * 1 ≤ 140737488355328 by omega, if_true, Option.bind_some]; exact Ev.now _
  · simp only [h1, if_false]
    refine ev_succ ?_
    simp only [impl_ParsePacket.j1, ports_impl, Option.bind_some, decide_eq_true_eq, h1, if_false]
    by_cases h3 : 200 < p.length
    · simp only [h3, show (p.length : Int) > 200 by omega, if_true]; exact Ev.now _
    · simp only [h3, show ¬ (p.length : Int) > 200 by omega, if_false, slices_Clone_byte_byte.f, show p.length * 1 ≤ 140737488355328 by omega, if_true, Option.bind_some]; exact Ev.now _
theorem head_impl (l : List Int) (hb : ∀ x ∈ l, 0 ≤ x ∧ x ≤ 255) (hl : l.length ≤ 1048576) : Ev (fun k => impl_headOk.f k l) (decide ((20 ≤ l.length ∧ l.length ≤ 224) ∧ rd l 0 = 69 ∧ rd l 1 = 0 ∧ nb 0 ((l.drop 4).take 4) = 16384 ∧ nb 0 ((l.drop 2).take 2) = (l.length : Int))) := by
  unfold impl_headOk.f
  simp only [in_impl', Option.bind_some, decide_eq_true_eq]
  by_cases h1 : 20 ≤ l.length ∧ l.length ≤ 224
  · simp only [h1, show (20 : Int) ≤ (l.length : Int) ∧ (l.length : Int) ≤ 224 by omega, and_self, true_and, if_true, show 0 < (l.length : Int) by omega, show 1 < (l.length : Int) by omega, show (4 : Int) ≤ 8 by omega, show (8 : Int) ≤ (l.length : Int) by omega, show (2 : Int) ≤ 4 by omega, show (4 : Int) ≤ (l.length : Int) by omega]
    by_cases h2 : rd l 0 = 69
    · by_cases h3 : rd l 1 = 0
      · simp only [h2, h3, if_true, true_and, bytes_Equal.f, Option.bind_some]
        have hx : ∀ x ∈ (l.drop 4).take 4, 0 ≤ x ∧ x ≤ 255 := fun x hx => hb x (List.mem_of_mem_drop (List.mem_of_mem_take hx))
        have hxl : ((l.drop 4).take 4).length = 4 := by simp; omega
        rw [show (l.take 8).drop 4 = (l.drop 4).take 4 by rw [List.drop_take], text_eq _ _ hx (by intro z hz; simp only [List.mem_cons, List.not_mem_nil, or_false] at hz; omega)]
        have hiff : (l.drop 4).take 4 = [0, 0, 64, 0] ↔ nb 0 ((l.drop 4).take 4) = 16384 := by
          constructor
          · intro h; rw [h]; rfl
          · intro h
            have := By_of_nb 4 _ hxl hx
            rw [h] at this
            rw [← this]; rfl
        by_cases h4 : nb 0 ((l.drop 4).take 4) = 16384
        · have h4' := hiff.2 h4
          rw [decide_eq_true h4']
          simp only [if_true, h4, true_and]
          rw [show (l.take 4).drop 2 = (l.drop 2).take 2 by rw [List.drop_take]]
          have e := impl_take_ev ((l.drop 2).take 2) (fun x hx => hb x (List.mem_of_mem_drop (List.mem_of_mem_take hx))) (by simp; omega)
          refine Ev.bind e ?_
          exact Ev.now _
        · have h4' : ¬ (l.drop 4).take 4 = [0, 0, 64, 0] := fun c => h4 (hiff.1 c)
          rw [decide_eq_false h4']
          simp only [Bool.false_eq_true, if_false, h4, false_and, decide_false]; exact Ev.now _
      · simp only [h2, h3, if_true, if_false, false_and, and_false, decide_false]; exact Ev.now _
    · simp only [h2, if_false, false_and, decide_false]; exact Ev.now _
  · simp only [h1, show ¬ ((20 : Int) ≤ (l.length : Int) ∧ (l.length : Int) ≤ 224) by omega, if_false, false_and, decide_false]; exact Ev.now _
theorem pp_impl (l : List Int) (hb : ∀ x ∈ l, 0 ≤ x ∧ x ≤ 255) (hl : l.length ≤ 1048576) : Ev (fun k => impl_ParsePacket.f k l) (PP l) := by
  unfold impl_ParsePacket.f PP
  refine Ev.bind (head_impl l hb hl) ?_
  simp only [decide_eq_true_eq]
  by_cases h : (20 ≤ l.length ∧ l.length ≤ 224) ∧ rd l 0 = 69 ∧ rd l 1 = 0 ∧ nb 0 ((l.drop 4).take 4) = 16384 ∧ nb 0 ((l.drop 2).take 2) = (l.length : Int)
  · have h1 := h.1
    rw [if_pos h]
    simp only [show (20 : Int) ≤ (l.length : Int) by omega, if_true, if_pos h]
    refine Ev.bind (check_impl (l.take 20) (fun x hx => hb x (List.mem_of_mem_take hx)) (by simp; omega)) ?_
    by_cases h6 : 65535 - fl (As 0 (l.take 20)) = 0
    · simp only [h6, beq_self_eq_true, if_true, show (12 : Int) ≤ 16 by omega, show (16 : Int) ≤ (l.length : Int) by omega, show (16 : Int) ≤ 20 by omega]
      have e1 := impl_take_ev ((l.drop 12).take 4) (fun x hx => hb x (List.mem_of_mem_drop (List.mem_of_mem_take hx))) (by simp; omega)
      have e2 := impl_take_ev ((l.drop 16).take 4) (fun x hx => hb x (List.mem_of_mem_drop (List.mem_of_mem_take hx))) (by simp; omega)
      rw [show (l.take 16).drop 12 = (l.drop 12).take 4 by rw [List.drop_take], show (l.take 20).drop 16 = (l.drop 16).take 4 by rw [List.drop_take]]
      refine Ev.bind e1 (Ev.bind e2 ?_)
      have r8 : 0 ≤ rd l 8 ∧ rd l 8 ≤ 255 := rd_bb hb 8
      have r9 : 0 ≤ rd l 9 ∧ rd l 9 ≤ 255 := rd_bb hb 9
      simp only [show 9 < (l.length : Int) by omega, show 8 < (l.length : Int) by omega, if_true]
      rw [w64' (n := rd l 8) (by omega) (by omega), w64' (n := rd l 9) (by omega) (by omega)]
      have b3 : ∀ a b c t : Int, Ev (fun k => impl_ParsePacket.j0 k (l.drop 20) true a b c t 0 0) (bad 3) := by
        intro a b c t
        refine ev_succ ?_
        simp only [impl_ParsePacket.j0, if_true]; exact Ev.now _
      by_cases h7 : rd l 8 = 0
      · simp only [h7, if_true, true_or]; exact b3 _ _ _ _
      · by_cases h8 : rd l 9 = 0
        · simp only [h7, h8, if_true, if_false, beq_self_eq_true, or_true]; exact b3 _ _ _ _
        · simp only [h7, h8, if_false, or_self, show (rd l 9 == 0) = false by simpa using h8]
          exact pi_body (l.drop 20) (fun x hx => hb x (List.mem_of_mem_drop hx)) (by simp; omega) _ _ _ _
    · simp only [h6, if_false, show (65535 - fl (As 0 (l.take 20)) == 0) = false by simpa using h6, Bool.false_eq_true]; exact Ev.now _
  · rw [if_neg h]
    simp only [if_neg h]; exact Ev.now _
theorem By_head : ∀ (j : Nat) (v : Int), By (j + 1) v = v / 256 ^ j % 256 :: By j v
  | 0, v => by simp [By]
  | j + 1, v => by
    rw [By, By_head j (v / 256), By]
    have : v / 256 / 256 ^ j = v / 256 ^ (j + 1) := by
      rw [Int.ediv_ediv_of_nonneg (by omega), Int.pow_succ, Int.mul_comm]
    rw [this]; rfl
theorem shr8 (v : Int) (j : Nat) (h : j ≤ 7) : 0 ≤ IntKind.u64.wrap (wrap64 (8 * (j : Int))) ∧ shr .i64 v (IntKind.u64.wrap (wrap64 (8 * (j : Int)))) = v / 256 ^ j := by
  have h8 : j = 0 ∨ j = 1 ∨ j = 2 ∨ j = 3 ∨ j = 4 ∨ j = 5 ∨ j = 6 ∨ j = 7 := by omega
  have hw : IntKind.u64.wrap (wrap64 (8 * (j : Int))) = 8 * (j : Int) := by
    rw [w64' (by omega) (by omega)]
    simp [IntKind.wrap, IntKind.signed, IntKind.bits]
    omega
  refine ⟨by omega, ?_⟩
  rw [hw]
  rcases h8 with rfl | rfl | rfl | rfl | rfl | rfl | rfl | rfl <;> rfl
theorem bytes_l0 (v : Int) : ∀ (j k : Nat) (acc : List Int), j < k → j ≤ 8 → acc.length + j ≤ 1000 → spec_l1Bytes.l0 k v acc ((j : Int) - 1) = some (acc ++ By j v)
  | 0, k, acc => by
    intro hk _ _
    obtain ⟨k, rfl⟩ : ∃ m, k = m + 1 := ⟨k - 1, by omega⟩
    simp [spec_l1Bytes.l0, By]
  | j + 1, k, acc => by
    intro hk h8 ha
    obtain ⟨k, rfl⟩ : ∃ m, k = m + 1 := ⟨k - 1, by omega⟩
    have e : (((j + 1 : Nat) : Int) - 1) = (j : Int) := by omega
    have hs := shr8 v j (by omega)
    simp only [spec_l1Bytes.l0]
    rw [e, if_pos (by omega), if_pos hs.1, if_pos (by omega), hs.2, w64' (by omega) (by omega), bytes_l0 v j k _ (by omega) (by omega) (by simp; omega), By_head]
    simp
theorem bytes_ev (v : Int) (j : Nat) (hj : j ≤ 8) : Ev (fun k => spec_l1Bytes.f k v (j : Int)) (By j v) := by
  refine ⟨j + 1, fun k hk => ?_⟩
  unfold spec_l1Bytes.f
  rw [w64' (by omega) (by omega)]
  exact bytes_l0 v j k [] (by omega) hj (by simp; omega)
def prt (c p q : Int) : List Int := if c = 6 ∨ c = 17 then By 2 p ++ By 2 q else []
def hd0 (n t c : Int) : List Int := [69, 0] ++ (By 2 n ++ [0, 0, 64, 0, t % 256, c % 256])
def ends (a b : Int) : List Int := By 4 a ++ By 4 b
def bare (n t c a b : Int) : List Int := hd0 n t c ++ ([0, 0] ++ ends a b)
def sm (n t c a b : Int) : Int := 65535 - fl (As 0 (bare n t c a b))
def bldh (n t c a b : Int) : List Int := hd0 n t c ++ (By 2 (sm n t c a b) ++ ends a b)
def bld (a b c t p q : Int) (d : List Int) : List Int := bldh (20 + ((prt c p q).length : Int) + (d.length : Int)) t c a b ++ (prt c p q ++ d)
theorem prt_length (c p q : Int) : (prt c p q).length ≤ 4 := by unfold prt; split <;> simp [By_length]
theorem hd0_length (n t c : Int) : (hd0 n t c).length = 10 := by simp [hd0, By_length]
theorem ends_length (a b : Int) : (ends a b).length = 8 := by simp [ends, By_length]
theorem bare_length (n t c a b : Int) : (bare n t c a b).length = 20 := by simp [bare, hd0_length, ends_length]
theorem bldh_length (n t c a b : Int) : (bldh n t c a b).length = 20 := by simp [bldh, hd0_length, ends_length, By_length]
theorem bld_length (a b c t p q : Int) (d : List Int) : (bld a b c t p q d).length = 20 + ((prt c p q).length + d.length) := by simp [bld, bldh_length]
def Bt (l : List Int) : Prop := ∀ x ∈ l, 0 ≤ x ∧ x ≤ 255
theorem Bt_app {x y : List Int} (hx : Bt x) (hy : Bt y) : Bt (x ++ y) := fun z hz => (List.mem_append.1 hz).elim (hx z) (hy z)
theorem Bt_cons {x : Int} {y : List Int} (hx : 0 ≤ x ∧ x ≤ 255) (hy : Bt y) : Bt (x :: y) := fun z hz => (List.mem_cons.1 hz).elim (fun e => e ▸ hx) (hy z)
theorem Bt_nil : Bt [] := fun z hz => absurd hz (by simp)
theorem hd0_b (n t c : Int) : Bt (hd0 n t c) := Bt_app (Bt_cons (by omega) (Bt_cons (by omega) Bt_nil)) (Bt_app (By_byte 2 n) (Bt_cons (by omega) (Bt_cons (by omega) (Bt_cons (by omega) (Bt_cons (by omega) (Bt_cons (by omega) (Bt_cons (by omega) Bt_nil)))))))
theorem ends_b (a b : Int) : Bt (ends a b) := Bt_app (By_byte 4 a) (By_byte 4 b)
theorem bare_b (n t c a b : Int) : Bt (bare n t c a b) := Bt_app (hd0_b n t c) (Bt_app (Bt_cons (by omega) (Bt_cons (by omega) Bt_nil)) (ends_b a b))
theorem bldh_b (n t c a b : Int) : Bt (bldh n t c a b) := Bt_app (hd0_b n t c) (Bt_app (By_byte 2 _) (ends_b a b))
theorem prt_b (c p q : Int) : Bt (prt c p q) := by
  unfold prt; split
  · exact Bt_app (By_byte 2 p) (By_byte 2 q)
  · exact Bt_nil
theorem bld_b (a b c t p q : Int) (d : List Int) (hd : Bt d) : Bt (bld a b c t p q d) := Bt_app (bldh_b _ _ _ _ _) (Bt_app (prt_b c p q) hd)
theorem build_impl (a b c t p q : Int) (d : List Int) (hd : d.length ≤ 1000) : Ev (fun k => impl_build.f k a b c t p q d) (bld a b c t p q d) := by
  have body : Ev (fun k => impl_build.j0 k (prt c p q) a b c t p q d) (bld a b c t p q d) := by
    refine ev_succ ?_
    have hp := prt_length c p q
    simp only [impl_build.j0]
    rw [w64' (n := 20 + ((prt c p q).length : Int)) (by omega) (by omega), w64' (n := 20 + ((prt c p q).length : Int) + (d.length : Int)) (by omega) (by omega)]
    refine Ev.bind (put_ev (20 + ((prt c p q).length : Int) + (d.length : Int)) 2 (by omega)) (Ev.bind (put_ev a 4 (by omega)) (Ev.bind (put_ev b 4 (by omega)) ?_))
    unfold bld
    generalize 20 + ((prt c p q).length : Int) + (d.length : Int) = n
    have e : ([[69, 0], By 2 n, [0, 0, 64, 0, t % 256, c % 256, 0, 0], By 4 a, By 4 b] : List (List Int)).flatten = bare n t c a b := by
      simp [bare, hd0, ends]
    simp only [slices_Concat_byte_byte.f, e, bare_length, show 20 * 1 ≤ 140737488355328 by omega, if_true, Option.bind_some]
    refine Ev.bind (sum_impl (bare n t c a b) (bare_b n t c a b) (by rw [bare_length]; omega)) (Ev.bind (put_ev (65535 - fl (As 0 (bare n t c a b))) 2 (by omega)) ?_)
    simp only [By_length, and_self, if_true]
    have e2 : splice (bare n t c a b) 10 (By 2 (65535 - fl (As 0 (bare n t c a b)))) = bldh n t c a b := by
      unfold splice bldh sm
      rw [By_length]
      have h1 : (bare n t c a b).take 10 = hd0 n t c := by
        rw [bare, List.take_left' (hd0_length n t c)]
      have h2 : (bare n t c a b).drop (10 + 2) = ends a b := by
        rw [← List.drop_drop, bare, List.drop_left' (hd0_length n t c)]; rfl
      rw [h1, h2]
    have e3 : ([bldh n t c a b, prt c p q, d] : List (List Int)).flatten = bldh n t c a b ++ (prt c p q ++ d) := by simp
    rw [e2, e3, if_pos (by simp [bldh_length]; omega)]
    exact Ev.now _
  unfold impl_build.f
  simp only [ports_impl, Option.bind_some, decide_eq_true_eq]
  by_cases h : c = 6 ∨ c = 17
  · simp only [h, if_true]
    refine Ev.bind (put_ev p 2 (by omega)) (Ev.bind (put_ev q 2 (by omega)) ?_)
    have e : ([By 2 p, By 2 q] : List (List Int)).flatten = prt c p q := by simp [prt, h]
    have hl := prt_length c p q
    simp only [slices_Concat_byte_byte.f, e, show (prt c p q).length * 1 ≤ 140737488355328 by omega, if_true, Option.bind_some]
    exact body
  · simp only [h, if_false]
    have e : prt c p q = [] := by simp [prt, h]
    rw [e] at body; exact body
theorem build_spec (a b c t p q : Int) (d : List Int) (hd : d.length ≤ 1000) : Ev (fun k => spec_l2Build.f k a b c t p q d) (bld a b c t p q d) := by
  have body : Ev (fun k => spec_l2Build.j0 k (prt c p q ++ d) a b c t p q d) (bld a b c t p q d) := by
    refine ev_succ ?_
    have hp := prt_length c p q
    simp only [spec_l2Build.j0, Option.bind_some]
    have e0 : 20 + ((prt c p q ++ d).length : Int) = 20 + ((prt c p q).length : Int) + (d.length : Int) := by simp; omega
    rw [e0, w64' (n := 20 + ((prt c p q).length : Int) + (d.length : Int)) (by omega) (by omega)]
    refine Ev.bind (bytes_ev (20 + ((prt c p q).length : Int) + (d.length : Int)) 2 (by omega)) ?_
    unfold bld
    generalize 20 + ((prt c p q).length : Int) + (d.length : Int) = n
    simp only [By_length, List.length_append, List.length_cons, List.length_nil, show 0 + 1 + 1 + 2 < 140737488355328 by omega, show 0 + 1 + 1 + 2 + (0 + 1 + 1 + 1 + 1 + 1 + 1) < 140737488355328 by omega, if_true]
    refine Ev.bind (bytes_ev a 4 (by omega)) (Ev.bind (bytes_ev b 4 (by omega)) ?_)
    have eh : [69, 0] ++ By 2 n ++ [0, 0, 64, 0, t % 256, c % 256] = hd0 n t c := by simp [hd0]
    have ee : By 4 a ++ By 4 b = ends a b := rfl
    have eb : [] ++ hd0 n t c ++ [0, 0] ++ ends a b = bare n t c a b := by simp [bare]
    simp only [By_length, show 4 + 4 < 140737488355328 by omega, if_true, eh, ee, List.length_nil, List.length_append, List.length_cons, hd0_length, ends_length, show 0 + 10 < 140737488355328 by omega, show 0 + 10 + (0 + 1 + 1) < 140737488355328 by omega, show 0 + 10 + (0 + 1 + 1) + 8 < 140737488355328 by omega, eb]
    refine Ev.bind (sum_spec (bare n t c a b) (bare_b n t c a b) (by rw [bare_length]; omega)) (Ev.bind (bytes_ev (65535 - fl (As 0 (bare n t c a b))) 2 (by omega)) ?_)
    simp only [By_length, show 0 + 10 + 2 < 140737488355328 by omega, if_true, show 0 + 10 + 2 + 8 < 140737488355328 by omega]
    simp only [show 0 + 10 + 2 + 8 + ((prt c p q).length + d.length) < 140737488355328 by omega, if_true]
    have ez : [] ++ hd0 n t c ++ By 2 (65535 - fl (As 0 (bare n t c a b))) ++ ends a b ++ (prt c p q ++ d) = bldh n t c a b ++ (prt c p q ++ d) := by simp [bldh, sm]
    rw [ez]
    exact Ev.now _
  unfold spec_l2Build.f
  simp only [ports_spec, Option.bind_some, decide_eq_true_eq, List.length_nil, List.nil_append, show 0 + d.length < 140737488355328 by omega, if_true]
  by_cases h : c = 6 ∨ c = 17
  · simp only [h, if_true]
    refine Ev.bind (bytes_ev p 2 (by omega)) (Ev.bind (bytes_ev q 2 (by omega)) ?_)
    have e : By 2 p ++ By 2 q = prt c p q := by simp [prt, h]
    have hl := prt_length c p q
    simp only [By_length, show 2 + 2 < 140737488355328 by omega, if_true, e]
    simp only [show (prt c p q).length + d.length < 140737488355328 by omega, if_true]
    exact body
  · simp only [h, if_false]
    have e : prt c p q = [] := by simp [prt, h]
    rw [e] at body; exact body
def Rt (a b c t p q : Int) (d : List Int) : Prop := (0 ≤ a ∧ a ≤ 4294967295) ∧ (0 ≤ b ∧ b ≤ 4294967295) ∧ (1 ≤ c ∧ c ≤ 255) ∧ (1 ≤ t ∧ t ≤ 255) ∧ (0 ≤ p ∧ p ≤ 65535) ∧ (0 ≤ q ∧ q ≤ 65535) ∧ (¬ (c = 6 ∨ c = 17) → p = 0 ∧ q = 0) ∧ d.length ≤ 200 ∧ Bt d
theorem As_app : ∀ (x y : List Int) (i : Nat), As i (x ++ y) = As i x + As (i + x.length) y
  | [], y, i => by simp [As]
  | z :: x, y, i => by
    simp only [List.cons_append, As, List.length_cons, As_app x y (i + 1), show i + 1 + x.length = i + (x.length + 1) by omega]
    omega
theorem As_by2 (v : Int) (h0 : 0 ≤ v) (h1 : v ≤ 65535) : As 10 (By 2 v) = v := by
  simp [As, By]; omega
theorem sm_b (n t c a b : Int) : 0 ≤ sm n t c a b ∧ sm n t c a b ≤ 65535 := by
  have h := As_nonneg (bare n t c a b) 0 (bare_b n t c a b)
  have := fl_b h.1
  unfold sm; omega
theorem check_bldh (n t c a b : Int) : 65535 - fl (As 0 (bldh n t c a b)) = 0 := by
  have hs := sm_b n t c a b
  have hb := As_nonneg (bare n t c a b) 0 (bare_b n t c a b)
  have e1 : As 0 (bldh n t c a b) = As 0 (bare n t c a b) + sm n t c a b := by
    have ez : As 10 ([0, 0] : List Int) = 0 := by simp [As]
    unfold bldh bare
    have g1 := As_app (hd0 n t c) (By 2 (sm n t c a b) ++ ends a b) 0
    have g2 := As_app (By 2 (sm n t c a b)) (ends a b) 10
    have g3 := As_app (hd0 n t c) ([0, 0] ++ ends a b) 0
    have g4 := As_app ([0, 0] : List Int) (ends a b) 10
    rw [hd0_length] at g1 g3
    rw [By_length, As_by2 _ hs.1 hs.2] at g2
    rw [ez] at g4
    have u1 : As 0 (bldh n t c a b) = As 0 (hd0 n t c ++ (By 2 (sm n t c a b) ++ ends a b)) := rfl
    have u2 : As 0 (bare n t c a b) = As 0 (hd0 n t c ++ ([0, 0] ++ ends a b)) := rfl
    simp only [List.length_cons, List.length_nil, Nat.reduceAdd] at g1 g2 g3 g4
    omega
  have e2 : As 0 (hd0 n t c) ≥ 256 * 69 := by
    have h := As_nonneg (By 2 n ++ [0, 0, 64, 0, t % 256, c % 256]) 2 (Bt_app (By_byte 2 n) (Bt_cons (by omega) (Bt_cons (by omega) (Bt_cons (by omega) (Bt_cons (by omega) (Bt_cons (by omega) (Bt_cons (by omega) Bt_nil)))))))
    have : As 0 (hd0 n t c) = 256 * 69 + (0 + As 2 (By 2 n ++ [0, 0, 64, 0, t % 256, c % 256])) := rfl
    omega
  have e3 : 0 < As 0 (bare n t c a b) := by
    have h := As_nonneg ([0, 0] ++ ends a b) (0 + (hd0 n t c).length) (Bt_app (Bt_cons (by omega) (Bt_cons (by omega) Bt_nil)) (ends_b a b))
    have : As 0 (bare n t c a b) = As 0 (hd0 n t c) + As (0 + (hd0 n t c).length) ([0, 0] ++ ends a b) := As_app _ _ _
    omega
  rw [e1]
  unfold sm at hs ⊢
  have e4 : fl (As 0 (bare n t c a b)) = (As 0 (bare n t c a b) - 1) % 65535 + 1 := by unfold fl; rw [if_neg (by omega)]
  rw [e4]
  generalize As 0 (bare n t c a b) = S at *
  unfold fl
  rw [if_neg (by omega)]
  omega
theorem PB_tail (a b c t p q : Int) (d : List Int) (h : Rt a b c t p q d) : PB a b c t (prt c p q ++ d) = (0, a, b, c, t, p, q, d) := by
  obtain ⟨_, _, _, _, hp, hq, h0, hd, _⟩ := h
  unfold PB
  by_cases hc : c = 6 ∨ c = 17
  · have e : prt c p q = By 2 p ++ By 2 q := by simp [prt, hc]
    have e4 : (prt c p q).length = 4 := by rw [e]; simp [By_length]
    have d4 : (prt c p q ++ d).drop 4 = d := List.drop_left' e4
    have t2 : (prt c p q ++ d).take 2 = By 2 p := by rw [e, List.append_assoc, List.take_left' (By_length 2 p)]
    have d2 : ((prt c p q ++ d).drop 2).take 2 = By 2 q := by rw [e, List.append_assoc, List.drop_left' (By_length 2 p), List.take_left' (By_length 2 q)]
    rw [if_pos hc, if_neg (by simp [e4]), d4, if_neg (by omega), t2, d2, By_nb 2 p hp.1 (by omega), By_nb 2 q hq.1 (by omega)]
  · have e : prt c p q = [] := by simp [prt, hc]
    obtain ⟨rfl, rfl⟩ := h0 hc
    rw [if_neg hc, e, List.nil_append, if_neg (by omega)]
theorem PP_bld (a b c t p q : Int) (d : List Int) (h : Rt a b c t p q d) : PP (bld a b c t p q d) = (0, a, b, c, t, p, q, d) := by
  have ht := PB_tail a b c t p q d h
  obtain ⟨ha, hb, hc, htt, hp, hq, h0, hd, hbd⟩ := h
  have hl := bld_length a b c t p q d
  have hpl := prt_length c p q
  have hn : ((bld a b c t p q d).length : Int) = 20 + ((prt c p q).length : Int) + (d.length : Int) := by omega
  have e20 : (bld a b c t p q d).take 20 = bldh (20 + ((prt c p q).length : Int) + (d.length : Int)) t c a b := List.take_left' (bldh_length _ _ _ _ _)
  have d20 : (bld a b c t p q d).drop 20 = prt c p q ++ d := List.drop_left' (bldh_length _ _ _ _ _)
  have eb : bld a b c t p q d = [69, 0] ++ (By 2 (20 + ((prt c p q).length : Int) + (d.length : Int)) ++ ([0, 0, 64, 0] ++ ([t % 256, c % 256] ++ (By 2 (sm (20 + ((prt c p q).length : Int) + (d.length : Int)) t c a b) ++ (By 4 a ++ (By 4 b ++ (prt c p q ++ d))))))) := by
    simp [bld, bldh, hd0, ends]
  have r0 : rd (bld a b c t p q d) 0 = 69 := by rw [eb]; rfl
  have r1 : rd (bld a b c t p q d) 1 = 0 := by rw [eb]; rfl
  have r8 : rd (bld a b c t p q d) 8 = t := by
    rw [eb]
    show (t % 256 : Int) = t
    omega
  have r9 : rd (bld a b c t p q d) 9 = c := by
    rw [eb]
    show (c % 256 : Int) = c
    omega
  have d2 : (bld a b c t p q d).drop 2 = By 2 (20 + ((prt c p q).length : Int) + (d.length : Int)) ++ ([0, 0, 64, 0] ++ ([t % 256, c % 256] ++ (By 2 (sm (20 + ((prt c p q).length : Int) + (d.length : Int)) t c a b) ++ (By 4 a ++ (By 4 b ++ (prt c p q ++ d)))))) := by rw [eb]; rfl
  have d4 : (bld a b c t p q d).drop 4 = [0, 0, 64, 0] ++ ([t % 256, c % 256] ++ (By 2 (sm (20 + ((prt c p q).length : Int) + (d.length : Int)) t c a b) ++ (By 4 a ++ (By 4 b ++ (prt c p q ++ d))))) := by
    rw [show (4 : Nat) = 2 + 2 from rfl, ← List.drop_drop, d2, List.drop_left' (By_length 2 _)]
  have d12 : (bld a b c t p q d).drop 12 = By 4 a ++ (By 4 b ++ (prt c p q ++ d)) := by
    rw [show (12 : Nat) = 4 + 6 + 2 from rfl, ← List.drop_drop, ← List.drop_drop, d4]
    show List.drop 2 (By 2 (sm (20 + ((prt c p q).length : Int) + (d.length : Int)) t c a b) ++ (By 4 a ++ (By 4 b ++ (prt c p q ++ d)))) = _
    rw [List.drop_left' (By_length 2 _)]
  have d16 : (bld a b c t p q d).drop 16 = By 4 b ++ (prt c p q ++ d) := by
    rw [show (16 : Nat) = 12 + 4 from rfl, ← List.drop_drop, d12, List.drop_left' (By_length 4 a)]
  have n4 : nb 0 (((bld a b c t p q d).drop 4).take 4) = 16384 := by rw [d4]; rfl
  have n2 : nb 0 (((bld a b c t p q d).drop 2).take 2) = ((bld a b c t p q d).length : Int) := by
    rw [d2, List.take_left' (By_length 2 _), By_nb 2 _ (by omega) (by omega), hn]
  have n12 : nb 0 (((bld a b c t p q d).drop 12).take 4) = a := by rw [d12, List.take_left' (By_length 4 _), By_nb 4 _ ha.1 (by omega)]
  have n16 : nb 0 (((bld a b c t p q d).drop 16).take 4) = b := by rw [d16, List.take_left' (By_length 4 _), By_nb 4 _ hb.1 (by omega)]
  unfold PP
  rw [if_pos ⟨⟨by omega, by omega⟩, r0, r1, n4, n2⟩, e20, if_pos (check_bldh _ _ _ _ _), r8, r9, if_neg (by omega), n12, n16, d20, ht]
theorem nb_b4 {x : List Int} (hx : Bt x) (hl : x.length ≤ 4) : 0 ≤ nb 0 x ∧ nb 0 x ≤ 4294967295 := by
  have h := nb_bound x hx 0 (by omega)
  have hq : x.length = 0 ∨ x.length = 1 ∨ x.length = 2 ∨ x.length = 3 ∨ x.length = 4 := by omega
  rcases hq with e | e | e | e | e <;> rw [e] at h <;> omega
theorem nb_b2 {x : List Int} (hx : Bt x) (hl : x.length ≤ 2) : 0 ≤ nb 0 x ∧ nb 0 x ≤ 65535 := by
  have h := nb_bound x hx 0 (by omega)
  have hq : x.length = 0 ∨ x.length = 1 ∨ x.length = 2 := by omega
  rcases hq with e | e | e <;> rw [e] at h <;> omega
def RtP (r : Pk) : Prop := Rt r.2.1 r.2.2.1 r.2.2.2.1 r.2.2.2.2.1 r.2.2.2.2.2.1 r.2.2.2.2.2.2.1 r.2.2.2.2.2.2.2
theorem PP_right (l : List Int) (hb : Bt l) (h : (PP l).1 = 0) : RtP (PP l) := by
  have r8 : 0 ≤ rd l 8 ∧ rd l 8 ≤ 255 := rd_bb hb 8
  have r9 : 0 ≤ rd l 9 ∧ rd l 9 ≤ 255 := rd_bb hb 9
  have hp : Bt (l.drop 20) := fun x hx => hb x (List.mem_of_mem_drop hx)
  have n12 : 0 ≤ nb 0 ((l.drop 12).take 4) ∧ nb 0 ((l.drop 12).take 4) ≤ 4294967295 := nb_b4 (fun x hx => hb x (List.mem_of_mem_drop (List.mem_of_mem_take hx))) (by simp; omega)
  have n16 : 0 ≤ nb 0 ((l.drop 16).take 4) ∧ nb 0 ((l.drop 16).take 4) ≤ 4294967295 := nb_b4 (fun x hx => hb x (List.mem_of_mem_drop (List.mem_of_mem_take hx))) (by simp; omega)
  unfold PP at h ⊢
  split at h
  · rename_i c1
    rw [if_pos c1]
    split at h
    · rename_i c2
      rw [if_pos c2]
      split at h
      · simp [bad] at h
      · rename_i c3
        rw [if_neg c3]
        generalize nb 0 ((l.drop 12).take 4) = a at *
        generalize nb 0 ((l.drop 16).take 4) = b at *
        generalize rd l 9 = c at *
        generalize rd l 8 = t at *
        generalize l.drop 20 = e at *
        unfold PB at h ⊢
        split at h
        · rename_i hc
          rw [if_pos hc]
          split at h
          · simp [bad] at h
          · rename_i h4
            rw [if_neg h4]
            split at h
            · simp [bad] at h
            · rename_i h5
              rw [if_neg h5]
              have m1 : 0 ≤ nb 0 (e.take 2) ∧ nb 0 (e.take 2) ≤ 65535 := nb_b2 (fun x hx => hp x (List.mem_of_mem_take hx)) (by simp; omega)
              have m2 : 0 ≤ nb 0 ((e.drop 2).take 2) ∧ nb 0 ((e.drop 2).take 2) ≤ 65535 := nb_b2 (fun x hx => hp x (List.mem_of_mem_drop (List.mem_of_mem_take hx))) (by simp; omega)
              exact ⟨n12, n16, ⟨by show 1 ≤ c; omega, r9.2⟩, ⟨by show 1 ≤ t; omega, r8.2⟩, m1, m2, fun hx => absurd hc hx, by show (e.drop 4).length ≤ 200; omega, fun x hx => hp x (List.mem_of_mem_drop hx)⟩
        · rename_i hc
          rw [if_neg hc]
          split at h
          · simp [bad] at h
          · rename_i h5
            rw [if_neg h5]
            exact ⟨n12, n16, ⟨by show 1 ≤ c; omega, r9.2⟩, ⟨by show 1 ≤ t; omega, r8.2⟩, ⟨Int.le_refl 0, by show (0 : Int) ≤ 65535; omega⟩, ⟨Int.le_refl 0, by show (0 : Int) ≤ 65535; omega⟩, fun _ => ⟨rfl, rfl⟩, by show e.length ≤ 200; omega, hp⟩
    · simp [bad] at h
  · simp [bad] at h
theorem draw_addr (l : List Int) (hb : Bt l) (hl : l.length ≤ 1048576) (s : Int) (s0 : 0 ≤ s) (s1 : s ≤ 1000) : ∃ a, spec_l2DrawAddress.f l s = some (a, s + 1 + 1 + 1 + 1) ∧ 0 ≤ a ∧ a ≤ 4294967295 := by
  obtain ⟨x, ex, x0, x1⟩ := next_ok l hb hl s 6 s0 (by omega) (by omega)
  obtain ⟨y, ey, y0, y1⟩ := next_ok l hb hl (s + 1) 6 (by omega) (by omega) (by omega)
  obtain ⟨z, ez, z0, z1⟩ := next_ok l hb hl (s + 1 + 1) 4 (by omega) (by omega) (by omega)
  obtain ⟨v, hv, ev⟩ := pick_ok l hb hl (s + 1 + 1 + 1) [wrap64 (167772160 + x), wrap64 (167772160 + y), wrap64 (167838000 + z), 0, 4294967295] (by omega) (by omega) (by simp)
  refine ⟨v, ?_, ?_⟩
  · unfold spec_l2DrawAddress.f
    simp only [ex, ey, ez, ev, Option.bind_some]
  · simp only [List.mem_cons, List.not_mem_nil, or_false] at hv
    rw [w64d (n := 167772160 + x) (by omega) (by omega), w64d (n := 167772160 + y) (by omega) (by omega), w64d (n := 167838000 + z) (by omega) (by omega)] at hv
    omega
theorem draw_packet (l : List Int) (hb : Bt l) (hl : l.length ≤ 1048576) (s : Int) (s0 : 0 ≤ s) (s1 : s ≤ 100) : ∃ a b c t p q d s', Ev (fun k => spec_l2Packet.f k l s) (a, b, c, t, p, q, d, s') ∧ Rt a b c t p q d ∧ 0 ≤ s' ∧ s' ≤ 3000 := by
  obtain ⟨a, ea, a0, a1⟩ := draw_addr l hb hl s s0 (by omega)
  obtain ⟨b, eb, b0, b1⟩ := draw_addr l hb hl (s + 1 + 1 + 1 + 1) (by omega) (by omega)
  obtain ⟨c, hc, ec⟩ := pick_ok l hb hl (s + 1 + 1 + 1 + 1 + 1 + 1 + 1 + 1) [6, 17, 6, 17, 1, 50] (by omega) (by omega) (by simp)
  obtain ⟨t, ht, et⟩ := pick_ok l hb hl (s + 1 + 1 + 1 + 1 + 1 + 1 + 1 + 1 + 1) [64, 1, 2, 255] (by omega) (by omega) (by simp)
  obtain ⟨n, en, n0, n1⟩ := next_ok l hb hl (s + 1 + 1 + 1 + 1 + 1 + 1 + 1 + 1 + 1 + 1) 9 (by omega) (by omega) (by omega)
  obtain ⟨d, ed, db, dl, q0, q1⟩ := some_ok l hb hl (s + 1 + 1 + 1 + 1 + 1 + 1 + 1 + 1 + 1 + 1 + 1) n n0 (by omega) (by omega) (by omega)
  have hc' : 1 ≤ c ∧ c ≤ 255 := by
    simp only [List.mem_cons, List.not_mem_nil, or_false] at hc; omega
  have ht' : 1 ≤ t ∧ t ≤ 255 := by
    simp only [List.mem_cons, List.not_mem_nil, or_false] at ht; omega
  by_cases h : c = 6 ∨ c = 17
  · obtain ⟨x, ex, x0, x1⟩ := next_ok l hb hl d.2 65536 q0 (by omega) (by omega)
    obtain ⟨p, hp, ep⟩ := pick_ok l hb hl (d.2 + 1) [80, 443, x, 0] (by omega) (by omega) (by simp)
    obtain ⟨y, ey, y0, y1⟩ := next_ok l hb hl (d.2 + 1 + 1) 65536 (by omega) (by omega) (by omega)
    obtain ⟨q, hq, eq⟩ := pick_ok l hb hl (d.2 + 1 + 1 + 1) [80, 443, y, 22] (by omega) (by omega) (by simp)
    refine ⟨a, b, c, t, p, q, d.1, d.2 + 1 + 1 + 1 + 1, ?_, ⟨⟨a0, a1⟩, ⟨b0, b1⟩, hc', ht', ?_, ?_, fun hx => absurd h hx, by omega, db⟩, by omega, by omega⟩
    · unfold spec_l2Packet.f
      simp only [ea, eb, ec, et, en, Option.bind_some]
      refine Ev.bind ed ?_
      simp only [ports_spec, Option.bind_some, decide_eq_true_eq, h, if_true, ex, ep, ey, eq]
      exact Ev.now _
    · simp only [List.mem_cons, List.not_mem_nil, or_false] at hp; omega
    · simp only [List.mem_cons, List.not_mem_nil, or_false] at hq; omega
  · refine ⟨a, b, c, t, 0, 0, d.1, d.2, ?_, ⟨⟨a0, a1⟩, ⟨b0, b1⟩, hc', ht', by omega, by omega, fun _ => ⟨rfl, rfl⟩, by omega, db⟩, by omega, by omega⟩
    unfold spec_l2Packet.f
    simp only [ea, eb, ec, et, en, Option.bind_some]
    refine Ev.bind ed ?_
    simp only [ports_spec, Option.bind_some, decide_eq_true_eq, h, if_false]
    exact Ev.now _
theorem Bt_set {x : List Int} (hx : Bt x) (i : Nat) (v : Int) : Bt (x.set i (v % 256)) := by
  intro z hz
  rcases List.mem_or_eq_of_mem_set hz with h | rfl
  · exact hx z h
  · omega
theorem Bt_set0 {x : List Int} (hx : Bt x) (i : Nat) : Bt (x.set i 0) := Bt_set hx i 0
theorem wire_body (l : List Int) (hb : Bt l) (hl : l.length ≤ 1048576) (s a b c t p q : Int) (d : List Int) (hR : Rt a b c t p q d) (s0 : 0 ≤ s) (s1 : s ≤ 4000) :
    ∃ r s', Ev (fun k => spec_l2Wire.j0 k l s a b c t p q d) (r, s') ∧ Bt r ∧ r.length ≤ 1000 := by
  have hbl := bld_length a b c t p q d
  have hpl := prt_length c p q
  obtain ⟨ha, hbb, hc, htt, hp, hq, h0, hd, hbd⟩ := hR
  have hB := bld_b a b c t p q d hbd
  have hsp := build_spec a b c t p q d (by omega)
  generalize bld a b c t p q d = e at hbl hB hsp
  obtain ⟨x, ex, x0, x1⟩ := next_ok l hb hl s 3 s0 (by omega) (by omega)
  by_cases hx : (x == 0) = true
  · obtain ⟨i, ei, i0, i1⟩ := next_ok l hb hl (s + 1) (e.length : Int) (by omega) (by omega) (by omega)
    obtain ⟨y, ey, y0, y1⟩ := next_ok l hb hl (s + 1 + 1) 6 (by omega) (by omega) (by omega)
    have pre : ∀ r s', Ev (fun k => (if y = 0 then ((spec_l1Next.f l (s + 1 + 1 + 1) 256).bind fun bt817 => (if 0 ≤ i then (if i < (e.length : Int) then (some ((e.set (i : Int).toNat ((bt817.1) % 256)), bt817.2)) else (none)) else (none))) else (if y = 1 then (if 0 ≤ i then (if i ≤ (e.length : Int) then (some ((e.take (i : Int).toNat), s + 1 + 1 + 1)) else (none)) else (none)) else (if y = 2 then (if e.length < 140737488355328 then (some ((e ++ [0]), s + 1 + 1 + 1)) else (none)) else (if y = 3 then ((spec_l1Next.f l (s + 1 + 1 + 1) 10).bind fun bt826 => ((spec_l1Next.f l bt826.2 3).bind fun bt828 => (if 0 ≤ bt826.1 then (if bt826.1 < (e.length : Int) then (if 10 < (e.length : Int) then (if 11 < (e.length : Int) then ((some (((e.set (bt826.1 : Int).toNat ((bt828.1) % 256)).set (10 : Int).toNat 0).set (11 : Int).toNat 0 : List Int)).bind fun y832 => (if 20 ≤ (e.length : Int) then ((spec_SumWords.f k (y832.take 20)).bind fun t837 => (some (((y832.set (10 : Int).toNat ((wrap64 (Int.tdiv t837 256)) % 256)).set (11 : Int).toNat ((Int.tmod t837 256) % 256)), bt828.2))) else (none))) else (none)) else (none)) else (none)) else (none)))) else (if y = 4 then (if e.length + 200 < 140737488355328 then (some ((e ++ List.replicate 200 0), s + 1 + 1 + 1)) else (none)) else (some (e, s + 1 + 1 + 1)))))) : Option (List Int × Int))) (r, s') → Ev (fun k => spec_l2Wire.j0 k l s a b c t p q d) (r, s') := by
      intro r s' h
      refine ev_succ ?_
      simp only [spec_l2Wire.j0]
      refine Ev.bind hsp ?_
      simp only [spec_l1Chance.f, ex, hx, ei, ey, Option.bind_some, if_true]
      exact h
    by_cases y0' : y = 0
    · obtain ⟨v, ev, v0, v1⟩ := next_ok l hb hl (s + 1 + 1 + 1) 256 (by omega) (by omega) (by omega)
      refine ⟨e.set i.toNat (v % 256), s + 1 + 1 + 1 + 1, pre _ _ ?_, Bt_set hB _ _, by simp; omega⟩
      simp only [y0', if_true, ev, Option.bind_some, i0, i1]; exact Ev.now _
    · by_cases y1' : y = 1
      · refine ⟨e.take i.toNat, s + 1 + 1 + 1, pre _ _ ?_, fun z hz => hB z (List.mem_of_mem_take hz), by simp; omega⟩
        simp only [y1', show ¬ (1 : Int) = 0 by omega, if_true, if_false, i0, show i ≤ (e.length : Int) by omega]; exact Ev.now _
      · by_cases y2' : y = 2
        · refine ⟨e ++ [0], s + 1 + 1 + 1, pre _ _ ?_, Bt_app hB (Bt_cons (by omega) Bt_nil), by simp; omega⟩
          simp only [y2', show ¬ (2 : Int) = 0 by omega, show ¬ (2 : Int) = 1 by omega, if_true, if_false, show e.length < 140737488355328 by omega]; exact Ev.now _
        · by_cases y3' : y = 3
          · obtain ⟨v, ev, v0, v1⟩ := next_ok l hb hl (s + 1 + 1 + 1) 10 (by omega) (by omega) (by omega)
            obtain ⟨w, ew, w0, w1⟩ := next_ok l hb hl (s + 1 + 1 + 1 + 1) 3 (by omega) (by omega) (by omega)
            have hB3 : Bt (((e.set v.toNat (w % 256)).set (10 : Int).toNat 0).set (11 : Int).toNat 0) := Bt_set0 (Bt_set0 (Bt_set hB _ _) _) _
            have hl3 : (((e.set v.toNat (w % 256)).set (10 : Int).toNat 0).set (11 : Int).toNat 0).length = e.length := by simp
            have hsum := sum_spec ((((e.set v.toNat (w % 256)).set (10 : Int).toNat 0).set (11 : Int).toNat 0).take 20) (fun z hz => hB3 z (List.mem_of_mem_take hz)) (by rw [List.length_take]; omega)
            generalize 65535 - fl (As 0 ((((e.set v.toNat (w % 256)).set (10 : Int).toNat 0).set (11 : Int).toNat 0).take 20)) = g at hsum
            refine ⟨((((e.set v.toNat (w % 256)).set (10 : Int).toNat 0).set (11 : Int).toNat 0).set (10 : Int).toNat ((wrap64 (Int.tdiv g 256)) % 256)).set (11 : Int).toNat ((Int.tmod g 256) % 256), s + 1 + 1 + 1 + 1 + 1, pre _ _ ?_, Bt_set (Bt_set hB3 _ _) _ _, by simp; omega⟩
            simp only [y3', show ¬ (3 : Int) = 0 by omega, show ¬ (3 : Int) = 1 by omega, show ¬ (3 : Int) = 2 by omega, if_true, if_false, ev, ew, Option.bind_some, v0, show v < (e.length : Int) by omega, show 10 < (e.length : Int) by omega, show 11 < (e.length : Int) by omega, show 20 ≤ (e.length : Int) by omega]
            refine Ev.bind hsum ?_
            exact Ev.now _
          · by_cases y4' : y = 4
            · refine ⟨e ++ List.replicate 200 0, s + 1 + 1 + 1, pre _ _ ?_, Bt_app hB (fun z hz => by rw [List.eq_of_mem_replicate hz]; omega), by rw [List.length_append, List.length_replicate]; omega⟩
              simp only [y4', show ¬ (4 : Int) = 0 by omega, show ¬ (4 : Int) = 1 by omega, show ¬ (4 : Int) = 2 by omega, show ¬ (4 : Int) = 3 by omega, if_true, if_false, show e.length + 200 < 140737488355328 by omega]; exact Ev.now _
            · refine ⟨e, s + 1 + 1 + 1, pre _ _ ?_, hB, by omega⟩
              simp only [y0', y1', y2', y3', y4', if_false]; exact Ev.now _
  · refine ⟨e, s + 1, ?_, hB, by omega⟩
    refine ev_succ ?_
    simp only [spec_l2Wire.j0]
    refine Ev.bind hsp ?_
    simp only [spec_l1Chance.f, ex, hx, Option.bind_some, if_false]
    exact Ev.now _
theorem draw_wire (l : List Int) (hb : Bt l) (hl : l.length ≤ 1048576) (s : Int) (s0 : 0 ≤ s) (s1 : s ≤ 100) : ∃ r s', Ev (fun k => spec_l2Wire.f k l s) (r, s') ∧ Bt r ∧ r.length ≤ 1000 := by
  obtain ⟨a, b, c, t, p, q, d, s', he, hR, h0, h1⟩ := draw_packet l hb hl s s0 s1
  obtain ⟨x, ex, x0, x1⟩ := next_ok l hb hl s' 20 (by omega) (by omega) (by omega)
  have hR2 : Rt a b c t p q (List.replicate 200 0) := by
    obtain ⟨ha, hbb, hc, htt, hp, hq, h0, hd, hbd⟩ := hR
    exact ⟨ha, hbb, hc, htt, hp, hq, h0, by rw [List.length_replicate]; omega, fun z hz => by rw [List.eq_of_mem_replicate hz]; omega⟩
  by_cases hx : (x == 0) = true
  · obtain ⟨r, s2, er, h⟩ := wire_body l hb hl (s' + 1) a b c t p q _ hR2 (by omega) (by omega)
    refine ⟨r, s2, ?_, h⟩
    unfold spec_l2Wire.f
    refine Ev.bind he ?_
    simp only [spec_l1Chance.f, ex, hx, Option.bind_some, if_true, show (200 : Nat) ≤ 281474976710656 by omega]
    exact er
  · obtain ⟨r, s2, er, h⟩ := wire_body l hb hl (s' + 1) a b c t p q d hR (by omega) (by omega)
    refine ⟨r, s2, ?_, h⟩
    unfold spec_l2Wire.f
    refine Ev.bind he ?_
    simp only [spec_l1Chance.f, ex, hx, Option.bind_some, if_false]
    exact er
theorem same_ok (a b c t p q : Int) (d : List Int) (hd : Bt d) : impl_SamePacket.f a b c t p q d a b c t p q d = some true := by
  unfold impl_SamePacket.f
  simp only [if_true, bytes_Equal.f, text_eq d d hd hd, decide_true, Option.bind_some]
def PF (a b c t p q : Int) (n : Int) : Int :=
  if (0 ≤ a ∧ a ≤ 4294967295) ∧ (0 ≤ b ∧ b ≤ 4294967295) ∧ (1 ≤ c ∧ c ≤ 255) ∧ (1 ≤ t ∧ t ≤ 255) ∧ (0 ≤ p ∧ p ≤ 65535) ∧ (0 ≤ q ∧ q ≤ 65535) then
    (if ¬ (c = 6 ∨ c = 17) ∧ ¬ (p = 0 ∧ q = 0) then 1 else if n > 200 then 2 else 0)
  else 3
theorem PF_zero {a b c t p q : Int} {d : List Int} (hd : Bt d) : PF a b c t p q (d.length : Int) = 0 ↔ Rt a b c t p q d := by
  unfold PF Rt
  constructor
  · intro h
    split at h
    · rename_i h1
      obtain ⟨h1, h2, h3, h4, h5, h6⟩ := h1
      split at h
      · omega
      · rename_i h7
        split at h
        · omega
        · refine ⟨h1, h2, h3, h4, h5, h6, fun hc => ?_, by omega, hd⟩
          by_cases h8 : p = 0 ∧ q = 0
          · exact h8
          · exact absurd ⟨hc, h8⟩ h7
    · omega
  · rintro ⟨h1, h2, h3, h4, h5, h6, h7, h8, _⟩
    rw [if_pos ⟨h1, h2, h3, h4, h5, h6⟩, if_neg (fun h => h.2 (h7 h.1)), if_neg (by omega)]
theorem pf_impl (a b c t p q : Int) (d : List Int) : Ev (fun k => impl_PacketFault.f k a b c t p q d) (PF a b c t p q (d.length : Int)) := by
  have hbad : Ev (fun k => impl_PacketFault.j0 k true a b c t p q d) 3 := by
    refine ev_succ ?_
    simp only [impl_PacketFault.j0, if_true]; exact Ev.now _
  have hform : Ev (fun k => impl_PacketFault.j1 k true a b c t p q d) 1 := by
    refine ev_succ ?_
    simp only [impl_PacketFault.j1, if_true]; exact Ev.now _
  have hend : Ev (fun k => impl_PacketFault.j1 k false a b c t p q d) (if (d.length : Int) > 200 then 2 else 0) := by
    refine ev_succ ?_
    simp only [impl_PacketFault.j1, Bool.false_eq_true, if_false]
    split <;> exact Ev.now _
  unfold impl_PacketFault.f PF
  simp only [impl_isAddress.f, impl_isPort.f, in_impl', Option.bind_some, decide_eq_true_eq]
  by_cases h1 : 0 ≤ a ∧ a ≤ 4294967295
  · by_cases h2 : 0 ≤ b ∧ b ≤ 4294967295
    · by_cases h3 : 1 ≤ c ∧ c ≤ 255
      · by_cases h4 : 1 ≤ t ∧ t ≤ 255
        · by_cases h5 : 0 ≤ p ∧ p ≤ 65535
          · by_cases h6 : 0 ≤ q ∧ q ≤ 65535
            · simp only [h1, h2, h3, h4, h5, h6, and_self, if_true, decide_true, Bool.not_true]
              refine ev_succ ?_
              simp only [impl_PacketFault.j0, Bool.false_eq_true, if_false, ports_impl, Option.bind_some, decide_eq_true_eq]
              by_cases hc : c = 6 ∨ c = 17
              · simp only [hc, if_true, not_true, false_and, if_false]; exact hend
              · by_cases hp0 : p = 0
                · by_cases hq0 : q = 0
                  · subst hp0; subst hq0; simp only [hc, if_true, if_false, and_self, not_true, and_false, bne_self_eq_false]; exact hend
                  · subst hp0; simp only [hc, hq0, if_true, if_false, and_false, not_false_eq_true, and_self, show (q != 0) = true by simpa using hq0]; exact hform
                · simp only [hc, hp0, if_true, if_false, false_and, not_false_eq_true, and_self]; exact hform
            · simp only [h1, h2, h3, h4, h5, h6, and_self, if_true, decide_false, Bool.not_false, and_false, if_false]; exact hbad
          · simp only [h1, h2, h3, h4, h5, and_self, if_true, and_false, false_and, if_false]; exact hbad
        · simp only [h1, h2, h3, h4, and_self, if_true, and_false, false_and, if_false]; exact hbad
      · simp only [h1, h2, h3, and_self, if_true, and_false, false_and, if_false]; exact hbad
    · simp only [h1, h2, and_self, if_true, and_false, false_and, if_false]; exact hbad
  · simp only [h1, false_and, if_false]; exact hbad
theorem pf_spec (a b c t p q : Int) (d : List Int) : Ev (fun k => spec_PacketFault.f k a b c t p q d) (PF a b c t p q (d.length : Int)) := by
  have hbad : Ev (fun k => spec_PacketFault.j0 k true a b c t p q d) 3 := by
    refine ev_succ ?_
    simp only [spec_PacketFault.j0, if_true]; exact Ev.now _
  have hform : Ev (fun k => spec_PacketFault.j1 k true a b c t p q d) 1 := by
    refine ev_succ ?_
    simp only [spec_PacketFault.j1, if_true]; exact Ev.now _
  have hend : Ev (fun k => spec_PacketFault.j1 k false a b c t p q d) (if (d.length : Int) > 200 then 2 else 0) := by
    refine ev_succ ?_
    simp only [spec_PacketFault.j1, Bool.false_eq_true, if_false]
    split <;> exact Ev.now _
  unfold spec_PacketFault.f PF
  simp only [spec_l2Address.f, spec_l2Port.f, in_spec', Option.bind_some, decide_eq_true_eq]
  by_cases h1 : 0 ≤ a ∧ a ≤ 4294967295
  · by_cases h2 : 0 ≤ b ∧ b ≤ 4294967295
    · by_cases h3 : 1 ≤ c ∧ c ≤ 255
      · by_cases h4 : 1 ≤ t ∧ t ≤ 255
        · by_cases h5 : 0 ≤ p ∧ p ≤ 65535
          · by_cases h6 : 0 ≤ q ∧ q ≤ 65535
            · simp only [h1, h2, h3, h4, h5, h6, and_self, if_true, decide_true, Bool.not_true]
              refine ev_succ ?_
              simp only [spec_PacketFault.j0, Bool.false_eq_true, if_false, ports_spec, Option.bind_some, decide_eq_true_eq]
              by_cases hc : c = 6 ∨ c = 17
              · simp only [hc, if_true, not_true, false_and, if_false]; exact hend
              · by_cases hp0 : p = 0
                · by_cases hq0 : q = 0
                  · subst hp0; subst hq0; simp only [hc, if_true, if_false, and_self, not_true, and_false, bne_self_eq_false]; exact hend
                  · subst hp0; simp only [hc, hq0, if_true, if_false, and_false, not_false_eq_true, and_self, show (q != 0) = true by simpa using hq0]; exact hform
                · simp only [hc, hp0, if_true, if_false, false_and, not_false_eq_true, and_self]; exact hform
            · simp only [h1, h2, h3, h4, h5, h6, and_self, if_true, decide_false, Bool.not_false, and_false, if_false]; exact hbad
          · simp only [h1, h2, h3, h4, h5, and_self, if_true, and_false, false_and, if_false]; exact hbad
        · simp only [h1, h2, h3, h4, and_self, if_true, and_false, false_and, if_false]; exact hbad
      · simp only [h1, h2, h3, and_self, if_true, and_false, false_and, if_false]; exact hbad
    · simp only [h1, h2, and_self, if_true, and_false, false_and, if_false]; exact hbad
  · simp only [h1, false_and, if_false]; exact hbad
end Go.Proofs.Ytidejdfbapjfiaa.Pure
set_option linter.unusedVariables false
set_option linter.unusedSimpArgs false
namespace Go.Proofs.Ytidejdfbapjfiaa.Pure
open Go.RowKit Go.Proofs.Ytidejdfbapjfiaa.G Go.Proofs.YtidejdfbapjfiaaW.PrintWords Go.Proofs.YtidejdfbapjfiaaW.PrintLast Go.Proofs.YtidejdfbapjfiaaW.PrintMore
theorem draw_bent (l : List Int) (hb : Bt l) (hl : l.length ≤ 1048576) : ∃ a b c t p q d, Ev (fun k => spec_DrawBuildPacket.f k l) (a, b, c, t, p, q, d) ∧ Bt d ∧ d.length ≤ 1000 := by
  obtain ⟨a, b, c, t, p, q, d, s', he, hR, h0, h1⟩ := draw_packet l hb hl 0 (by omega) (by omega)
  have hbd := hR.2.2.2.2.2.2.2.2
  have hld := hR.2.2.2.2.2.2.2.1
  obtain ⟨x, ex, x0, x1⟩ := next_ok l hb hl s' 20 (by omega) (by omega) (by omega)
  have fin : ∀ a b c t p q d s2, Ev (fun k => spec_l2Bent.f k l 0) (a, b, c, t, p, q, d, s2) → Ev (fun k => spec_DrawBuildPacket.f k l) (a, b, c, t, p, q, d) := by
    intro a b c t p q d s2 h
    unfold spec_DrawBuildPacket.f spec_l1Source.f
    simp only [Option.bind_some]
    refine Ev.bind h ?_
    exact Ev.now _
  by_cases x0' : x = 0
  · obtain ⟨v, hv, ev⟩ := pick_ok l hb hl (s' + 1) [-1, 4294967296] (by omega) (by omega) (by simp)
    refine ⟨v, b, c, t, p, q, d, fin _ _ _ _ _ _ _ (s' + 1 + 1) ?_, hbd, by omega⟩
    unfold spec_l2Bent.f
    refine Ev.bind he ?_
    simp only [ex, Option.bind_some, x0', if_true, ev]; exact Ev.now _
  · by_cases x1' : x = 1
    · obtain ⟨v, hv, ev⟩ := pick_ok l hb hl (s' + 1) [-1, 4294967296] (by omega) (by omega) (by simp)
      refine ⟨a, v, c, t, p, q, d, fin _ _ _ _ _ _ _ (s' + 1 + 1) ?_, hbd, by omega⟩
      unfold spec_l2Bent.f
      refine Ev.bind he ?_
      simp only [ex, Option.bind_some, x0', x1', if_true, if_false, ev, show ¬ (1 : Int) = 0 by omega]; exact Ev.now _
    · by_cases x2' : x = 2
      · obtain ⟨v, hv, ev⟩ := pick_ok l hb hl (s' + 1) [0, 256, 255, -1] (by omega) (by omega) (by simp)
        refine ⟨a, b, v, t, p, q, d, fin _ _ _ _ _ _ _ (s' + 1 + 1) ?_, hbd, by omega⟩
        unfold spec_l2Bent.f
        refine Ev.bind he ?_
        simp only [ex, Option.bind_some, x2', if_true, if_false, ev, show ¬ (2 : Int) = 0 by omega, show ¬ (2 : Int) = 1 by omega]; exact Ev.now _
      · by_cases x3' : x = 3
        · obtain ⟨v, hv, ev⟩ := pick_ok l hb hl (s' + 1) [0, 256, -1] (by omega) (by omega) (by simp)
          refine ⟨a, b, c, v, p, q, d, fin _ _ _ _ _ _ _ (s' + 1 + 1) ?_, hbd, by omega⟩
          unfold spec_l2Bent.f
          refine Ev.bind he ?_
          simp only [ex, Option.bind_some, x3', if_true, if_false, ev, show ¬ (3 : Int) = 0 by omega, show ¬ (3 : Int) = 1 by omega, show ¬ (3 : Int) = 2 by omega]; exact Ev.now _
        · by_cases x4' : x = 4
          · obtain ⟨v, hv, ev⟩ := pick_ok l hb hl (s' + 1) [-1, 65536, 5] (by omega) (by omega) (by simp)
            refine ⟨a, b, c, t, v, q, d, fin _ _ _ _ _ _ _ (s' + 1 + 1) ?_, hbd, by omega⟩
            unfold spec_l2Bent.f
            refine Ev.bind he ?_
            simp only [ex, Option.bind_some, x4', if_true, if_false, ev, show ¬ (4 : Int) = 0 by omega, show ¬ (4 : Int) = 1 by omega, show ¬ (4 : Int) = 2 by omega, show ¬ (4 : Int) = 3 by omega]; exact Ev.now _
          · by_cases x5' : x = 5
            · obtain ⟨v, hv, ev⟩ := pick_ok l hb hl (s' + 1) [-1, 65536, 5] (by omega) (by omega) (by simp)
              refine ⟨a, b, c, t, p, v, d, fin _ _ _ _ _ _ _ (s' + 1 + 1) ?_, hbd, by omega⟩
              unfold spec_l2Bent.f
              refine Ev.bind he ?_
              simp only [ex, Option.bind_some, x5', if_true, if_false, ev, show ¬ (5 : Int) = 0 by omega, show ¬ (5 : Int) = 1 by omega, show ¬ (5 : Int) = 2 by omega, show ¬ (5 : Int) = 3 by omega, show ¬ (5 : Int) = 4 by omega]; exact Ev.now _
            · by_cases x6' : x = 6
              · obtain ⟨v, ev, v0, v1⟩ := next_ok l hb hl (s' + 1) 2 (by omega) (by omega) (by omega)
                refine ⟨a, b, c, t, p, q, List.replicate (200 + v).toNat 0, fin _ _ _ _ _ _ _ (s' + 1 + 1) ?_, fun z hz => by rw [List.eq_of_mem_replicate hz]; omega, by simp; omega⟩
                unfold spec_l2Bent.f
                refine Ev.bind he ?_
                have hw : wrap64 (200 + v) = 200 + v := w64d (by omega) (by omega)
                simp only [ex, Option.bind_some, x6', if_true, if_false, ev, show ¬ (6 : Int) = 0 by omega, show ¬ (6 : Int) = 1 by omega, show ¬ (6 : Int) = 2 by omega, show ¬ (6 : Int) = 3 by omega, show ¬ (6 : Int) = 4 by omega, show ¬ (6 : Int) = 5 by omega, hw, show 0 ≤ 200 + v by omega, show (200 + v).toNat ≤ 281474976710656 by omega]; exact Ev.now _
              · refine ⟨a, b, c, t, p, q, d, fin _ _ _ _ _ _ _ (s' + 1) ?_, hbd, by omega⟩
                unfold spec_l2Bent.f
                refine Ev.bind he ?_
                simp only [ex, Option.bind_some, x0', x1', x2', x3', x4', x5', x6', if_false]; exact Ev.now _
theorem bp_impl (a b c t p q : Int) (d : List Int) (hd : Bt d) : Ev (fun k => impl_BuildPacket.f k a b c t p q d) (if PF a b c t p q (d.length : Int) = 0 then (0, bld a b c t p q d) else (PF a b c t p q (d.length : Int), [])) := by
  unfold impl_BuildPacket.f
  refine Ev.bind (pf_impl a b c t p q d) ?_
  by_cases h : PF a b c t p q (d.length : Int) = 0
  · have hR := (PF_zero hd).1 h
    simp only [h, if_true]
    refine Ev.bind (build_impl a b c t p q d (by have := hR.2.2.2.2.2.2.2.1; omega)) ?_
    exact Ev.now _
  · simp only [h, if_false]; exact Ev.now _
theorem rw_impl (a b c t p q : Int) (d : List Int) (hd : Bt d) (h : Rt a b c t p q d) : Ev (fun k => impl_ReverseWay.f k a b c t p q d) (0, b, a, c, t, q, p, d) := by
  unfold impl_ReverseWay.f
  refine Ev.bind (pf_impl a b c t p q d) ?_
  have hl := h.2.2.2.2.2.2.2.1
  simp only [(PF_zero hd).2 h, if_true, impl_reverse.f, slices_Clone_byte_byte.f, show d.length * 1 ≤ 140737488355328 by omega, Option.bind_some]
  exact Ev.now _
theorem Rt_rev {a b c t p q : Int} {d : List Int} (h : Rt a b c t p q d) : Rt b a c t q p d := by
  obtain ⟨ha, hbb, hc, htt, hp, hq, h00, hd, hbd⟩ := h
  exact ⟨hbb, ha, hc, htt, hq, hp, fun x => (h00 x).symm, hd, hbd⟩
theorem pp_back (a b c t p q : Int) (d : List Int) (h : Rt a b c t p q d) : Ev (fun k => impl_ParsePacket.f k (bld a b c t p q d)) (0, a, b, c, t, p, q, d) := by
  have hl2 := bld_length a b c t p q d
  have hl3 := prt_length c p q
  have hd := h.2.2.2.2.2.2.2.1
  have := pp_impl (bld a b c t p q d) (bld_b _ _ _ _ _ _ _ h.2.2.2.2.2.2.2.2) (by omega)
  rw [PP_bld _ _ _ _ _ _ _ h] at this
  exact this
theorem packets_b (l : List Int) (hb : Bt l) (hl : l.length ≤ 1048576) : Ev (fun k => laws_FnPackets.j1 k l) true := by
  obtain ⟨a, b, c, t, p, q, d, he, hbd, hld⟩ := draw_bent l hb hl
  refine ev_succ ?_
  simp only [laws_FnPackets.j1]
  refine Ev.bind he (Ev.bind (bp_impl a b c t p q d hbd) ?_)
  by_cases h : PF a b c t p q (d.length : Int) = 0
  · have hR := (PF_zero hbd).1 h
    simp only [h, if_true]
    refine Ev.bind (pp_back _ _ _ _ _ _ _ hR) (Ev.bind (rw_impl _ _ _ _ _ _ _ hbd hR) ?_)
    simp only [if_true, same_ok _ _ _ _ _ _ _ hbd, Option.bind_some]
    refine Ev.bind (rw_impl _ _ _ _ _ _ _ hbd (Rt_rev hR)) ?_
    have hl2 := bld_length a b c t p q d
    simp only [same_ok _ _ _ _ _ _ _ hbd, Option.bind_some, if_true, show ((bld a b c t p q d).length : Int) ≥ 20 by omega, show (20 : Int) ≤ ((bld a b c t p q d).length : Int) by omega]
    have e20 : (bld a b c t p q d).take 20 = bldh (20 + ((prt c p q).length : Int) + (d.length : Int)) t c a b := List.take_left' (bldh_length _ _ _ _ _)
    rw [e20]
    refine Ev.bind (check_impl _ (bldh_b _ _ _ _ _) (by rw [bldh_length]; omega)) ?_
    rw [check_bldh]
    exact Ev.now _
  · simp only [h, if_false]
    refine Ev.bind (pf_spec a b c t p q d) ?_
    simp only [beq_self_eq_true]; exact Ev.now _
theorem packets_a (l : List Int) (hb : Bt l) (hl : l.length ≤ 1048576) (r : Pk) (hR : r.1 = 0 → RtP r) : Ev (fun k => laws_FnPackets.j0 k l false r.1 r.2.1 r.2.2.1 r.2.2.2.1 r.2.2.2.2.1 r.2.2.2.2.2.1 r.2.2.2.2.2.2.1 r.2.2.2.2.2.2.2) true := by
  refine ev_succ ?_
  simp only [laws_FnPackets.j0, Bool.false_eq_true, if_false]
  by_cases h : r.1 = 0
  · have hr : Rt r.2.1 r.2.2.1 r.2.2.2.1 r.2.2.2.2.1 r.2.2.2.2.2.1 r.2.2.2.2.2.2.1 r.2.2.2.2.2.2.2 := hR h
    have hbd := hr.2.2.2.2.2.2.2.2
    have hz := (PF_zero hbd).2 hr
    have hp := bp_impl r.2.1 r.2.2.1 r.2.2.2.1 r.2.2.2.2.1 r.2.2.2.2.2.1 r.2.2.2.2.2.2.1 r.2.2.2.2.2.2.2 hbd
    rw [if_pos hz] at hp
    have hf := pf_impl r.2.1 r.2.2.1 r.2.2.2.1 r.2.2.2.2.1 r.2.2.2.2.2.1 r.2.2.2.2.2.2.1 r.2.2.2.2.2.2.2
    rw [hz] at hf
    simp only [h, if_true]
    refine Ev.bind hp (Ev.bind (pp_back _ _ _ _ _ _ _ hr) (Ev.bind hf ?_))
    simp only [if_true, same_ok _ _ _ _ _ _ _ hbd, Option.bind_some]
    exact packets_b l hb hl
  · simp only [h, if_false]
    exact packets_b l hb hl
theorem FnPackets : laws_FnPackets.Pure := by
  intro l hm hw
  refine Ev.rounds ?_
  unfold laws_FnPackets.f laws_lwBig.f
  simp only [Option.bind_some, decide_eq_true_eq]
  by_cases hbig : (l.length : Int) > 1048576
  · simp only [hbig, if_true]; exact Ev.now _
  simp only [hbig, if_false]
  have hb : Bt l := byte_wf hw
  obtain ⟨q, s', eq, qb, ql⟩ := draw_wire l hb (by omega) 0 (by omega) (by omega)
  have ed : Ev (fun k => spec_DrawParsePacket.f k l) q := by
    unfold spec_DrawParsePacket.f spec_l1Source.f
    simp only [Option.bind_some]
    refine Ev.bind eq ?_
    exact Ev.now _
  refine Ev.bind ed (Ev.bind (pp_impl q qb (by omega)) ?_)
  have ha := packets_a l hb (by omega) (PP q) (PP_right q qb)
  by_cases h0 : (PP q).1 = 0
  · simp only [h0, if_true]
    rw [h0] at ha
    exact ha
  · simp only [h0, if_false]
    refine Ev.bind (pp_spec q qb (by omega)) ?_
    simp only [bne_self_eq_false]
    exact ha
end Go.Proofs.Ytidejdfbapjfiaa.Pure
namespace Go.Proofs.Ytidejdfbapjfiaa.fnPackets
open Go.ChangeShapes Go.WideShapes Go.ChangeAt
open Go.RowKit Go.Proofs.Ytidejdfbapjfiaa.G Go.Proofs.YtidejdfbapjfiaaW.PrintWords Go.Proofs.YtidejdfbapjfiaaW.PrintLast
open Go.ChangeMaps (open_string shut_string)
set_option linter.unusedVariables false
theorem own : ownKnob Try.prog.godebug = none := by kernel_rfl
theorem laidOut : laidOutB Try.prog = true := by kernel_rfl
theorem o5 : Opn.Opens Try.prog 5 (Kd.int .u8) (fun n => (Lit.int .u8 n).wf = true) := Opn.opens_int Try.underlying5 (by kernel_rfl)
set_option maxRecDepth 100000 in
theorem lifted (os : Os) (started : os.Started) (H : Type) (enc : TypeId × Value → H) :
    ReturnsInHanded {} Try.checked os 7 .any (Rows.fnPacketsSpec.pre6 enc Try.prog Try.f7 Rows.fnPacketsRow.domain false) (Rows.fnPacketsSpec.post enc Try.prog Try.f7 false true false false) := by
  refine returnsInHanded_of_change_sized (C := Try.checked) own started (by kernel_rfl) Try.func7
    (ChangeSpec.witness6 (enc := enc) (C := Try.checked) false ⟨#[], #[.slice none 0 0], []⟩ 8 (by kernel_rfl) (by kernel_rfl) (by kernel_rfl) (by kernel_rfl)) ?_
  intro W base args ds gs before hval0 hW hcnd hsz0 _
  have hval : ∀ (j : Nat) t v, Try.f7.params[j]? = some t → args[j]? = some v → Value.okWide Try.prog W .any base t v := hval0
  have hW' := hW
  obtain ⟨p, q, hA0, hV, rfl, hfz, hnd⟩ := hW
  have hA : DataW.TrodAll enc Try.prog W 0 (fun _ => true) true Try.f7.params.toList args.toList ds p := hA0
  rw [Try.params7] at hA hval
  obtain ⟨v0, vs0, d0, ds0, p0, q0, hargs, rfl, rfl, h0, r0⟩ := trodAll_cons hA
  obtain ⟨rfl, rfl, rfl⟩ := trodAll_nil r0
  obtain rfl : args = #[v0] := by cases args; simp_all
  obtain ⟨rfl, rfl⟩ := trodVars_none hV
  obtain ⟨A0, len0, c0, rfl⟩ := okWide_slice Try.underlying22 (hval 0 22 v0 rfl rfl)
  have k0 := h0
  have lt0 : ∀ x ∈ p0, x.block < W.heap.size := by obtain ⟨m, hm⟩ := k0; exact DataW.trod_lt m _ _ _ hm
  obtain ⟨l0, rfl, hr0, hc0, hm0, hg0⟩ := Opn.arg_slice Try.underlying22 (by kernel_rfl) o5 h0
  clear hA0 hval0 hsz0
  obtain ⟨k, h⟩ := Pure.FnPackets l0 hm0 hg0
  refine (laws_FnPackets.calls k A0 c0 l0 W hr0 hc0 h).mono fun e W' ⟨he, bel0⟩ => ?_
  have bel : Below W.heap.size W W' := bel0
  subst he
  exact ⟨_, rfl, _, _, _, [], _, [], hW', trodAll_mk1 (shut_bool Try.underlying4 _), (trodAll_cons_mk (Below.trod laidOut (by kernel_rfl) (of_decide_eq_true (by kernel_rfl)) k0 bel lt0) trodAll_mk0), rfl, bel.frame _, fun h => by cases h⟩
theorem over : Rows.fnPacketsRow.holds Try.pinned (OpenSpec.ofChange Rows.fnPacketsSpec) :=
  OpenClaim.holds_of_wide 7 Try.f7 rfl rfl rfl rfl rfl rfl rfl ⟨rfl, rfl, rfl, rfl, rfl⟩ rfl rfl rfl rfl rfl (by kernel_rfl) Try.func7 (by kernel_rfl)
    (of_decide_eq_true (by kernel_rfl)) (by unfold Func.isWrapper; first | (rw [if_pos (by decide +kernel)]; kernel_rfl) | (rw [if_neg (by decide +kernel)]; exact ⟨rfl, rfl⟩))
    (fun os started H enc _ => lifted os started H enc)
end Go.Proofs.Ytidejdfbapjfiaa.fnPackets
namespace Go.Proofs.Ytidejdfbapjfiaa
theorem fnPackets_holds : Rows.FnPacketsSaid := fnPackets.over
end Go.Proofs.Ytidejdfbapjfiaa
#print axioms Go.Proofs.Ytidejdfbapjfiaa.fnPackets_holds
