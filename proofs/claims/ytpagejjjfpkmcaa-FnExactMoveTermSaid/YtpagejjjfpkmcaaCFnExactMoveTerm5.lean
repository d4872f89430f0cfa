/- Part 5 of the proof of FnExactMoveTerm: what the functions on its road do, and the plain laws. -/
import Derived.Test.YtpagejjjfpkmcaaCFnExactMoveTerm4
import Derived.Maps.OwnOps
import Derived.Maps.Views
import Derived.DeepKeys4
import Derived.Shelf.Abstract
namespace Go.Proofs.Ytpagejjjfpkmcaa.G
open Go.RowKit Go.Proofs.YtpagejjjfpkmcaaW.PrintWords Go.Proofs.YtpagejjjfpkmcaaW.PrintLast Go.Proofs.YtpagejjjfpkmcaaW.PrintMore
attribute [local go_sem] max2_int min2_int max_two min_two max_three min_three max_four min_four   -- for this text's walks alone
set_option linter.unusedVariables false
set_option linter.unusedSimpArgs false
theorem drawn_below {w w' : World} (h : Drawn0 w w') : Below w.heap.size w w' := by
  obtain ⟨n, rfl⟩ := h
  exact lN_ (Below.refl _ _) n
theorem stv_below {T N S : Nat} {w w' : World} {x : Value} {l : List S37} (h : ∃ v, StV T w N S v x l) (hb : Below w.heap.size w w') : ∃ v, StV T w' N S v x l := h.elim fun v hv => ⟨v, bB_ hv.1 hb, hv.2.1, Kd.R_below hv.2.2 hb⟩
theorem own_map_heap {w w' : World} {P : Program} {k e : TypeId} {b n : Nat} {D : DataW Unit} (h : w.ownsMap P k (plainElem P e) b n D) (he : w'.heap[b]? = w.heap[b]?) : w'.ownsMap P k (plainElem P e) b n D := by
  obtain ⟨es, clock, hb, r⟩ := h
  exact ⟨es, clock, he.trans hb, r⟩
theorem own_map_is {w : World} {P : Program} {k e : TypeId} {b n : Nat} {D : DataW Unit} (h : w.ownsMap P k (plainElem P e) b n D) : ∃ es c, w.heap[b]? = some (.map es c) := by
  obtain ⟨es, clock, hb, r⟩ := h
  exact ⟨es, clock, hb⟩
theorem own_map_keepT {T N : Nat} {w w' : World} {P : Program} {k e : TypeId} {b n : Nat} {D : DataW Unit} (h : w.ownsMap P k (plainElem P e) b n D) (hk : KeepT T N w w') : w'.ownsMap P k (plainElem P e) b n D := by
  obtain ⟨es, c, hm⟩ := own_map_is h
  exact own_map_heap h (hk.2 b (blk_lt hm) (fun ⟨_, cs, q, e, _⟩ => by rw [hm] at e; cases e))
theorem R_grown_map {α : Type} {d : Kd α} {e base B : Nat} {ok : Nat → Prop} {W w1 : World} {v : Value} {xs : List α} (h : d.R e W base ok v xs) (hg : W.grownBy w1 (some B)) (hm : ∃ es c, W.heap[B]? = some (.map es c)) : d.R e w1 base ok v xs :=
  Kd.R_mono (Kd.R_move (Kd.R_bound h) (fun k hk => hg.block k hk.2.2.1 (fun e => by
    obtain ⟨_, _, _, q, _, cells, hc⟩ := hk
    obtain ⟨es, c, hm⟩ := hm
    injection e with e
    subst e
    rw [hm] at hc
    cases hc))) (fun _ hk => hk.1)
theorem blk_grown_map {B g t : Nat} {cs : Array Value} {W w1 : World} (h : W.heap[g]? = some (.cells cs t (0, 0))) (hg : W.grownBy w1 (some B)) (hm : ∃ es c, W.heap[B]? = some (.map es c)) : w1.heap[g]? = some (.cells cs t (0, 0)) :=
  blk_grown h hg (fun e => by
    obtain ⟨es, c, hm⟩ := hm
    injection e with e
    subst e
    rw [hm] at h
    cases h)
theorem stv_grown_map {T N S B : Nat} {W w1 : World} {x : Value} {l : List S37} (h : ∃ v, StV T W N S v x l) (hg : W.grownBy w1 (some B)) (hm : ∃ es c, W.heap[B]? = some (.map es c)) : ∃ v, StV T w1 N S v x l := h.elim fun v hv => ⟨v, blk_grown_map hv.1 hg hm, hv.2.1, R_grown_map hv.2.2 hg hm⟩
def Mvd (D : DataW Unit) (mp : Int → Int) : Prop := ∀ y : Int, (Lit.int .i64 y).wf = true → D.atKey (.int .i64 y) (.lit (.int .i64 0)) = .lit (.int .i64 (mp y))
def mput (mp : Int → Int) (k v : Int) : Int → Int := fun y => if y = k then v else mp y
theorem int_kd : Go.Maps.Keyed Try.prog 2 := Go.Maps.int_keyed Try.underlying2
theorem mvd_nil : Mvd (.map []) (fun _ => 0) := fun y _ => rfl
theorem mvd_put {D : DataW Unit} {mp : Int → Int} {k v : Int} (h : Mvd D mp) (hD : Go.Maps.IsMap D) (hk : (Lit.int .i64 k).wf = true) : Mvd (D.put (.int .i64 k) (.lit (.int .i64 v))) (mput mp k v) := by
  intro y hy
  unfold mput
  by_cases e : y = k
  · subst e
    rw [if_pos rfl, Go.Maps.atKey_put_same hD (int_kd.key (Go.Maps.keyOf_int_mk Try.underlying2 hy))]
  · rw [if_neg e, Go.Maps.atKey_put_other (fun e' => e (by injection e'))]
    exact h y hy
def hasA (op : Int) : Bool := !(op == 1 || op == 2)
def hasB (op : Int) : Bool := hasA op && !(op == 6)
theorem names_eq (op : Int) : impl_namesOf.f 1 op = some (hasA op, hasB op, !hasA op) := by
  unfold impl_namesOf.f hasB hasA
  simp only [impl_namesOf.j0]
  by_cases h1 : op = 1
  · subst h1; rfl
  · by_cases h2 : op = 2
    · subst h2; rfl
    · by_cases h6 : op = 6
      · subst h6; rfl
      · simp [h1, h2, h6]
def fo2 (a b : Int) : Int := if a = 0 then b else a
theorem fo2_eq (a b : Int) : impl_faultOf.f 5 [a, b] = some (fo2 a b) := by
  have e1 : wrap64 1 = 1 := by unfold wrap64; omega
  have e2 : wrap64 2 = 2 := by unfold wrap64; omega
  unfold impl_faultOf.f fo2
  by_cases ha : a = 0
  · subst ha
    by_cases hb : b = 0
    · subst hb; simp [impl_faultOf.l0, rd, e1, e2]
    · simp [impl_faultOf.l0, rd, e1, e2, hb]
  · simp [impl_faultOf.l0, rd, e1, e2, ha]
def mvT (l0 : List S37) (mp : Int → Int) (k : Int) : S37 := ⟨(rd_T37 l0 k).f0, if hasA (rd_T37 l0 k).f0 = true then mp (rd_T37 l0 k).f1 else (rd_T37 l0 k).f1, if hasB (rd_T37 l0 k).f0 = true then mp (rd_T37 l0 k).f2 else (rd_T37 l0 k).f2, (rd_T37 l0 k).f3⟩
def both4 (a b : Int) : S37 := ⟨7, if b < a then b else a, if a < b then b else a, 0⟩
def mvP (l0 l : List S37) (t : S37) : Int × List S37 × Bool := putT l false (if t.f0 = 7 then both4 t.f1 t.f2 else t)
def MV (l0 : List S37) : List Int → List S37 → (Int → Int) → Option (List S37 × (Int → Int))
  | [], l, mp => some (l, mp)
  | k :: r, l, mp => if (mvP l0 l (mvT l0 mp k)).2.2 = true then none else MV l0 r (mvP l0 l (mvT l0 mp k)).2.1 (mput mp k (mvP l0 l (mvT l0 mp k)).1)
def mvR (at_ : Int) : Option (List S37 × (Int → Int)) → Int × Int × List S37
  | none => (2, 0, [])
  | some (l, mp) => (0, mp at_, l)
def impl_MoveTerm.f (k : Nat) (l0 : List S37) (at_ : Int) (l1 : List S37) : Option (Int × Int × List S37) := (impl_TermsFault.f l0).bind fun f0 => (impl_TermsFault.f l1).bind fun f1 => if fo2 f0 f1 = 0 then ((impl_isPlace.f l0 at_).bind fun pl => if pl = true then ((impl_partsOf.f k l0 at_).bind fun ks => if (∀ x ∈ ks, 0 ≤ x ∧ x < l0.length) ∧ ks.length ≤ 1000 ∧ l0.length ≤ 400 ∧ l1.length ≤ 400 ∧ (0 ≤ at_ ∧ at_ < l0.length) then some (mvR at_ (MV l0 ks l1 (fun _ => 0))) else none) else some (3, 0, [])) else some (fo2 f0 f1, 0, [])
theorem tix_b (l : List S37) (x : S37) (i : Nat) : -1 ≤ tix l x i ∧ tix l x i < (i : Int) + l.length + 1 := by
  unfold tix
  cases h : (l.drop i).findIdx? fun y => eq4 x y with
  | none => simp; omega
  | some j =>
    have := (List.findIdx?_eq_some_iff_getElem.1 h).1
    simp at this ⊢
    omega
theorem putT_wf {l : List S37} {full : Bool} {t : S37} (hl : l.length ≤ 400) : (Lit.int .i64 (putT l full t).1).wf = true := by
  have hb := tix_b l t 0
  have : 0 ≤ (putT l full t).1 ∧ (putT l full t).1 ≤ 401 := by
    unfold putT putP
    split
    · simp; omega
    · split
      · simp
      · split
        · simp
        · simp; omega
  simp [Lit.wf, IntKind.min, IntKind.max, IntKind.signed, IntKind.bits]
  omega
theorem told_ok (S N : Nat) (l : List S37) (at_ : Int) (w : World) (hS : Sheet w N S l false) (hN : N ≤ w.heap.size) :
    Calls Try.prog 25 #[.pointer (some ⟨S, 0, none⟩), .int .i64 at_] w fun e w' => ∃ v, e = .returned (.agg #[.int .i64 0, .int .i64 at_, v]) ∧ k37.R 37 w' N (fun _ => True) v l ∧ Below N w w' := by
  have h := impl_sheet_told.calls S N l false at_ w hS hN
  simp only [Bool.false_eq_true, if_false] at h
  exact h
theorem nat_wf {x : Int} (h0 : 0 ≤ x) (h1 : x ≤ 1000) : (Lit.int .i64 x).wf = true := by
  simp [Lit.wf, IntKind.min, IntKind.max, IntKind.signed, IntKind.bits]
  omega
set_option maxHeartbeats 8000000 in
set_option maxRecDepth 100000 in
theorem impl_MoveTerm.calls (k : Nat) (A0 : Option Addr) (c0 : Nat) (l0 : List S37) (at_ : Int) (A1 : Option Addr) (c1 : Nat) (l1 : List S37) (r1 : Int) (r2 : Int) (r3 : List S37) (w : World) (hr0 : Kd.C k37 w A0 l0.length l0) (hc0 : l0.length ≤ c0) (hr1 : Kd.C k37 w A1 l1.length l1) (hc1 : l1.length ≤ c1) (h : impl_MoveTerm.f k l0 at_ l1 = some (r1, r2, r3)) :
    Calls Try.prog 7 #[.slice A0 l0.length c0, .int .i64 at_, .slice A1 l1.length c1] w fun e w' => ∃ v2_ : Value, e = .returned (.agg #[.int .i64 r1, .int .i64 r2, v2_]) ∧ Kd.R k37 37 w' w.heap.size (fun _ => True) v2_ r3 ∧ Below w.heap.size w w' := by
  unfold impl_MoveTerm.f at h
  obtain ⟨f0, hf0, h⟩ := Option.bind_eq_some_iff.mp h
  obtain ⟨f1, hf1, h⟩ := Option.bind_eq_some_iff.mp h
  have HF0 := Aside0.mk hf0
  have HF1 := Aside0.mk hf1
  have HR := Aside0.mk hr0
  have HC := Aside0.mk hc0
  have a5 := Aside0.mk hr1
  have a6 := Aside0.mk hc1
  have HB := Aside0.mk (Below.refl w.heap.size w)
  clear hr0 hc0 hr1 hc1 hf0 hf1
  obtain ⟨ys, hys⟩ : ∃ ys : List Int, ys = [f0, f1] := ⟨_, rfl⟩
  have NY := Aside0.mk hys
  have NF := Aside0.mk (show impl_faultOf.f 5 ys = some (fo2 f0 f1) by rw [hys]; exact fo2_eq f0 f1)
  clear hys
  by_cases hz : fo2 f0 f1 = 0
  rotate_left
  · rw [if_neg hz] at h
    simp only [Option.some.injEq, Prod.mk.injEq] at h
    obtain ⟨rfl, rfl, rfl⟩ := h
    have hz0 : (fo2 f0 f1 == 0) = false := by simpa using hz
    have hz1 : (fo2 f0 f1 != 0) = true := by simpa using hz
    clear hz
    go_enter Try.func7, Try.ntmps7
    go_wp2_with (first | ((with_reducible refine gate_dst (N := 6) rfl ?_); refine box_event ?hg (N := 6) ?hd (cs := #[.int .i64 0, .int .i64 0, .slice none 0 0]) (t := 26) ?hr ?_; (case hd => rfl); (case hg => rfl); (case hr => first | (go_simp; done) | (go_simp; rfl)); intro g6 hg w2 hbox hb; have n0_ := Aside0.mk (lP_ HB.out hb); have n1_ := Aside0.mk (hbox); have n2_ := Aside0.mk (show w.heap.size ≤ g6 by rw [hg]; exact below_size HB.out); clear HB; have HB := n0_; have BK := n1_; have GE := n2_; clear n0_ n1_ n2_ hb hbox hg; (try clear q0_ q1_ q2_ f0_ f1_ f2_); have q0_ : w2.cell? ⟨g6, 0, none⟩ = some (.int .i64 0) := (blk_cell BK.out 0).trans rfl; have q1_ : w2.cell? ⟨g6, 1, none⟩ = some (.int .i64 0) := (blk_cell BK.out 1).trans rfl; have q2_ : w2.cell? ⟨g6, 2, none⟩ = some (.slice none 0 0) := (blk_cell BK.out 2).trans rfl; have f0_ := blk_frozen BK.out 0; have f1_ := blk_frozen BK.out 1; have f2_ := blk_frozen BK.out 2) | (go_at_call 18; (with_reducible refine (impl_TermsFault.calls A0 c0 l0 f0 _ (Kd.C_below HR.out HB.out) HC.out HF0.out).mono ?_); rintro e w3 ⟨rfl, hb⟩; have n0_ := Aside0.mk (lP_ HB.out hb); have n1_ := Aside0.mk (bB_ BK.out hb); clear HB BK; have HB := n0_; have BK := n1_; clear n0_ n1_ hb; (try clear q0_ q1_ q2_ f0_ f1_ f2_); have q0_ : w3.cell? ⟨g6, 0, none⟩ = some (.int .i64 0) := (blk_cell BK.out 0).trans rfl; have q1_ : w3.cell? ⟨g6, 1, none⟩ = some (.int .i64 0) := (blk_cell BK.out 1).trans rfl; have q2_ : w3.cell? ⟨g6, 2, none⟩ = some (.slice none 0 0) := (blk_cell BK.out 2).trans rfl; have f0_ := blk_frozen BK.out 0; have f1_ := blk_frozen BK.out 1; have f2_ := blk_frozen BK.out 2) | (go_at_call 18; (with_reducible refine (impl_TermsFault.calls A1 c1 l1 f1 _ (Kd.C_below a5.out HB.out) a6.out HF1.out).mono ?_); rintro e w4 ⟨rfl, hb⟩; have n0_ := Aside0.mk (lP_ HB.out hb); have n1_ := Aside0.mk (bB_ BK.out hb); clear HB BK; have HB := n0_; have BK := n1_; clear n0_ n1_ hb; (try clear q0_ q1_ q2_ f0_ f1_ f2_); have q0_ : w4.cell? ⟨g6, 0, none⟩ = some (.int .i64 0) := (blk_cell BK.out 0).trans rfl; have q1_ : w4.cell? ⟨g6, 1, none⟩ = some (.int .i64 0) := (blk_cell BK.out 1).trans rfl; have q2_ : w4.cell? ⟨g6, 2, none⟩ = some (.slice none 0 0) := (blk_cell BK.out 2).trans rfl; have f0_ := blk_frozen BK.out 0; have f1_ := blk_frozen BK.out 1; have f2_ := blk_frozen BK.out 2) | ((with_reducible refine gate_dst (N := 18) rfl ?_); refine Kd.R_lit (Kd.int .i64) _ 2 ?hg (N := 18) ?hd (xs := ([f0, f1] : List Int)) (inner := [.int .i64 f0, .int .i64 f1]) (ok := fun _ => True) (okp := fun _ => True) ?hr ?hp (fun _ hk => hk) trivial (Below.refl _ _) (Nat.le_refl _) (by simp) ?_; (case hd => rfl); (case hg => rfl); (case hr => first | (go_simp; done) | (go_simp; rfl)); (case hp => exact (Reps.one (show Kd.M (Kd.int .i64) _ _ _ f0 [.int .i64 f0] from rfl) (Reps.one (show Kd.M (Kd.int .i64) _ _ _ f1 [.int .i64 f1] from rfl) (Reps.none _ _)))); intro v18 w5 ho18 hb hg_ hnew_; clear hg_ hnew_; rw [← NY.out] at ho18; have HL18 := Aside0.mk ho18; clear ho18; have n0_ := Aside0.mk (lP_ HB.out hb); have n1_ := Aside0.mk (bB_ BK.out hb); clear HB BK; have HB := n0_; have BK := n1_; clear n0_ n1_ hb; obtain ⟨a4, c18, e18⟩ := Kd.R_slice HL18.out; subst e18; (try clear q0_ q1_ q2_ f0_ f1_ f2_); have q0_ : w5.cell? ⟨g6, 0, none⟩ = some (.int .i64 0) := (blk_cell BK.out 0).trans rfl; have q1_ : w5.cell? ⟨g6, 1, none⟩ = some (.int .i64 0) := (blk_cell BK.out 1).trans rfl; have q2_ : w5.cell? ⟨g6, 2, none⟩ = some (.slice none 0 0) := (blk_cell BK.out 2).trans rfl; have f0_ := blk_frozen BK.out 0; have f1_ := blk_frozen BK.out 1; have f2_ := blk_frozen BK.out 2) | (go_at_call 17; (with_reducible refine (impl_faultOf.calls 5 a4 c18 ys (fo2 f0 f1) _ (Kd.R_reads' HL18.out).2.2 (Kd.R_reads' HL18.out).2.1 NF.out).mono ?_); rintro e w6 ⟨rfl, hd⟩; have hb := drawn_below hd; clear hd; have n0_ := Aside0.mk (lP_ HB.out hb); have n1_ := Aside0.mk (bB_ BK.out hb); clear HB BK; have HB := n0_; have BK := n1_; clear n0_ n1_ hb; (try clear q0_ q1_ q2_ f0_ f1_ f2_); have q0_ : w6.cell? ⟨g6, 0, none⟩ = some (.int .i64 0) := (blk_cell BK.out 0).trans rfl; have q1_ : w6.cell? ⟨g6, 1, none⟩ = some (.int .i64 0) := (blk_cell BK.out 1).trans rfl; have q2_ : w6.cell? ⟨g6, 2, none⟩ = some (.slice none 0 0) := (blk_cell BK.out 2).trans rfl; have f0_ := blk_frozen BK.out 0; have f1_ := blk_frozen BK.out 1; have f2_ := blk_frozen BK.out 2))
    refine bodyPost_ret (results_cell_row rfl _ _ g6 26 #[.int .i64 (fo2 f0 f1), .int .i64 0, .slice none 0 0] (0, 0) _ rfl (blk_put (blk_put (blk_put BK.out 0 _ rfl) 1 _ rfl) 2 _ rfl) Try.underlying26 rfl (by kernel_rfl)) rfl ?_
    exact ⟨_, rfl, Kd.R_nil _ _ _ _ _, lS1_ (lS1_ (lS1_ HB.out GE.out) GE.out) GE.out⟩
  rw [if_pos hz] at h
  have hz0 : (fo2 f0 f1 == 0) = true := by simpa using hz
  have hz1 : (fo2 f0 f1 != 0) = false := by simpa using hz
  clear hz
  obtain ⟨pl, hp, h⟩ := Option.bind_eq_some_iff.mp h
  have HP := Aside0.mk hp
  clear hp
  cases pl with
  | false =>
    rw [if_neg (by decide)] at h
    simp only [Option.some.injEq, Prod.mk.injEq] at h
    obtain ⟨rfl, rfl, rfl⟩ := h
    obtain ⟨pl, hpl⟩ : ∃ pl, pl = false := ⟨_, rfl⟩
    rw [← hpl] at HP
    go_enter Try.func7, Try.ntmps7
    go_wp2_with (first | ((with_reducible refine gate_dst (N := 6) rfl ?_); refine box_event ?hg (N := 6) ?hd (cs := #[.int .i64 0, .int .i64 0, .slice none 0 0]) (t := 26) ?hr ?_; (case hd => rfl); (case hg => rfl); (case hr => first | (go_simp; done) | (go_simp; rfl)); intro g6 hg w2 hbox hb; have n0_ := Aside0.mk (lP_ HB.out hb); have n1_ := Aside0.mk (hbox); have n2_ := Aside0.mk (show w.heap.size ≤ g6 by rw [hg]; exact below_size HB.out); clear HB; have HB := n0_; have BK := n1_; have GE := n2_; clear n0_ n1_ n2_ hb hbox hg; (try clear q0_ q1_ q2_ f0_ f1_ f2_); have q0_ : w2.cell? ⟨g6, 0, none⟩ = some (.int .i64 0) := (blk_cell BK.out 0).trans rfl; have q1_ : w2.cell? ⟨g6, 1, none⟩ = some (.int .i64 0) := (blk_cell BK.out 1).trans rfl; have q2_ : w2.cell? ⟨g6, 2, none⟩ = some (.slice none 0 0) := (blk_cell BK.out 2).trans rfl; have f0_ := blk_frozen BK.out 0; have f1_ := blk_frozen BK.out 1; have f2_ := blk_frozen BK.out 2) | (go_at_call 18; (with_reducible refine (impl_TermsFault.calls A0 c0 l0 f0 _ (Kd.C_below HR.out HB.out) HC.out HF0.out).mono ?_); rintro e w3 ⟨rfl, hb⟩; have n0_ := Aside0.mk (lP_ HB.out hb); have n1_ := Aside0.mk (bB_ BK.out hb); clear HB BK; have HB := n0_; have BK := n1_; clear n0_ n1_ hb; (try clear q0_ q1_ q2_ f0_ f1_ f2_); have q0_ : w3.cell? ⟨g6, 0, none⟩ = some (.int .i64 0) := (blk_cell BK.out 0).trans rfl; have q1_ : w3.cell? ⟨g6, 1, none⟩ = some (.int .i64 0) := (blk_cell BK.out 1).trans rfl; have q2_ : w3.cell? ⟨g6, 2, none⟩ = some (.slice none 0 0) := (blk_cell BK.out 2).trans rfl; have f0_ := blk_frozen BK.out 0; have f1_ := blk_frozen BK.out 1; have f2_ := blk_frozen BK.out 2) | (go_at_call 18; (with_reducible refine (impl_TermsFault.calls A1 c1 l1 f1 _ (Kd.C_below a5.out HB.out) a6.out HF1.out).mono ?_); rintro e w4 ⟨rfl, hb⟩; have n0_ := Aside0.mk (lP_ HB.out hb); have n1_ := Aside0.mk (bB_ BK.out hb); clear HB BK; have HB := n0_; have BK := n1_; clear n0_ n1_ hb; (try clear q0_ q1_ q2_ f0_ f1_ f2_); have q0_ : w4.cell? ⟨g6, 0, none⟩ = some (.int .i64 0) := (blk_cell BK.out 0).trans rfl; have q1_ : w4.cell? ⟨g6, 1, none⟩ = some (.int .i64 0) := (blk_cell BK.out 1).trans rfl; have q2_ : w4.cell? ⟨g6, 2, none⟩ = some (.slice none 0 0) := (blk_cell BK.out 2).trans rfl; have f0_ := blk_frozen BK.out 0; have f1_ := blk_frozen BK.out 1; have f2_ := blk_frozen BK.out 2) | ((with_reducible refine gate_dst (N := 18) rfl ?_); refine Kd.R_lit (Kd.int .i64) _ 2 ?hg (N := 18) ?hd (xs := ([f0, f1] : List Int)) (inner := [.int .i64 f0, .int .i64 f1]) (ok := fun _ => True) (okp := fun _ => True) ?hr ?hp (fun _ hk => hk) trivial (Below.refl _ _) (Nat.le_refl _) (by simp) ?_; (case hd => rfl); (case hg => rfl); (case hr => first | (go_simp; done) | (go_simp; rfl)); (case hp => exact (Reps.one (show Kd.M (Kd.int .i64) _ _ _ f0 [.int .i64 f0] from rfl) (Reps.one (show Kd.M (Kd.int .i64) _ _ _ f1 [.int .i64 f1] from rfl) (Reps.none _ _)))); intro v18 w5 ho18 hb hg_ hnew_; clear hg_ hnew_; rw [← NY.out] at ho18; have HL18 := Aside0.mk ho18; clear ho18; have n0_ := Aside0.mk (lP_ HB.out hb); have n1_ := Aside0.mk (bB_ BK.out hb); clear HB BK; have HB := n0_; have BK := n1_; clear n0_ n1_ hb; obtain ⟨a4, c18, e18⟩ := Kd.R_slice HL18.out; subst e18; (try clear q0_ q1_ q2_ f0_ f1_ f2_); have q0_ : w5.cell? ⟨g6, 0, none⟩ = some (.int .i64 0) := (blk_cell BK.out 0).trans rfl; have q1_ : w5.cell? ⟨g6, 1, none⟩ = some (.int .i64 0) := (blk_cell BK.out 1).trans rfl; have q2_ : w5.cell? ⟨g6, 2, none⟩ = some (.slice none 0 0) := (blk_cell BK.out 2).trans rfl; have f0_ := blk_frozen BK.out 0; have f1_ := blk_frozen BK.out 1; have f2_ := blk_frozen BK.out 2) | (go_at_call 17; (with_reducible refine (impl_faultOf.calls 5 a4 c18 ys (fo2 f0 f1) _ (Kd.R_reads' HL18.out).2.2 (Kd.R_reads' HL18.out).2.1 NF.out).mono ?_); rintro e w6 ⟨rfl, hd⟩; have hb := drawn_below hd; clear hd; have n0_ := Aside0.mk (lP_ HB.out hb); have n1_ := Aside0.mk (bB_ BK.out hb); clear HB BK; have HB := n0_; have BK := n1_; clear n0_ n1_ hb; (try clear q0_ q1_ q2_ f0_ f1_ f2_); have q0_ : w6.cell? ⟨g6, 0, none⟩ = some (.int .i64 0) := (blk_cell BK.out 0).trans rfl; have q1_ : w6.cell? ⟨g6, 1, none⟩ = some (.int .i64 0) := (blk_cell BK.out 1).trans rfl; have q2_ : w6.cell? ⟨g6, 2, none⟩ = some (.slice none 0 0) := (blk_cell BK.out 2).trans rfl; have f0_ := blk_frozen BK.out 0; have f1_ := blk_frozen BK.out 1; have f2_ := blk_frozen BK.out 2) | (go_at_call 19; (with_reducible refine (impl_isPlace.calls A0 c0 l0 at_ pl _ (Kd.C_below HR.out HB.out) HC.out HP.out).mono ?_); rintro e w7 ⟨rfl, hd⟩; have hb := drawn_below hd; clear hd; have n0_ := Aside0.mk (lP_ HB.out hb); have n1_ := Aside0.mk (bB_ BK.out hb); clear HB BK; have HB := n0_; have BK := n1_; clear n0_ n1_ hb; (try clear q0_ q1_ q2_ f0_ f1_ f2_); have q0_ : w7.cell? ⟨g6, 0, none⟩ = some (.int .i64 0) := (blk_cell BK.out 0).trans rfl; have q1_ : w7.cell? ⟨g6, 1, none⟩ = some (.int .i64 0) := (blk_cell BK.out 1).trans rfl; have q2_ : w7.cell? ⟨g6, 2, none⟩ = some (.slice none 0 0) := (blk_cell BK.out 2).trans rfl; have f0_ := blk_frozen BK.out 0; have f1_ := blk_frozen BK.out 1; have f2_ := blk_frozen BK.out 2))
    refine bodyPost_ret (results_cell_row rfl _ _ g6 26 #[.int .i64 3, .int .i64 0, .slice none 0 0] (0, 0) _ rfl (blk_put (blk_put (blk_put BK.out 0 _ rfl) 1 _ rfl) 2 _ rfl) Try.underlying26 rfl (by kernel_rfl)) rfl ?_
    exact ⟨_, rfl, Kd.R_nil _ _ _ _ _, lS1_ (lS1_ (lS1_ HB.out GE.out) GE.out) GE.out⟩
  | true =>
    rw [if_pos rfl] at h
    obtain ⟨ks, hks, h⟩ := Option.bind_eq_some_iff.mp h
    by_cases hg : (∀ x ∈ ks, 0 ≤ x ∧ x < l0.length) ∧ ks.length ≤ 1000 ∧ l0.length ≤ 400 ∧ l1.length ≤ 400 ∧ (0 ≤ at_ ∧ at_ < l0.length)
    rotate_left
    · rw [if_neg hg] at h; cases h
    rw [if_pos hg] at h
    have HKS := Aside0.mk hks
    have HIN := Aside0.mk hg.1
    have HKL := Aside0.mk hg.2.1
    have HAT := Aside0.mk hg.2.2.2.2
    have HL0 := Aside0.mk hg.2.2.1
    have HL4 := Aside0.mk hg.2.2.2.1
    have HL1 := Aside0.mk (show l1.length * 32 ≤ 140737488355328 by have := HL4.out; omega)
    have HT := Aside0.mk (Option.some.inj h)
    have HWF := Aside0.mk (show l0.all wf4 = true by
      have := HF0.out
      unfold impl_TermsFault.f at this
      split at this
      · assumption
      · cases this)
    clear hg h hks
    obtain ⟨pl, hpl⟩ : ∃ pl, pl = true := ⟨_, rfl⟩
    rw [← hpl] at HP
    have hmm := @run_makeMap
    go_enter Try.func7, Try.ntmps7
    go_wp2_with (first | ((with_reducible refine gate_dst (N := 6) rfl ?_); refine box_event ?hg (N := 6) ?hd (cs := #[.int .i64 0, .int .i64 0, .slice none 0 0]) (t := 26) ?hr ?_; (case hd => rfl); (case hg => rfl); (case hr => first | (go_simp; done) | (go_simp; rfl)); intro g6 hg w2 hbox hb; have n0_ := Aside0.mk (lP_ HB.out hb); have n1_ := Aside0.mk (hbox); have n2_ := Aside0.mk (show w.heap.size ≤ g6 by rw [hg]; exact below_size HB.out); clear HB; have HB := n0_; have BK := n1_; have GE := n2_; clear n0_ n1_ n2_ hb hbox hg; (try clear q0_ q1_ q2_ f0_ f1_ f2_); have q0_ : w2.cell? ⟨g6, 0, none⟩ = some (.int .i64 0) := (blk_cell BK.out 0).trans rfl; have q1_ : w2.cell? ⟨g6, 1, none⟩ = some (.int .i64 0) := (blk_cell BK.out 1).trans rfl; have q2_ : w2.cell? ⟨g6, 2, none⟩ = some (.slice none 0 0) := (blk_cell BK.out 2).trans rfl; have f0_ := blk_frozen BK.out 0; have f1_ := blk_frozen BK.out 1; have f2_ := blk_frozen BK.out 2) | (go_at_call 18; (with_reducible refine (impl_TermsFault.calls A0 c0 l0 f0 _ (Kd.C_below HR.out HB.out) HC.out HF0.out).mono ?_); rintro e w3 ⟨rfl, hb⟩; have n0_ := Aside0.mk (lP_ HB.out hb); have n1_ := Aside0.mk (bB_ BK.out hb); clear HB BK; have HB := n0_; have BK := n1_; clear n0_ n1_ hb; (try clear q0_ q1_ q2_ f0_ f1_ f2_); have q0_ : w3.cell? ⟨g6, 0, none⟩ = some (.int .i64 0) := (blk_cell BK.out 0).trans rfl; have q1_ : w3.cell? ⟨g6, 1, none⟩ = some (.int .i64 0) := (blk_cell BK.out 1).trans rfl; have q2_ : w3.cell? ⟨g6, 2, none⟩ = some (.slice none 0 0) := (blk_cell BK.out 2).trans rfl; have f0_ := blk_frozen BK.out 0; have f1_ := blk_frozen BK.out 1; have f2_ := blk_frozen BK.out 2) | (go_at_call 18; (with_reducible refine (impl_TermsFault.calls A1 c1 l1 f1 _ (Kd.C_below a5.out HB.out) a6.out HF1.out).mono ?_); rintro e w4 ⟨rfl, hb⟩; have n0_ := Aside0.mk (lP_ HB.out hb); have n1_ := Aside0.mk (bB_ BK.out hb); clear HB BK; have HB := n0_; have BK := n1_; clear n0_ n1_ hb; (try clear q0_ q1_ q2_ f0_ f1_ f2_); have q0_ : w4.cell? ⟨g6, 0, none⟩ = some (.int .i64 0) := (blk_cell BK.out 0).trans rfl; have q1_ : w4.cell? ⟨g6, 1, none⟩ = some (.int .i64 0) := (blk_cell BK.out 1).trans rfl; have q2_ : w4.cell? ⟨g6, 2, none⟩ = some (.slice none 0 0) := (blk_cell BK.out 2).trans rfl; have f0_ := blk_frozen BK.out 0; have f1_ := blk_frozen BK.out 1; have f2_ := blk_frozen BK.out 2) | ((with_reducible refine gate_dst (N := 18) rfl ?_); refine Kd.R_lit (Kd.int .i64) _ 2 ?hg (N := 18) ?hd (xs := ([f0, f1] : List Int)) (inner := [.int .i64 f0, .int .i64 f1]) (ok := fun _ => True) (okp := fun _ => True) ?hr ?hp (fun _ hk => hk) trivial (Below.refl _ _) (Nat.le_refl _) (by simp) ?_; (case hd => rfl); (case hg => rfl); (case hr => first | (go_simp; done) | (go_simp; rfl)); (case hp => exact (Reps.one (show Kd.M (Kd.int .i64) _ _ _ f0 [.int .i64 f0] from rfl) (Reps.one (show Kd.M (Kd.int .i64) _ _ _ f1 [.int .i64 f1] from rfl) (Reps.none _ _)))); intro v18 w5 ho18 hb hg_ hnew_; clear hg_ hnew_; rw [← NY.out] at ho18; have HL18 := Aside0.mk ho18; clear ho18; have n0_ := Aside0.mk (lP_ HB.out hb); have n1_ := Aside0.mk (bB_ BK.out hb); clear HB BK; have HB := n0_; have BK := n1_; clear n0_ n1_ hb; obtain ⟨a4, c18, e18⟩ := Kd.R_slice HL18.out; subst e18; (try clear q0_ q1_ q2_ f0_ f1_ f2_); have q0_ : w5.cell? ⟨g6, 0, none⟩ = some (.int .i64 0) := (blk_cell BK.out 0).trans rfl; have q1_ : w5.cell? ⟨g6, 1, none⟩ = some (.int .i64 0) := (blk_cell BK.out 1).trans rfl; have q2_ : w5.cell? ⟨g6, 2, none⟩ = some (.slice none 0 0) := (blk_cell BK.out 2).trans rfl; have f0_ := blk_frozen BK.out 0; have f1_ := blk_frozen BK.out 1; have f2_ := blk_frozen BK.out 2) | (go_at_call 17; (with_reducible refine (impl_faultOf.calls 5 a4 c18 ys (fo2 f0 f1) _ (Kd.R_reads' HL18.out).2.2 (Kd.R_reads' HL18.out).2.1 NF.out).mono ?_); rintro e w6 ⟨rfl, hd⟩; have hb := drawn_below hd; clear hd; have n0_ := Aside0.mk (lP_ HB.out hb); have n1_ := Aside0.mk (bB_ BK.out hb); clear HB BK; have HB := n0_; have BK := n1_; clear n0_ n1_ hb; (try clear q0_ q1_ q2_ f0_ f1_ f2_); have q0_ : w6.cell? ⟨g6, 0, none⟩ = some (.int .i64 0) := (blk_cell BK.out 0).trans rfl; have q1_ : w6.cell? ⟨g6, 1, none⟩ = some (.int .i64 0) := (blk_cell BK.out 1).trans rfl; have q2_ : w6.cell? ⟨g6, 2, none⟩ = some (.slice none 0 0) := (blk_cell BK.out 2).trans rfl; have f0_ := blk_frozen BK.out 0; have f1_ := blk_frozen BK.out 1; have f2_ := blk_frozen BK.out 2) | (go_at_call 19; (with_reducible refine (impl_isPlace.calls A0 c0 l0 at_ pl _ (Kd.C_below HR.out HB.out) HC.out HP.out).mono ?_); rintro e w7 ⟨rfl, hd⟩; have hb := drawn_below hd; clear hd; have n0_ := Aside0.mk (lP_ HB.out hb); have n1_ := Aside0.mk (bB_ BK.out hb); clear HB BK; have HB := n0_; have BK := n1_; clear n0_ n1_ hb; (try clear q0_ q1_ q2_ f0_ f1_ f2_); have q0_ : w7.cell? ⟨g6, 0, none⟩ = some (.int .i64 0) := (blk_cell BK.out 0).trans rfl; have q1_ : w7.cell? ⟨g6, 1, none⟩ = some (.int .i64 0) := (blk_cell BK.out 1).trans rfl; have q2_ : w7.cell? ⟨g6, 2, none⟩ = some (.slice none 0 0) := (blk_cell BK.out 2).trans rfl; have f0_ := blk_frozen BK.out 0; have f1_ := blk_frozen BK.out 1; have f2_ := blk_frozen BK.out 2) | (go_at_call 20; refine (impl_sheetOf.calls A1 c1 l1 _ (Kd.C_below a5.out HB.out) a6.out HL1.out).mono ?_; rintro e w8 ⟨S, rfl, hs, hb⟩; obtain ⟨v8, hv⟩ := hs; have NG := Aside0.mk (blk_lt BK.out); have NW := Aside0.mk HB.out.size; have HS := Aside0.mk (show ∃ v, StV 52 w8 w7.heap.size S v (.bool false) l1 from ⟨v8, hv⟩); clear hv; have n0_ := Aside0.mk (lP_ HB.out hb); have n1_ := Aside0.mk (bB_ BK.out hb); clear HB BK; have HB := n0_; have BK := n1_; clear n0_ n1_ hb; (try clear q0_ q1_ q2_ f0_ f1_ f2_); have q0_ : w8.cell? ⟨g6, 0, none⟩ = some (.int .i64 0) := (blk_cell BK.out 0).trans rfl; have q1_ : w8.cell? ⟨g6, 1, none⟩ = some (.int .i64 0) := (blk_cell BK.out 1).trans rfl; have q2_ : w8.cell? ⟨g6, 2, none⟩ = some (.slice none 0 0) := (blk_cell BK.out 2).trans rfl; have f0_ := blk_frozen BK.out 0; have f1_ := blk_frozen BK.out 1; have f2_ := blk_frozen BK.out 2) | (go_at_call 21; have a7 := Aside0.mk HB.out.size; have hal : Below w8.heap.size w8 (w8.alloc (.map #[] 0)) := lA1_ (o := .map #[] 0) (Below.refl _ _); (with_reducible refine (impl_partsOf.calls k A0 c0 l0 at_ ks _ (Kd.C_below HR.out (lP_ HB.out hal)) HC.out HKS.out).mono ?_); rintro e w9 ⟨v9, rfl, ho, hb⟩; have hbb := hal.trans (hb.mono hal.size); have HO := Aside0.mk (own_map_below (World.ownsMap_made w8 Try.prog 2 (plainElem (H := Unit) Try.prog 2)) hb); have HK := Aside0.mk (Kd.R_lower ho (Nat.le_trans NW.out (Nat.le_trans (HS.out.elim fun _ h => h.size) hal.size))); clear ho; have n0_ := Aside0.mk (lP_ HB.out hbb); have n1_ := Aside0.mk (bB_ BK.out hbb); have n2_ := Aside0.mk (stv_below HS.out hbb); clear HB BK HS; have HB := n0_; have BK := n1_; have HS := n2_; clear n0_ n1_ n2_ hb hal hbb; obtain ⟨A9, c9, e9⟩ := Kd.R_slice HK.out; subst e9; (try clear q0_ q1_ q2_ f0_ f1_ f2_); have q0_ : w9.cell? ⟨g6, 0, none⟩ = some (.int .i64 0) := (blk_cell BK.out 0).trans rfl; have q1_ : w9.cell? ⟨g6, 1, none⟩ = some (.int .i64 0) := (blk_cell BK.out 1).trans rfl; have q2_ : w9.cell? ⟨g6, 2, none⟩ = some (.slice none 0 0) := (blk_cell BK.out 2).trans rfl; have f0_ := blk_frozen BK.out 0; have f1_ := blk_frozen BK.out 1; have f2_ := blk_frozen BK.out 2))
    have HS0 := HS
    obtain ⟨N0, hN0⟩ : ∃ n, n = w7.heap.size := ⟨_, rfl⟩
    obtain ⟨B, hB⟩ : ∃ n, n = w8.heap.size := ⟨_, rfl⟩
    rw [← hN0] at HS NW NG
    have GB : Aside0 (w.heap.size ≤ B) := ⟨by rw [hB]; exact a7.out⟩
    rw [← hB] at HO ⊢
    clear HS0 a7 hN0 hB hmm
    go_loopg [36] ks.length (fun gg s36 wr => ∃ (kk : Nat) (l : List S37) (mp : Int → Int) (D : DataW Unit), kk ≤ ks.length ∧ ks.length - kk ≤ gg ∧ s36 = .int .i64 kk ∧ Aside0 (MV l0 (ks.drop kk) l mp = MV l0 ks l1 (fun _ => 0)) ∧ Aside0 (l.length ≤ 400) ∧ Aside0 (∃ v, StV 52 wr N0 S v (.bool false) l) ∧ Aside0 (wr.ownsMap Try.prog 2 (plainElem Try.prog 2) B kk D) ∧ Aside0 (Go.Maps.IsMap D) ∧ Aside0 (Mvd D mp) ∧ Aside0 (wr.heap[g6]? = some (.cells #[.int .i64 0, .int .i64 0, .slice none 0 0] 26 (0, 0))) ∧ Aside0 (Kd.R (Kd.int .i64) 2 wr w.heap.size (fun _ => True) (.slice A9 ks.length c9) ks) ∧ Aside0 (Below w.heap.size w wr))
    case atStart => exact ⟨0, l1, fun _ => 0, .map [], Nat.zero_le _, by omega, rfl, ⟨by rw [List.drop_zero]⟩, HL4, HS, HO, ⟨Go.Maps.isMap_empty⟩, ⟨mvd_nil⟩, BK, HK, HB⟩
    case round =>
      clear HO HB HS BK HK q0_ q1_ q2_ f0_ f1_ f2_
      obtain ⟨kk, l, mp, D, hkn, hgg, rfl, HMV, HL, HS, HO, HD, HM, BK, HK, HB⟩ := hrel
      (try clear q0_ q1_ q2_ f0_ f1_ f2_)
      have q0_ : wr.cell? ⟨g6, 0, none⟩ = some (.int .i64 0) := (blk_cell BK.out 0).trans rfl
      have q1_ : wr.cell? ⟨g6, 1, none⟩ = some (.int .i64 0) := (blk_cell BK.out 1).trans rfl
      have q2_ : wr.cell? ⟨g6, 2, none⟩ = some (.slice none 0 0) := (blk_cell BK.out 2).trans rfl
      have f0_ := blk_frozen BK.out 0
      have f1_ := blk_frozen BK.out 1
      have f2_ := blk_frozen BK.out 2
      by_cases hlt : kk < ks.length
      · have hltz : (kk : Int) < (ks.length : Int) := by omega
        have hltd : decide ((kk : Int) < (ks.length : Int)) = true := decide_eq_true hltz
        obtain ⟨ad9, e9_, hx9⟩ := Kd.at_int (Kd.R_reads' HK.out).2.2 (kk : Int) (by omega) (by omega)
        rw [Int.toNat_natCast] at hx9
        subst e9_
        have hrd : rd ks (kk : Int) = ks[kk] := by simp [rd, List.getD, List.getElem?_eq_getElem hlt]
        have hin := HIN.out (rd ks (kk : Int)) (by rw [hrd]; exact List.getElem_mem hlt)
        have hdr : ks.drop kk = rd ks (kk : Int) :: ks.drop (kk + 1) := by rw [hrd, List.drop_eq_getElem_cons hlt]
        have hmv := HMV.out
        rw [hdr] at hmv
        simp only [MV] at hmv
        clear hrd hdr HMV
        generalize rd ks (kk : Int) = ki at hx9 hin hmv
        obtain ⟨ad0, e0_, hx0, hx1, hx2, hx3⟩ := at_T37 (Kd.C_below HR.out HB.out) ki hin.1 hin.2
        subst e0_
        obtain ⟨kn, rfl⟩ := Int.eq_ofNat_of_zero_le hin.1
        rw [Int.toNat_natCast] at hx0 hx1 hx2 hx3
        have hkl0 : kn < l0.length := by omega
        have hxm : rd_T37 l0 (kn : Int) = l0[kn] := by simp [rd_T37, List.getD, List.getElem?_eq_getElem hkl0]
        have hxw : wf4 (rd_T37 l0 (kn : Int)) = true := by rw [hxm]; exact List.all_eq_true.1 HWF.out _ (List.getElem_mem hkl0)
        have hmt : mvT l0 mp (kn : Int) = ⟨(rd_T37 l0 (kn : Int)).f0, if hasA (rd_T37 l0 (kn : Int)).f0 = true then mp (rd_T37 l0 (kn : Int)).f1 else (rd_T37 l0 (kn : Int)).f1, if hasB (rd_T37 l0 (kn : Int)).f0 = true then mp (rd_T37 l0 (kn : Int)).f2 else (rd_T37 l0 (kn : Int)).f2, (rd_T37 l0 (kn : Int)).f3⟩ := rfl
        rw [hmt] at hmv
        clear hmt hxm
        have HW0 := Aside0.mk (nat_wf (x := (kn : Int)) (by omega) (by have := HL0.out; omega))
        generalize rd_T37 l0 (kn : Int) = x at hx0 hx1 hx2 hx3 hxw hmv
        simp only [wf4, Bool.and_eq_true] at hxw
        have HW1 := Aside0.mk hxw.1.1.2
        have HW2 := Aside0.mk hxw.1.2
        clear hxw
        have hnm := names_eq x.f0
        try dsimp only at hmv
        generalize hasA x.f0 = ha at hnm hmv
        generalize hasB x.f0 = hb_ at hnm hmv
        obtain ⟨hn, hhn⟩ : ∃ b, b = !ha := ⟨_, rfl⟩
        rw [← hhn] at hnm
        have HNM := Aside0.mk hnm
        clear hnm
        obtain ⟨mA, hmA⟩ : ∃ m, m = (if ha = true then mp x.f1 else x.f1) := ⟨_, rfl⟩
        obtain ⟨mB, hmB⟩ : ∃ m, m = (if hb_ = true then mp x.f2 else x.f2) := ⟨_, rfl⟩
        rw [← hmA, ← hmB] at hmv
        obtain ⟨r, hr⟩ : ∃ r, r = mvP l0 l ⟨x.f0, mA, mB, x.f3⟩ := ⟨_, rfl⟩
        rw [← hr] at hmv
        replace hr : r = putT l false (if x.f0 = 7 then both4 mA mB else ⟨x.f0, mA, mB, x.f3⟩) := hr
        have HWR := Aside0.mk (show (Lit.int .i64 r.1).wf = true by rw [hr]; exact putT_wf HL.out)
        have HLR := Aside0.mk (show r.2.1.length ≤ 400 by rw [hr]; exact putT_len HL.out)
        obtain ⟨ri, rl, rb⟩ := r
        dsimp only at hmv HWR HLR
        have hkm : kk < 9223372036854775807 := by have := HKL.out; omega
        have HKM := Aside0.mk hkm
        have HMV := Aside0.mk hmv
        clear hmv hkm
        have hkl := HKL.out
        have hinz0 := hin.1
        have hinz1 := hin.2
        clear hin
        have h7r : ∀ a b : Int, (if x.f0 = 7 then both4 a b else (⟨x.f0, a, b, x.f3⟩ : S37)) = if x.f0 = 7 then both4 a b else ⟨x.f0, a, b, x.f3⟩ := fun _ _ => rfl
        clear h7r
        by_cases h7 : x.f0 = 7
        · rw [if_pos h7] at hr
          have h70 : (x.f0 == 7) = true := by simpa using h7
          have h71 : (x.f0 != 7) = false := by simpa using h7
          clear h7
          have HRR := Aside0.mk (show putT l false ⟨7, if mB < mA then mB else mA, if mA < mB then mB else mA, 0⟩ = _ from hr.symm)
          clear hr
          cases rb with
          | true =>
            cases ha with
            | true =>
              cases hb_ with
              | true =>
                simp only [if_true, Bool.false_eq_true, if_false] at hmA hmB
                subst hmA hmB hhn
                have ht := HT.out
                rw [← HMV.out, if_pos rfl] at ht
                simp only [mvR, Prod.mk.injEq] at ht
                obtain ⟨rfl, rfl, rfl⟩ := ht
                go_wp2_with (first | ((with_reducible refine gate_dst (N := 12) rfl ?_); refine box_event ?hg (N := 12) ?hd (cs := #[.int .i64 0, .int .i64 0, .int .i64 0, .int .i64 0]) (t := 37) ?hr ?_; (case hd => rfl); (case hg => rfl); (case hr => first | (go_simp; done) | (go_simp; rfl)); intro g12 hg wa hbox hb; have HBr := Aside0.mk hb; have a0 := Aside0.mk hbox; have a1 := Aside0.mk (show wr.heap.size ≤ g12 by rw [hg]; exact Nat.le_refl _); clear hb hbox hg; (try clear u0_ u1_ u2_ u3_ v0_ v1_ v2_ v3_); have u0_ : wa.cell? ⟨g12, 0, none⟩ = some (.int .i64 0) := (blk_cell a0.out 0).trans rfl; have u1_ : wa.cell? ⟨g12, 1, none⟩ = some (.int .i64 0) := (blk_cell a0.out 1).trans rfl; have u2_ : wa.cell? ⟨g12, 2, none⟩ = some (.int .i64 0) := (blk_cell a0.out 2).trans rfl; have u3_ : wa.cell? ⟨g12, 3, none⟩ = some (.int .i64 0) := (blk_cell a0.out 3).trans rfl; have v0_ := blk_frozen a0.out 0; have v1_ := blk_frozen a0.out 1; have v2_ := blk_frozen a0.out 2; have v3_ := blk_frozen a0.out 3) | (go_at_call 22; (with_reducible refine (impl_namesOf.calls 1 x.f0 true true (!true) _ HNM.out).mono ?_); rintro e wb ⟨rfl, hb⟩; have n0_ := Aside0.mk (bB_ (blk_put (blk_put (blk_put (blk_put a0.out 0 (.int .i64 x.f0) rfl) 1 (.int .i64 x.f1) rfl) 2 (.int .i64 x.f2) rfl) 3 (.int .i64 x.f3) rfl) hb); have n1_ := Aside0.mk (lP_ (by repeat (first | (with_reducible first | exact HBr.out | refine lS1_ ?_ a1.out | refine lS1_ ?_ a2.out) | exact HBr.out)) hb); clear a0 HBr; have a0 := n0_; have HBr := n1_; clear n0_ n1_ hb; (try clear u0_ u1_ u2_ u3_ v0_ v1_ v2_ v3_); have u0_ : wb.cell? ⟨g12, 0, none⟩ = some (.int .i64 x.f0) := (blk_cell a0.out 0).trans rfl; have u1_ : wb.cell? ⟨g12, 1, none⟩ = some (.int .i64 x.f1) := (blk_cell a0.out 1).trans rfl; have u2_ : wb.cell? ⟨g12, 2, none⟩ = some (.int .i64 x.f2) := (blk_cell a0.out 2).trans rfl; have u3_ : wb.cell? ⟨g12, 3, none⟩ = some (.int .i64 x.f3) := (blk_cell a0.out 3).trans rfl; have v0_ := blk_frozen a0.out 0; have v1_ := blk_frozen a0.out 1; have v2_ := blk_frozen a0.out 2; have v3_ := blk_frozen a0.out 3) | ((with_reducible refine gate_dst (N := 13) rfl ?_); refine box_event ?hg (N := 13) ?hd (cs := #[.bool false, .bool false, .bool false]) (t := 47) ?hr ?_; (case hd => rfl); (case hg => rfl); (case hr => first | (go_simp; done) | (go_simp; rfl)); intro g13 hg wd hbox hb; have hne := (show g12 ≠ g13 by rw [hg]; exact Nat.ne_of_lt (blk_lt a0.out)); have hne2 := hne.symm; have a2 := Aside0.mk (show wr.heap.size ≤ g13 by rw [hg]; exact below_size HBr.out); have a3 := Aside0.mk hbox; have n0_ := Aside0.mk (bB_ a0.out hb); have n1_ := Aside0.mk (lP_ HBr.out hb); clear a0 HBr; have a0 := n0_; have HBr := n1_; clear n0_ n1_ hb hbox hg; (try clear u0_ u1_ u2_ u3_ v0_ v1_ v2_ v3_); have u0_ : wd.cell? ⟨g12, 0, none⟩ = some (.int .i64 x.f0) := (blk_cell a0.out 0).trans rfl; have u1_ : wd.cell? ⟨g12, 1, none⟩ = some (.int .i64 x.f1) := (blk_cell a0.out 1).trans rfl; have u2_ : wd.cell? ⟨g12, 2, none⟩ = some (.int .i64 x.f2) := (blk_cell a0.out 2).trans rfl; have u3_ : wd.cell? ⟨g12, 3, none⟩ = some (.int .i64 x.f3) := (blk_cell a0.out 3).trans rfl; have v0_ := blk_frozen a0.out 0; have v1_ := blk_frozen a0.out 1; have v2_ := blk_frozen a0.out 2; have v3_ := blk_frozen a0.out 3; (try clear y0_ y1_ y2_ z0_ z1_ z2_); have y0_ : wd.cell? ⟨g13, 0, none⟩ = some (.bool false) := (blk_cell a3.out 0).trans rfl; have y1_ : wd.cell? ⟨g13, 1, none⟩ = some (.bool false) := (blk_cell a3.out 1).trans rfl; have y2_ : wd.cell? ⟨g13, 2, none⟩ = some (.bool false) := (blk_cell a3.out 2).trans rfl; have z0_ := blk_frozen a3.out 0; have z1_ := blk_frozen a3.out 1; have z2_ := blk_frozen a3.out 2) | (at_lookup; refine wpList_lookup_own_int (H := Unit) _ rfl (.tmp 49) (.tmp 51) 43 rfl 2 2 .i64 int_kd Try.underlying43 Try.underlying2 (by kernel_rfl) B kk D rfl (own_map_below HO.out (by repeat (first | (with_reducible first | exact HBr.out | refine lS1_ ?_ a1.out | refine lS1_ ?_ a2.out) | exact HBr.out))) _ (.int .i64 x.f1) rfl (Go.Maps.keyOf_int_mk Try.underlying2 HW1.out) ?_; intro cc hat hcw; obtain rfl : cc = mp x.f1 := (by have := (HM.out _ HW1.out).symm.trans hat; injection this with this; injection this with _ this; exact this.symm); clear hat hcw) | (at_lookup; refine wpList_lookup_own_int (H := Unit) _ rfl (.tmp 56) (.tmp 58) 43 rfl 2 2 .i64 int_kd Try.underlying43 Try.underlying2 (by kernel_rfl) B kk D rfl (own_map_below HO.out (by repeat (first | (with_reducible first | exact HBr.out | refine lS1_ ?_ a1.out | refine lS1_ ?_ a2.out) | exact HBr.out))) _ (.int .i64 x.f2) rfl (Go.Maps.keyOf_int_mk Try.underlying2 HW2.out) ?_; intro cc hat hcw; obtain rfl : cc = mp x.f2 := (by have := (HM.out _ HW2.out).symm.trans hat; injection this with this; injection this with _ this; exact this.symm); clear hat hcw) | (go_at_call 23; (with_reducible refine (impl_sheet_both.callsE (mp x.f1) (mp x.f2) (ri, rl, true) (SE.start (stv_below HS.out (by repeat (first | (with_reducible first | exact HBr.out | refine lS1_ ?_ a1.out | refine lS1_ ?_ a2.out) | exact HBr.out))).choose_spec) HL.out HRR.out).mono ?_); rintro e we ⟨rfl, hs, hk⟩; (try dsimp only at hs); (try dsimp only); have n0_ := Aside0.mk (hs.1); have n1_ := Aside0.mk (own_map_keepT (own_map_below HO.out (by repeat (first | (with_reducible first | exact HBr.out | refine lS1_ ?_ a1.out | refine lS1_ ?_ a2.out) | exact HBr.out))) hk); have n2_ := Aside0.mk (R_keepT (Kd.R_below HK.out (by repeat (first | (with_reducible first | exact HBr.out | refine lS1_ ?_ a1.out | refine lS1_ ?_ a2.out) | exact HBr.out))) hk (by decide)); have n3_ := Aside0.mk (blk_keepT (bB_ BK.out (by repeat (first | (with_reducible first | exact HBr.out | refine lS1_ ?_ a1.out | refine lS1_ ?_ a2.out) | exact HBr.out))) hk (by decide) (by decide)); have n4_ := Aside0.mk ((lP_ HB.out (by repeat (first | (with_reducible first | exact HBr.out | refine lS1_ ?_ a1.out | refine lS1_ ?_ a2.out) | exact HBr.out))).trans (hs.2.2.mono NW.out)); clear HS HO HK BK HB; have HS := n0_; have HO := n1_; have HK := n2_; have BK := n3_; have HB := n4_; clear n0_ n1_ n2_ n3_ n4_ hs hk; (try clear q0_ q1_ q2_ f0_ f1_ f2_); have q0_ : we.cell? ⟨g6, 0, none⟩ = some (.int .i64 0) := (blk_cell BK.out 0).trans rfl; have q1_ : we.cell? ⟨g6, 1, none⟩ = some (.int .i64 0) := (blk_cell BK.out 1).trans rfl; have q2_ : we.cell? ⟨g6, 2, none⟩ = some (.slice none 0 0) := (blk_cell BK.out 2).trans rfl; have f0_ := blk_frozen BK.out 0; have f1_ := blk_frozen BK.out 1; have f2_ := blk_frozen BK.out 2) | (at_mapUpdate; refine wpList_mapUpdate_own (H := Unit) _ rfl (.tmp 64) (.tmp 65) (.tmp 71) 43 rfl 2 2 int_kd Try.underlying43 (plainElem Try.prog 2) B kk D rfl HO.out (by show kk < 9223372036854775807; have := HKL.out; omega) _ _ (.int .i64 (kn : Int)) rfl rfl (Go.Maps.keyOf_int_mk Try.underlying2 HW0.out) _ _ (plainElem_int Try.underlying2 HWR.out) ?_; intro wf ho hg; have n0_ := Aside0.mk (stv_grown_map HS.out hg (own_map_is HO.out)); have n1_ := Aside0.mk (R_grown_map HK.out hg (own_map_is HO.out)); have n2_ := Aside0.mk (blk_grown_map BK.out hg (own_map_is HO.out)); have n3_ := Aside0.mk (pw_below_grown HB.out (some B) (below_size HB.out) hg (fun k hk => by injection hk with hk; rw [← hk]; exact GB.out)); have n4_ := Aside0.mk (ho); clear HS HK BK HB HO; have HS := n0_; have HK := n1_; have BK := n2_; have HB := n3_; have HO := n4_; clear n0_ n1_ n2_ n3_ n4_ ho hg; obtain ⟨vs, hvs⟩ := HS.out; have hfull : wf.cell? ⟨S, 1, none⟩ = some (.bool true) := (blk_cell hvs.1 1).trans rfl; clear hvs; (try clear q0_ q1_ q2_ f0_ f1_ f2_); have q0_ : wf.cell? ⟨g6, 0, none⟩ = some (.int .i64 0) := (blk_cell BK.out 0).trans rfl; have q1_ : wf.cell? ⟨g6, 1, none⟩ = some (.int .i64 0) := (blk_cell BK.out 1).trans rfl; have q2_ : wf.cell? ⟨g6, 2, none⟩ = some (.slice none 0 0) := (blk_cell BK.out 2).trans rfl; have f0_ := blk_frozen BK.out 0; have f1_ := blk_frozen BK.out 1; have f2_ := blk_frozen BK.out 2))
                refine bodyPost_ret (results_cell_row rfl _ _ g6 26 #[.int .i64 2, .int .i64 0, .slice none 0 0] (0, 0) _ rfl (blk_put (blk_put (blk_put BK.out 0 _ rfl) 1 _ rfl) 2 _ rfl) Try.underlying26 rfl (by kernel_rfl)) rfl ?_
                exact ⟨_, rfl, Kd.R_nil _ _ _ _ _, lS1_ (lS1_ (lS1_ HB.out GE.out) GE.out) GE.out⟩
              | false =>
                simp only [if_true, Bool.false_eq_true, if_false] at hmA hmB
                subst hmA hmB hhn
                have ht := HT.out
                rw [← HMV.out, if_pos rfl] at ht
                simp only [mvR, Prod.mk.injEq] at ht
                obtain ⟨rfl, rfl, rfl⟩ := ht
                go_wp2_with (first | ((with_reducible refine gate_dst (N := 12) rfl ?_); refine box_event ?hg (N := 12) ?hd (cs := #[.int .i64 0, .int .i64 0, .int .i64 0, .int .i64 0]) (t := 37) ?hr ?_; (case hd => rfl); (case hg => rfl); (case hr => first | (go_simp; done) | (go_simp; rfl)); intro g12 hg wa hbox hb; have HBr := Aside0.mk hb; have a0 := Aside0.mk hbox; have a1 := Aside0.mk (show wr.heap.size ≤ g12 by rw [hg]; exact Nat.le_refl _); clear hb hbox hg; (try clear u0_ u1_ u2_ u3_ v0_ v1_ v2_ v3_); have u0_ : wa.cell? ⟨g12, 0, none⟩ = some (.int .i64 0) := (blk_cell a0.out 0).trans rfl; have u1_ : wa.cell? ⟨g12, 1, none⟩ = some (.int .i64 0) := (blk_cell a0.out 1).trans rfl; have u2_ : wa.cell? ⟨g12, 2, none⟩ = some (.int .i64 0) := (blk_cell a0.out 2).trans rfl; have u3_ : wa.cell? ⟨g12, 3, none⟩ = some (.int .i64 0) := (blk_cell a0.out 3).trans rfl; have v0_ := blk_frozen a0.out 0; have v1_ := blk_frozen a0.out 1; have v2_ := blk_frozen a0.out 2; have v3_ := blk_frozen a0.out 3) | (go_at_call 22; (with_reducible refine (impl_namesOf.calls 1 x.f0 true false (!true) _ HNM.out).mono ?_); rintro e wb ⟨rfl, hb⟩; have n0_ := Aside0.mk (bB_ (blk_put (blk_put (blk_put (blk_put a0.out 0 (.int .i64 x.f0) rfl) 1 (.int .i64 x.f1) rfl) 2 (.int .i64 x.f2) rfl) 3 (.int .i64 x.f3) rfl) hb); have n1_ := Aside0.mk (lP_ (by repeat (first | (with_reducible first | exact HBr.out | refine lS1_ ?_ a1.out | refine lS1_ ?_ a2.out) | exact HBr.out)) hb); clear a0 HBr; have a0 := n0_; have HBr := n1_; clear n0_ n1_ hb; (try clear u0_ u1_ u2_ u3_ v0_ v1_ v2_ v3_); have u0_ : wb.cell? ⟨g12, 0, none⟩ = some (.int .i64 x.f0) := (blk_cell a0.out 0).trans rfl; have u1_ : wb.cell? ⟨g12, 1, none⟩ = some (.int .i64 x.f1) := (blk_cell a0.out 1).trans rfl; have u2_ : wb.cell? ⟨g12, 2, none⟩ = some (.int .i64 x.f2) := (blk_cell a0.out 2).trans rfl; have u3_ : wb.cell? ⟨g12, 3, none⟩ = some (.int .i64 x.f3) := (blk_cell a0.out 3).trans rfl; have v0_ := blk_frozen a0.out 0; have v1_ := blk_frozen a0.out 1; have v2_ := blk_frozen a0.out 2; have v3_ := blk_frozen a0.out 3) | ((with_reducible refine gate_dst (N := 13) rfl ?_); refine box_event ?hg (N := 13) ?hd (cs := #[.bool false, .bool false, .bool false]) (t := 47) ?hr ?_; (case hd => rfl); (case hg => rfl); (case hr => first | (go_simp; done) | (go_simp; rfl)); intro g13 hg wd hbox hb; have hne := (show g12 ≠ g13 by rw [hg]; exact Nat.ne_of_lt (blk_lt a0.out)); have hne2 := hne.symm; have a2 := Aside0.mk (show wr.heap.size ≤ g13 by rw [hg]; exact below_size HBr.out); have a3 := Aside0.mk hbox; have n0_ := Aside0.mk (bB_ a0.out hb); have n1_ := Aside0.mk (lP_ HBr.out hb); clear a0 HBr; have a0 := n0_; have HBr := n1_; clear n0_ n1_ hb hbox hg; (try clear u0_ u1_ u2_ u3_ v0_ v1_ v2_ v3_); have u0_ : wd.cell? ⟨g12, 0, none⟩ = some (.int .i64 x.f0) := (blk_cell a0.out 0).trans rfl; have u1_ : wd.cell? ⟨g12, 1, none⟩ = some (.int .i64 x.f1) := (blk_cell a0.out 1).trans rfl; have u2_ : wd.cell? ⟨g12, 2, none⟩ = some (.int .i64 x.f2) := (blk_cell a0.out 2).trans rfl; have u3_ : wd.cell? ⟨g12, 3, none⟩ = some (.int .i64 x.f3) := (blk_cell a0.out 3).trans rfl; have v0_ := blk_frozen a0.out 0; have v1_ := blk_frozen a0.out 1; have v2_ := blk_frozen a0.out 2; have v3_ := blk_frozen a0.out 3; (try clear y0_ y1_ y2_ z0_ z1_ z2_); have y0_ : wd.cell? ⟨g13, 0, none⟩ = some (.bool false) := (blk_cell a3.out 0).trans rfl; have y1_ : wd.cell? ⟨g13, 1, none⟩ = some (.bool false) := (blk_cell a3.out 1).trans rfl; have y2_ : wd.cell? ⟨g13, 2, none⟩ = some (.bool false) := (blk_cell a3.out 2).trans rfl; have z0_ := blk_frozen a3.out 0; have z1_ := blk_frozen a3.out 1; have z2_ := blk_frozen a3.out 2) | (at_lookup; refine wpList_lookup_own_int (H := Unit) _ rfl (.tmp 49) (.tmp 51) 43 rfl 2 2 .i64 int_kd Try.underlying43 Try.underlying2 (by kernel_rfl) B kk D rfl (own_map_below HO.out (by repeat (first | (with_reducible first | exact HBr.out | refine lS1_ ?_ a1.out | refine lS1_ ?_ a2.out) | exact HBr.out))) _ (.int .i64 x.f1) rfl (Go.Maps.keyOf_int_mk Try.underlying2 HW1.out) ?_; intro cc hat hcw; obtain rfl : cc = mp x.f1 := (by have := (HM.out _ HW1.out).symm.trans hat; injection this with this; injection this with _ this; exact this.symm); clear hat hcw) | (go_at_call 23; (with_reducible refine (impl_sheet_both.callsE (mp x.f1) x.f2 (ri, rl, true) (SE.start (stv_below HS.out (by repeat (first | (with_reducible first | exact HBr.out | refine lS1_ ?_ a1.out | refine lS1_ ?_ a2.out) | exact HBr.out))).choose_spec) HL.out HRR.out).mono ?_); rintro e we ⟨rfl, hs, hk⟩; (try dsimp only at hs); (try dsimp only); have n0_ := Aside0.mk (hs.1); have n1_ := Aside0.mk (own_map_keepT (own_map_below HO.out (by repeat (first | (with_reducible first | exact HBr.out | refine lS1_ ?_ a1.out | refine lS1_ ?_ a2.out) | exact HBr.out))) hk); have n2_ := Aside0.mk (R_keepT (Kd.R_below HK.out (by repeat (first | (with_reducible first | exact HBr.out | refine lS1_ ?_ a1.out | refine lS1_ ?_ a2.out) | exact HBr.out))) hk (by decide)); have n3_ := Aside0.mk (blk_keepT (bB_ BK.out (by repeat (first | (with_reducible first | exact HBr.out | refine lS1_ ?_ a1.out | refine lS1_ ?_ a2.out) | exact HBr.out))) hk (by decide) (by decide)); have n4_ := Aside0.mk ((lP_ HB.out (by repeat (first | (with_reducible first | exact HBr.out | refine lS1_ ?_ a1.out | refine lS1_ ?_ a2.out) | exact HBr.out))).trans (hs.2.2.mono NW.out)); clear HS HO HK BK HB; have HS := n0_; have HO := n1_; have HK := n2_; have BK := n3_; have HB := n4_; clear n0_ n1_ n2_ n3_ n4_ hs hk; (try clear q0_ q1_ q2_ f0_ f1_ f2_); have q0_ : we.cell? ⟨g6, 0, none⟩ = some (.int .i64 0) := (blk_cell BK.out 0).trans rfl; have q1_ : we.cell? ⟨g6, 1, none⟩ = some (.int .i64 0) := (blk_cell BK.out 1).trans rfl; have q2_ : we.cell? ⟨g6, 2, none⟩ = some (.slice none 0 0) := (blk_cell BK.out 2).trans rfl; have f0_ := blk_frozen BK.out 0; have f1_ := blk_frozen BK.out 1; have f2_ := blk_frozen BK.out 2) | (at_mapUpdate; refine wpList_mapUpdate_own (H := Unit) _ rfl (.tmp 64) (.tmp 65) (.tmp 71) 43 rfl 2 2 int_kd Try.underlying43 (plainElem Try.prog 2) B kk D rfl HO.out (by show kk < 9223372036854775807; have := HKL.out; omega) _ _ (.int .i64 (kn : Int)) rfl rfl (Go.Maps.keyOf_int_mk Try.underlying2 HW0.out) _ _ (plainElem_int Try.underlying2 HWR.out) ?_; intro wf ho hg; have n0_ := Aside0.mk (stv_grown_map HS.out hg (own_map_is HO.out)); have n1_ := Aside0.mk (R_grown_map HK.out hg (own_map_is HO.out)); have n2_ := Aside0.mk (blk_grown_map BK.out hg (own_map_is HO.out)); have n3_ := Aside0.mk (pw_below_grown HB.out (some B) (below_size HB.out) hg (fun k hk => by injection hk with hk; rw [← hk]; exact GB.out)); have n4_ := Aside0.mk (ho); clear HS HK BK HB HO; have HS := n0_; have HK := n1_; have BK := n2_; have HB := n3_; have HO := n4_; clear n0_ n1_ n2_ n3_ n4_ ho hg; obtain ⟨vs, hvs⟩ := HS.out; have hfull : wf.cell? ⟨S, 1, none⟩ = some (.bool true) := (blk_cell hvs.1 1).trans rfl; clear hvs; (try clear q0_ q1_ q2_ f0_ f1_ f2_); have q0_ : wf.cell? ⟨g6, 0, none⟩ = some (.int .i64 0) := (blk_cell BK.out 0).trans rfl; have q1_ : wf.cell? ⟨g6, 1, none⟩ = some (.int .i64 0) := (blk_cell BK.out 1).trans rfl; have q2_ : wf.cell? ⟨g6, 2, none⟩ = some (.slice none 0 0) := (blk_cell BK.out 2).trans rfl; have f0_ := blk_frozen BK.out 0; have f1_ := blk_frozen BK.out 1; have f2_ := blk_frozen BK.out 2))
                refine bodyPost_ret (results_cell_row rfl _ _ g6 26 #[.int .i64 2, .int .i64 0, .slice none 0 0] (0, 0) _ rfl (blk_put (blk_put (blk_put BK.out 0 _ rfl) 1 _ rfl) 2 _ rfl) Try.underlying26 rfl (by kernel_rfl)) rfl ?_
                exact ⟨_, rfl, Kd.R_nil _ _ _ _ _, lS1_ (lS1_ (lS1_ HB.out GE.out) GE.out) GE.out⟩
            | false =>
              cases hb_ with
              | true =>
                simp only [if_true, Bool.false_eq_true, if_false] at hmA hmB
                subst hmA hmB hhn
                have ht := HT.out
                rw [← HMV.out, if_pos rfl] at ht
                simp only [mvR, Prod.mk.injEq] at ht
                obtain ⟨rfl, rfl, rfl⟩ := ht
                go_wp2_with (first | ((with_reducible refine gate_dst (N := 12) rfl ?_); refine box_event ?hg (N := 12) ?hd (cs := #[.int .i64 0, .int .i64 0, .int .i64 0, .int .i64 0]) (t := 37) ?hr ?_; (case hd => rfl); (case hg => rfl); (case hr => first | (go_simp; done) | (go_simp; rfl)); intro g12 hg wa hbox hb; have HBr := Aside0.mk hb; have a0 := Aside0.mk hbox; have a1 := Aside0.mk (show wr.heap.size ≤ g12 by rw [hg]; exact Nat.le_refl _); clear hb hbox hg; (try clear u0_ u1_ u2_ u3_ v0_ v1_ v2_ v3_); have u0_ : wa.cell? ⟨g12, 0, none⟩ = some (.int .i64 0) := (blk_cell a0.out 0).trans rfl; have u1_ : wa.cell? ⟨g12, 1, none⟩ = some (.int .i64 0) := (blk_cell a0.out 1).trans rfl; have u2_ : wa.cell? ⟨g12, 2, none⟩ = some (.int .i64 0) := (blk_cell a0.out 2).trans rfl; have u3_ : wa.cell? ⟨g12, 3, none⟩ = some (.int .i64 0) := (blk_cell a0.out 3).trans rfl; have v0_ := blk_frozen a0.out 0; have v1_ := blk_frozen a0.out 1; have v2_ := blk_frozen a0.out 2; have v3_ := blk_frozen a0.out 3) | (go_at_call 22; (with_reducible refine (impl_namesOf.calls 1 x.f0 false true (!false) _ HNM.out).mono ?_); rintro e wb ⟨rfl, hb⟩; have n0_ := Aside0.mk (bB_ (blk_put (blk_put (blk_put (blk_put a0.out 0 (.int .i64 x.f0) rfl) 1 (.int .i64 x.f1) rfl) 2 (.int .i64 x.f2) rfl) 3 (.int .i64 x.f3) rfl) hb); have n1_ := Aside0.mk (lP_ (by repeat (first | (with_reducible first | exact HBr.out | refine lS1_ ?_ a1.out | refine lS1_ ?_ a2.out) | exact HBr.out)) hb); clear a0 HBr; have a0 := n0_; have HBr := n1_; clear n0_ n1_ hb; (try clear u0_ u1_ u2_ u3_ v0_ v1_ v2_ v3_); have u0_ : wb.cell? ⟨g12, 0, none⟩ = some (.int .i64 x.f0) := (blk_cell a0.out 0).trans rfl; have u1_ : wb.cell? ⟨g12, 1, none⟩ = some (.int .i64 x.f1) := (blk_cell a0.out 1).trans rfl; have u2_ : wb.cell? ⟨g12, 2, none⟩ = some (.int .i64 x.f2) := (blk_cell a0.out 2).trans rfl; have u3_ : wb.cell? ⟨g12, 3, none⟩ = some (.int .i64 x.f3) := (blk_cell a0.out 3).trans rfl; have v0_ := blk_frozen a0.out 0; have v1_ := blk_frozen a0.out 1; have v2_ := blk_frozen a0.out 2; have v3_ := blk_frozen a0.out 3) | ((with_reducible refine gate_dst (N := 13) rfl ?_); refine box_event ?hg (N := 13) ?hd (cs := #[.bool false, .bool false, .bool false]) (t := 47) ?hr ?_; (case hd => rfl); (case hg => rfl); (case hr => first | (go_simp; done) | (go_simp; rfl)); intro g13 hg wd hbox hb; have hne := (show g12 ≠ g13 by rw [hg]; exact Nat.ne_of_lt (blk_lt a0.out)); have hne2 := hne.symm; have a2 := Aside0.mk (show wr.heap.size ≤ g13 by rw [hg]; exact below_size HBr.out); have a3 := Aside0.mk hbox; have n0_ := Aside0.mk (bB_ a0.out hb); have n1_ := Aside0.mk (lP_ HBr.out hb); clear a0 HBr; have a0 := n0_; have HBr := n1_; clear n0_ n1_ hb hbox hg; (try clear u0_ u1_ u2_ u3_ v0_ v1_ v2_ v3_); have u0_ : wd.cell? ⟨g12, 0, none⟩ = some (.int .i64 x.f0) := (blk_cell a0.out 0).trans rfl; have u1_ : wd.cell? ⟨g12, 1, none⟩ = some (.int .i64 x.f1) := (blk_cell a0.out 1).trans rfl; have u2_ : wd.cell? ⟨g12, 2, none⟩ = some (.int .i64 x.f2) := (blk_cell a0.out 2).trans rfl; have u3_ : wd.cell? ⟨g12, 3, none⟩ = some (.int .i64 x.f3) := (blk_cell a0.out 3).trans rfl; have v0_ := blk_frozen a0.out 0; have v1_ := blk_frozen a0.out 1; have v2_ := blk_frozen a0.out 2; have v3_ := blk_frozen a0.out 3; (try clear y0_ y1_ y2_ z0_ z1_ z2_); have y0_ : wd.cell? ⟨g13, 0, none⟩ = some (.bool false) := (blk_cell a3.out 0).trans rfl; have y1_ : wd.cell? ⟨g13, 1, none⟩ = some (.bool false) := (blk_cell a3.out 1).trans rfl; have y2_ : wd.cell? ⟨g13, 2, none⟩ = some (.bool false) := (blk_cell a3.out 2).trans rfl; have z0_ := blk_frozen a3.out 0; have z1_ := blk_frozen a3.out 1; have z2_ := blk_frozen a3.out 2) | (at_lookup; refine wpList_lookup_own_int (H := Unit) _ rfl (.tmp 56) (.tmp 58) 43 rfl 2 2 .i64 int_kd Try.underlying43 Try.underlying2 (by kernel_rfl) B kk D rfl (own_map_below HO.out (by repeat (first | (with_reducible first | exact HBr.out | refine lS1_ ?_ a1.out | refine lS1_ ?_ a2.out) | exact HBr.out))) _ (.int .i64 x.f2) rfl (Go.Maps.keyOf_int_mk Try.underlying2 HW2.out) ?_; intro cc hat hcw; obtain rfl : cc = mp x.f2 := (by have := (HM.out _ HW2.out).symm.trans hat; injection this with this; injection this with _ this; exact this.symm); clear hat hcw) | (go_at_call 23; (with_reducible refine (impl_sheet_both.callsE x.f1 (mp x.f2) (ri, rl, true) (SE.start (stv_below HS.out (by repeat (first | (with_reducible first | exact HBr.out | refine lS1_ ?_ a1.out | refine lS1_ ?_ a2.out) | exact HBr.out))).choose_spec) HL.out HRR.out).mono ?_); rintro e we ⟨rfl, hs, hk⟩; (try dsimp only at hs); (try dsimp only); have n0_ := Aside0.mk (hs.1); have n1_ := Aside0.mk (own_map_keepT (own_map_below HO.out (by repeat (first | (with_reducible first | exact HBr.out | refine lS1_ ?_ a1.out | refine lS1_ ?_ a2.out) | exact HBr.out))) hk); have n2_ := Aside0.mk (R_keepT (Kd.R_below HK.out (by repeat (first | (with_reducible first | exact HBr.out | refine lS1_ ?_ a1.out | refine lS1_ ?_ a2.out) | exact HBr.out))) hk (by decide)); have n3_ := Aside0.mk (blk_keepT (bB_ BK.out (by repeat (first | (with_reducible first | exact HBr.out | refine lS1_ ?_ a1.out | refine lS1_ ?_ a2.out) | exact HBr.out))) hk (by decide) (by decide)); have n4_ := Aside0.mk ((lP_ HB.out (by repeat (first | (with_reducible first | exact HBr.out | refine lS1_ ?_ a1.out | refine lS1_ ?_ a2.out) | exact HBr.out))).trans (hs.2.2.mono NW.out)); clear HS HO HK BK HB; have HS := n0_; have HO := n1_; have HK := n2_; have BK := n3_; have HB := n4_; clear n0_ n1_ n2_ n3_ n4_ hs hk; (try clear q0_ q1_ q2_ f0_ f1_ f2_); have q0_ : we.cell? ⟨g6, 0, none⟩ = some (.int .i64 0) := (blk_cell BK.out 0).trans rfl; have q1_ : we.cell? ⟨g6, 1, none⟩ = some (.int .i64 0) := (blk_cell BK.out 1).trans rfl; have q2_ : we.cell? ⟨g6, 2, none⟩ = some (.slice none 0 0) := (blk_cell BK.out 2).trans rfl; have f0_ := blk_frozen BK.out 0; have f1_ := blk_frozen BK.out 1; have f2_ := blk_frozen BK.out 2) | (at_mapUpdate; refine wpList_mapUpdate_own (H := Unit) _ rfl (.tmp 64) (.tmp 65) (.tmp 71) 43 rfl 2 2 int_kd Try.underlying43 (plainElem Try.prog 2) B kk D rfl HO.out (by show kk < 9223372036854775807; have := HKL.out; omega) _ _ (.int .i64 (kn : Int)) rfl rfl (Go.Maps.keyOf_int_mk Try.underlying2 HW0.out) _ _ (plainElem_int Try.underlying2 HWR.out) ?_; intro wf ho hg; have n0_ := Aside0.mk (stv_grown_map HS.out hg (own_map_is HO.out)); have n1_ := Aside0.mk (R_grown_map HK.out hg (own_map_is HO.out)); have n2_ := Aside0.mk (blk_grown_map BK.out hg (own_map_is HO.out)); have n3_ := Aside0.mk (pw_below_grown HB.out (some B) (below_size HB.out) hg (fun k hk => by injection hk with hk; rw [← hk]; exact GB.out)); have n4_ := Aside0.mk (ho); clear HS HK BK HB HO; have HS := n0_; have HK := n1_; have BK := n2_; have HB := n3_; have HO := n4_; clear n0_ n1_ n2_ n3_ n4_ ho hg; obtain ⟨vs, hvs⟩ := HS.out; have hfull : wf.cell? ⟨S, 1, none⟩ = some (.bool true) := (blk_cell hvs.1 1).trans rfl; clear hvs; (try clear q0_ q1_ q2_ f0_ f1_ f2_); have q0_ : wf.cell? ⟨g6, 0, none⟩ = some (.int .i64 0) := (blk_cell BK.out 0).trans rfl; have q1_ : wf.cell? ⟨g6, 1, none⟩ = some (.int .i64 0) := (blk_cell BK.out 1).trans rfl; have q2_ : wf.cell? ⟨g6, 2, none⟩ = some (.slice none 0 0) := (blk_cell BK.out 2).trans rfl; have f0_ := blk_frozen BK.out 0; have f1_ := blk_frozen BK.out 1; have f2_ := blk_frozen BK.out 2))
                refine bodyPost_ret (results_cell_row rfl _ _ g6 26 #[.int .i64 2, .int .i64 0, .slice none 0 0] (0, 0) _ rfl (blk_put (blk_put (blk_put BK.out 0 _ rfl) 1 _ rfl) 2 _ rfl) Try.underlying26 rfl (by kernel_rfl)) rfl ?_
                exact ⟨_, rfl, Kd.R_nil _ _ _ _ _, lS1_ (lS1_ (lS1_ HB.out GE.out) GE.out) GE.out⟩
              | false =>
                simp only [if_true, Bool.false_eq_true, if_false] at hmA hmB
                subst hmA hmB hhn
                have ht := HT.out
                rw [← HMV.out, if_pos rfl] at ht
                simp only [mvR, Prod.mk.injEq] at ht
                obtain ⟨rfl, rfl, rfl⟩ := ht
                go_wp2_with (first | ((with_reducible refine gate_dst (N := 12) rfl ?_); refine box_event ?hg (N := 12) ?hd (cs := #[.int .i64 0, .int .i64 0, .int .i64 0, .int .i64 0]) (t := 37) ?hr ?_; (case hd => rfl); (case hg => rfl); (case hr => first | (go_simp; done) | (go_simp; rfl)); intro g12 hg wa hbox hb; have HBr := Aside0.mk hb; have a0 := Aside0.mk hbox; have a1 := Aside0.mk (show wr.heap.size ≤ g12 by rw [hg]; exact Nat.le_refl _); clear hb hbox hg; (try clear u0_ u1_ u2_ u3_ v0_ v1_ v2_ v3_); have u0_ : wa.cell? ⟨g12, 0, none⟩ = some (.int .i64 0) := (blk_cell a0.out 0).trans rfl; have u1_ : wa.cell? ⟨g12, 1, none⟩ = some (.int .i64 0) := (blk_cell a0.out 1).trans rfl; have u2_ : wa.cell? ⟨g12, 2, none⟩ = some (.int .i64 0) := (blk_cell a0.out 2).trans rfl; have u3_ : wa.cell? ⟨g12, 3, none⟩ = some (.int .i64 0) := (blk_cell a0.out 3).trans rfl; have v0_ := blk_frozen a0.out 0; have v1_ := blk_frozen a0.out 1; have v2_ := blk_frozen a0.out 2; have v3_ := blk_frozen a0.out 3) | (go_at_call 22; (with_reducible refine (impl_namesOf.calls 1 x.f0 false false (!false) _ HNM.out).mono ?_); rintro e wb ⟨rfl, hb⟩; have n0_ := Aside0.mk (bB_ (blk_put (blk_put (blk_put (blk_put a0.out 0 (.int .i64 x.f0) rfl) 1 (.int .i64 x.f1) rfl) 2 (.int .i64 x.f2) rfl) 3 (.int .i64 x.f3) rfl) hb); have n1_ := Aside0.mk (lP_ (by repeat (first | (with_reducible first | exact HBr.out | refine lS1_ ?_ a1.out | refine lS1_ ?_ a2.out) | exact HBr.out)) hb); clear a0 HBr; have a0 := n0_; have HBr := n1_; clear n0_ n1_ hb; (try clear u0_ u1_ u2_ u3_ v0_ v1_ v2_ v3_); have u0_ : wb.cell? ⟨g12, 0, none⟩ = some (.int .i64 x.f0) := (blk_cell a0.out 0).trans rfl; have u1_ : wb.cell? ⟨g12, 1, none⟩ = some (.int .i64 x.f1) := (blk_cell a0.out 1).trans rfl; have u2_ : wb.cell? ⟨g12, 2, none⟩ = some (.int .i64 x.f2) := (blk_cell a0.out 2).trans rfl; have u3_ : wb.cell? ⟨g12, 3, none⟩ = some (.int .i64 x.f3) := (blk_cell a0.out 3).trans rfl; have v0_ := blk_frozen a0.out 0; have v1_ := blk_frozen a0.out 1; have v2_ := blk_frozen a0.out 2; have v3_ := blk_frozen a0.out 3) | ((with_reducible refine gate_dst (N := 13) rfl ?_); refine box_event ?hg (N := 13) ?hd (cs := #[.bool false, .bool false, .bool false]) (t := 47) ?hr ?_; (case hd => rfl); (case hg => rfl); (case hr => first | (go_simp; done) | (go_simp; rfl)); intro g13 hg wd hbox hb; have hne := (show g12 ≠ g13 by rw [hg]; exact Nat.ne_of_lt (blk_lt a0.out)); have hne2 := hne.symm; have a2 := Aside0.mk (show wr.heap.size ≤ g13 by rw [hg]; exact below_size HBr.out); have a3 := Aside0.mk hbox; have n0_ := Aside0.mk (bB_ a0.out hb); have n1_ := Aside0.mk (lP_ HBr.out hb); clear a0 HBr; have a0 := n0_; have HBr := n1_; clear n0_ n1_ hb hbox hg; (try clear u0_ u1_ u2_ u3_ v0_ v1_ v2_ v3_); have u0_ : wd.cell? ⟨g12, 0, none⟩ = some (.int .i64 x.f0) := (blk_cell a0.out 0).trans rfl; have u1_ : wd.cell? ⟨g12, 1, none⟩ = some (.int .i64 x.f1) := (blk_cell a0.out 1).trans rfl; have u2_ : wd.cell? ⟨g12, 2, none⟩ = some (.int .i64 x.f2) := (blk_cell a0.out 2).trans rfl; have u3_ : wd.cell? ⟨g12, 3, none⟩ = some (.int .i64 x.f3) := (blk_cell a0.out 3).trans rfl; have v0_ := blk_frozen a0.out 0; have v1_ := blk_frozen a0.out 1; have v2_ := blk_frozen a0.out 2; have v3_ := blk_frozen a0.out 3; (try clear y0_ y1_ y2_ z0_ z1_ z2_); have y0_ : wd.cell? ⟨g13, 0, none⟩ = some (.bool false) := (blk_cell a3.out 0).trans rfl; have y1_ : wd.cell? ⟨g13, 1, none⟩ = some (.bool false) := (blk_cell a3.out 1).trans rfl; have y2_ : wd.cell? ⟨g13, 2, none⟩ = some (.bool false) := (blk_cell a3.out 2).trans rfl; have z0_ := blk_frozen a3.out 0; have z1_ := blk_frozen a3.out 1; have z2_ := blk_frozen a3.out 2) | (go_at_call 23; (with_reducible refine (impl_sheet_both.callsE x.f1 x.f2 (ri, rl, true) (SE.start (stv_below HS.out (by repeat (first | (with_reducible first | exact HBr.out | refine lS1_ ?_ a1.out | refine lS1_ ?_ a2.out) | exact HBr.out))).choose_spec) HL.out HRR.out).mono ?_); rintro e we ⟨rfl, hs, hk⟩; (try dsimp only at hs); (try dsimp only); have n0_ := Aside0.mk (hs.1); have n1_ := Aside0.mk (own_map_keepT (own_map_below HO.out (by repeat (first | (with_reducible first | exact HBr.out | refine lS1_ ?_ a1.out | refine lS1_ ?_ a2.out) | exact HBr.out))) hk); have n2_ := Aside0.mk (R_keepT (Kd.R_below HK.out (by repeat (first | (with_reducible first | exact HBr.out | refine lS1_ ?_ a1.out | refine lS1_ ?_ a2.out) | exact HBr.out))) hk (by decide)); have n3_ := Aside0.mk (blk_keepT (bB_ BK.out (by repeat (first | (with_reducible first | exact HBr.out | refine lS1_ ?_ a1.out | refine lS1_ ?_ a2.out) | exact HBr.out))) hk (by decide) (by decide)); have n4_ := Aside0.mk ((lP_ HB.out (by repeat (first | (with_reducible first | exact HBr.out | refine lS1_ ?_ a1.out | refine lS1_ ?_ a2.out) | exact HBr.out))).trans (hs.2.2.mono NW.out)); clear HS HO HK BK HB; have HS := n0_; have HO := n1_; have HK := n2_; have BK := n3_; have HB := n4_; clear n0_ n1_ n2_ n3_ n4_ hs hk; (try clear q0_ q1_ q2_ f0_ f1_ f2_); have q0_ : we.cell? ⟨g6, 0, none⟩ = some (.int .i64 0) := (blk_cell BK.out 0).trans rfl; have q1_ : we.cell? ⟨g6, 1, none⟩ = some (.int .i64 0) := (blk_cell BK.out 1).trans rfl; have q2_ : we.cell? ⟨g6, 2, none⟩ = some (.slice none 0 0) := (blk_cell BK.out 2).trans rfl; have f0_ := blk_frozen BK.out 0; have f1_ := blk_frozen BK.out 1; have f2_ := blk_frozen BK.out 2) | (at_mapUpdate; refine wpList_mapUpdate_own (H := Unit) _ rfl (.tmp 64) (.tmp 65) (.tmp 71) 43 rfl 2 2 int_kd Try.underlying43 (plainElem Try.prog 2) B kk D rfl HO.out (by show kk < 9223372036854775807; have := HKL.out; omega) _ _ (.int .i64 (kn : Int)) rfl rfl (Go.Maps.keyOf_int_mk Try.underlying2 HW0.out) _ _ (plainElem_int Try.underlying2 HWR.out) ?_; intro wf ho hg; have n0_ := Aside0.mk (stv_grown_map HS.out hg (own_map_is HO.out)); have n1_ := Aside0.mk (R_grown_map HK.out hg (own_map_is HO.out)); have n2_ := Aside0.mk (blk_grown_map BK.out hg (own_map_is HO.out)); have n3_ := Aside0.mk (pw_below_grown HB.out (some B) (below_size HB.out) hg (fun k hk => by injection hk with hk; rw [← hk]; exact GB.out)); have n4_ := Aside0.mk (ho); clear HS HK BK HB HO; have HS := n0_; have HK := n1_; have BK := n2_; have HB := n3_; have HO := n4_; clear n0_ n1_ n2_ n3_ n4_ ho hg; obtain ⟨vs, hvs⟩ := HS.out; have hfull : wf.cell? ⟨S, 1, none⟩ = some (.bool true) := (blk_cell hvs.1 1).trans rfl; clear hvs; (try clear q0_ q1_ q2_ f0_ f1_ f2_); have q0_ : wf.cell? ⟨g6, 0, none⟩ = some (.int .i64 0) := (blk_cell BK.out 0).trans rfl; have q1_ : wf.cell? ⟨g6, 1, none⟩ = some (.int .i64 0) := (blk_cell BK.out 1).trans rfl; have q2_ : wf.cell? ⟨g6, 2, none⟩ = some (.slice none 0 0) := (blk_cell BK.out 2).trans rfl; have f0_ := blk_frozen BK.out 0; have f1_ := blk_frozen BK.out 1; have f2_ := blk_frozen BK.out 2))
                refine bodyPost_ret (results_cell_row rfl _ _ g6 26 #[.int .i64 2, .int .i64 0, .slice none 0 0] (0, 0) _ rfl (blk_put (blk_put (blk_put BK.out 0 _ rfl) 1 _ rfl) 2 _ rfl) Try.underlying26 rfl (by kernel_rfl)) rfl ?_
                exact ⟨_, rfl, Kd.R_nil _ _ _ _ _, lS1_ (lS1_ (lS1_ HB.out GE.out) GE.out) GE.out⟩
          | false =>
            cases ha with
            | true =>
              cases hb_ with
              | true =>
                simp only [if_true, Bool.false_eq_true, if_false] at hmA hmB
                subst hmA hmB hhn
                have ht := HMV.out
                rw [if_neg (by decide)] at ht
                go_wp2_with (first | ((with_reducible refine gate_dst (N := 12) rfl ?_); refine box_event ?hg (N := 12) ?hd (cs := #[.int .i64 0, .int .i64 0, .int .i64 0, .int .i64 0]) (t := 37) ?hr ?_; (case hd => rfl); (case hg => rfl); (case hr => first | (go_simp; done) | (go_simp; rfl)); intro g12 hg wa hbox hb; have HBr := Aside0.mk hb; have a0 := Aside0.mk hbox; have a1 := Aside0.mk (show wr.heap.size ≤ g12 by rw [hg]; exact Nat.le_refl _); clear hb hbox hg; (try clear u0_ u1_ u2_ u3_ v0_ v1_ v2_ v3_); have u0_ : wa.cell? ⟨g12, 0, none⟩ = some (.int .i64 0) := (blk_cell a0.out 0).trans rfl; have u1_ : wa.cell? ⟨g12, 1, none⟩ = some (.int .i64 0) := (blk_cell a0.out 1).trans rfl; have u2_ : wa.cell? ⟨g12, 2, none⟩ = some (.int .i64 0) := (blk_cell a0.out 2).trans rfl; have u3_ : wa.cell? ⟨g12, 3, none⟩ = some (.int .i64 0) := (blk_cell a0.out 3).trans rfl; have v0_ := blk_frozen a0.out 0; have v1_ := blk_frozen a0.out 1; have v2_ := blk_frozen a0.out 2; have v3_ := blk_frozen a0.out 3) | (go_at_call 22; (with_reducible refine (impl_namesOf.calls 1 x.f0 true true (!true) _ HNM.out).mono ?_); rintro e wb ⟨rfl, hb⟩; have n0_ := Aside0.mk (bB_ (blk_put (blk_put (blk_put (blk_put a0.out 0 (.int .i64 x.f0) rfl) 1 (.int .i64 x.f1) rfl) 2 (.int .i64 x.f2) rfl) 3 (.int .i64 x.f3) rfl) hb); have n1_ := Aside0.mk (lP_ (by repeat (first | (with_reducible first | exact HBr.out | refine lS1_ ?_ a1.out | refine lS1_ ?_ a2.out) | exact HBr.out)) hb); clear a0 HBr; have a0 := n0_; have HBr := n1_; clear n0_ n1_ hb; (try clear u0_ u1_ u2_ u3_ v0_ v1_ v2_ v3_); have u0_ : wb.cell? ⟨g12, 0, none⟩ = some (.int .i64 x.f0) := (blk_cell a0.out 0).trans rfl; have u1_ : wb.cell? ⟨g12, 1, none⟩ = some (.int .i64 x.f1) := (blk_cell a0.out 1).trans rfl; have u2_ : wb.cell? ⟨g12, 2, none⟩ = some (.int .i64 x.f2) := (blk_cell a0.out 2).trans rfl; have u3_ : wb.cell? ⟨g12, 3, none⟩ = some (.int .i64 x.f3) := (blk_cell a0.out 3).trans rfl; have v0_ := blk_frozen a0.out 0; have v1_ := blk_frozen a0.out 1; have v2_ := blk_frozen a0.out 2; have v3_ := blk_frozen a0.out 3) | ((with_reducible refine gate_dst (N := 13) rfl ?_); refine box_event ?hg (N := 13) ?hd (cs := #[.bool false, .bool false, .bool false]) (t := 47) ?hr ?_; (case hd => rfl); (case hg => rfl); (case hr => first | (go_simp; done) | (go_simp; rfl)); intro g13 hg wd hbox hb; have hne := (show g12 ≠ g13 by rw [hg]; exact Nat.ne_of_lt (blk_lt a0.out)); have hne2 := hne.symm; have a2 := Aside0.mk (show wr.heap.size ≤ g13 by rw [hg]; exact below_size HBr.out); have a3 := Aside0.mk hbox; have n0_ := Aside0.mk (bB_ a0.out hb); have n1_ := Aside0.mk (lP_ HBr.out hb); clear a0 HBr; have a0 := n0_; have HBr := n1_; clear n0_ n1_ hb hbox hg; (try clear u0_ u1_ u2_ u3_ v0_ v1_ v2_ v3_); have u0_ : wd.cell? ⟨g12, 0, none⟩ = some (.int .i64 x.f0) := (blk_cell a0.out 0).trans rfl; have u1_ : wd.cell? ⟨g12, 1, none⟩ = some (.int .i64 x.f1) := (blk_cell a0.out 1).trans rfl; have u2_ : wd.cell? ⟨g12, 2, none⟩ = some (.int .i64 x.f2) := (blk_cell a0.out 2).trans rfl; have u3_ : wd.cell? ⟨g12, 3, none⟩ = some (.int .i64 x.f3) := (blk_cell a0.out 3).trans rfl; have v0_ := blk_frozen a0.out 0; have v1_ := blk_frozen a0.out 1; have v2_ := blk_frozen a0.out 2; have v3_ := blk_frozen a0.out 3; (try clear y0_ y1_ y2_ z0_ z1_ z2_); have y0_ : wd.cell? ⟨g13, 0, none⟩ = some (.bool false) := (blk_cell a3.out 0).trans rfl; have y1_ : wd.cell? ⟨g13, 1, none⟩ = some (.bool false) := (blk_cell a3.out 1).trans rfl; have y2_ : wd.cell? ⟨g13, 2, none⟩ = some (.bool false) := (blk_cell a3.out 2).trans rfl; have z0_ := blk_frozen a3.out 0; have z1_ := blk_frozen a3.out 1; have z2_ := blk_frozen a3.out 2) | (at_lookup; refine wpList_lookup_own_int (H := Unit) _ rfl (.tmp 49) (.tmp 51) 43 rfl 2 2 .i64 int_kd Try.underlying43 Try.underlying2 (by kernel_rfl) B kk D rfl (own_map_below HO.out (by repeat (first | (with_reducible first | exact HBr.out | refine lS1_ ?_ a1.out | refine lS1_ ?_ a2.out) | exact HBr.out))) _ (.int .i64 x.f1) rfl (Go.Maps.keyOf_int_mk Try.underlying2 HW1.out) ?_; intro cc hat hcw; obtain rfl : cc = mp x.f1 := (by have := (HM.out _ HW1.out).symm.trans hat; injection this with this; injection this with _ this; exact this.symm); clear hat hcw) | (at_lookup; refine wpList_lookup_own_int (H := Unit) _ rfl (.tmp 56) (.tmp 58) 43 rfl 2 2 .i64 int_kd Try.underlying43 Try.underlying2 (by kernel_rfl) B kk D rfl (own_map_below HO.out (by repeat (first | (with_reducible first | exact HBr.out | refine lS1_ ?_ a1.out | refine lS1_ ?_ a2.out) | exact HBr.out))) _ (.int .i64 x.f2) rfl (Go.Maps.keyOf_int_mk Try.underlying2 HW2.out) ?_; intro cc hat hcw; obtain rfl : cc = mp x.f2 := (by have := (HM.out _ HW2.out).symm.trans hat; injection this with this; injection this with _ this; exact this.symm); clear hat hcw) | (go_at_call 23; (with_reducible refine (impl_sheet_both.callsE (mp x.f1) (mp x.f2) (ri, rl, false) (SE.start (stv_below HS.out (by repeat (first | (with_reducible first | exact HBr.out | refine lS1_ ?_ a1.out | refine lS1_ ?_ a2.out) | exact HBr.out))).choose_spec) HL.out HRR.out).mono ?_); rintro e we ⟨rfl, hs, hk⟩; (try dsimp only at hs); (try dsimp only); have n0_ := Aside0.mk (hs.1); have n1_ := Aside0.mk (own_map_keepT (own_map_below HO.out (by repeat (first | (with_reducible first | exact HBr.out | refine lS1_ ?_ a1.out | refine lS1_ ?_ a2.out) | exact HBr.out))) hk); have n2_ := Aside0.mk (R_keepT (Kd.R_below HK.out (by repeat (first | (with_reducible first | exact HBr.out | refine lS1_ ?_ a1.out | refine lS1_ ?_ a2.out) | exact HBr.out))) hk (by decide)); have n3_ := Aside0.mk (blk_keepT (bB_ BK.out (by repeat (first | (with_reducible first | exact HBr.out | refine lS1_ ?_ a1.out | refine lS1_ ?_ a2.out) | exact HBr.out))) hk (by decide) (by decide)); have n4_ := Aside0.mk ((lP_ HB.out (by repeat (first | (with_reducible first | exact HBr.out | refine lS1_ ?_ a1.out | refine lS1_ ?_ a2.out) | exact HBr.out))).trans (hs.2.2.mono NW.out)); clear HS HO HK BK HB; have HS := n0_; have HO := n1_; have HK := n2_; have BK := n3_; have HB := n4_; clear n0_ n1_ n2_ n3_ n4_ hs hk; (try clear q0_ q1_ q2_ f0_ f1_ f2_); have q0_ : we.cell? ⟨g6, 0, none⟩ = some (.int .i64 0) := (blk_cell BK.out 0).trans rfl; have q1_ : we.cell? ⟨g6, 1, none⟩ = some (.int .i64 0) := (blk_cell BK.out 1).trans rfl; have q2_ : we.cell? ⟨g6, 2, none⟩ = some (.slice none 0 0) := (blk_cell BK.out 2).trans rfl; have f0_ := blk_frozen BK.out 0; have f1_ := blk_frozen BK.out 1; have f2_ := blk_frozen BK.out 2) | (at_mapUpdate; refine wpList_mapUpdate_own (H := Unit) _ rfl (.tmp 64) (.tmp 65) (.tmp 71) 43 rfl 2 2 int_kd Try.underlying43 (plainElem Try.prog 2) B kk D rfl HO.out (by show kk < 9223372036854775807; have := HKL.out; omega) _ _ (.int .i64 (kn : Int)) rfl rfl (Go.Maps.keyOf_int_mk Try.underlying2 HW0.out) _ _ (plainElem_int Try.underlying2 HWR.out) ?_; intro wf ho hg; have n0_ := Aside0.mk (stv_grown_map HS.out hg (own_map_is HO.out)); have n1_ := Aside0.mk (R_grown_map HK.out hg (own_map_is HO.out)); have n2_ := Aside0.mk (blk_grown_map BK.out hg (own_map_is HO.out)); have n3_ := Aside0.mk (pw_below_grown HB.out (some B) (below_size HB.out) hg (fun k hk => by injection hk with hk; rw [← hk]; exact GB.out)); have n4_ := Aside0.mk (ho); clear HS HK BK HB HO; have HS := n0_; have HK := n1_; have BK := n2_; have HB := n3_; have HO := n4_; clear n0_ n1_ n2_ n3_ n4_ ho hg; obtain ⟨vs, hvs⟩ := HS.out; have hfull : wf.cell? ⟨S, 1, none⟩ = some (.bool false) := (blk_cell hvs.1 1).trans rfl; clear hvs; (try clear q0_ q1_ q2_ f0_ f1_ f2_); have q0_ : wf.cell? ⟨g6, 0, none⟩ = some (.int .i64 0) := (blk_cell BK.out 0).trans rfl; have q1_ : wf.cell? ⟨g6, 1, none⟩ = some (.int .i64 0) := (blk_cell BK.out 1).trans rfl; have q2_ : wf.cell? ⟨g6, 2, none⟩ = some (.slice none 0 0) := (blk_cell BK.out 2).trans rfl; have f0_ := blk_frozen BK.out 0; have f1_ := blk_frozen BK.out 1; have f2_ := blk_frozen BK.out 2))
                go_roundg (ks.length - (kk + 1))
                case measure => omega
                case rel => exact ⟨kk + 1, rl, mput mp (kn : Int) ri, D.put (.int .i64 (kn : Int)) (.lit (.int .i64 ri)), by omega, by omega, by go_num, ⟨ht⟩, HLR, HS, HO, ⟨HD.out.put _ _⟩, ⟨mvd_put HM.out HD.out HW0.out⟩, BK, HK, HB⟩
              | false =>
                simp only [if_true, Bool.false_eq_true, if_false] at hmA hmB
                subst hmA hmB hhn
                have ht := HMV.out
                rw [if_neg (by decide)] at ht
                go_wp2_with (first | ((with_reducible refine gate_dst (N := 12) rfl ?_); refine box_event ?hg (N := 12) ?hd (cs := #[.int .i64 0, .int .i64 0, .int .i64 0, .int .i64 0]) (t := 37) ?hr ?_; (case hd => rfl); (case hg => rfl); (case hr => first | (go_simp; done) | (go_simp; rfl)); intro g12 hg wa hbox hb; have HBr := Aside0.mk hb; have a0 := Aside0.mk hbox; have a1 := Aside0.mk (show wr.heap.size ≤ g12 by rw [hg]; exact Nat.le_refl _); clear hb hbox hg; (try clear u0_ u1_ u2_ u3_ v0_ v1_ v2_ v3_); have u0_ : wa.cell? ⟨g12, 0, none⟩ = some (.int .i64 0) := (blk_cell a0.out 0).trans rfl; have u1_ : wa.cell? ⟨g12, 1, none⟩ = some (.int .i64 0) := (blk_cell a0.out 1).trans rfl; have u2_ : wa.cell? ⟨g12, 2, none⟩ = some (.int .i64 0) := (blk_cell a0.out 2).trans rfl; have u3_ : wa.cell? ⟨g12, 3, none⟩ = some (.int .i64 0) := (blk_cell a0.out 3).trans rfl; have v0_ := blk_frozen a0.out 0; have v1_ := blk_frozen a0.out 1; have v2_ := blk_frozen a0.out 2; have v3_ := blk_frozen a0.out 3) | (go_at_call 22; (with_reducible refine (impl_namesOf.calls 1 x.f0 true false (!true) _ HNM.out).mono ?_); rintro e wb ⟨rfl, hb⟩; have n0_ := Aside0.mk (bB_ (blk_put (blk_put (blk_put (blk_put a0.out 0 (.int .i64 x.f0) rfl) 1 (.int .i64 x.f1) rfl) 2 (.int .i64 x.f2) rfl) 3 (.int .i64 x.f3) rfl) hb); have n1_ := Aside0.mk (lP_ (by repeat (first | (with_reducible first | exact HBr.out | refine lS1_ ?_ a1.out | refine lS1_ ?_ a2.out) | exact HBr.out)) hb); clear a0 HBr; have a0 := n0_; have HBr := n1_; clear n0_ n1_ hb; (try clear u0_ u1_ u2_ u3_ v0_ v1_ v2_ v3_); have u0_ : wb.cell? ⟨g12, 0, none⟩ = some (.int .i64 x.f0) := (blk_cell a0.out 0).trans rfl; have u1_ : wb.cell? ⟨g12, 1, none⟩ = some (.int .i64 x.f1) := (blk_cell a0.out 1).trans rfl; have u2_ : wb.cell? ⟨g12, 2, none⟩ = some (.int .i64 x.f2) := (blk_cell a0.out 2).trans rfl; have u3_ : wb.cell? ⟨g12, 3, none⟩ = some (.int .i64 x.f3) := (blk_cell a0.out 3).trans rfl; have v0_ := blk_frozen a0.out 0; have v1_ := blk_frozen a0.out 1; have v2_ := blk_frozen a0.out 2; have v3_ := blk_frozen a0.out 3) | ((with_reducible refine gate_dst (N := 13) rfl ?_); refine box_event ?hg (N := 13) ?hd (cs := #[.bool false, .bool false, .bool false]) (t := 47) ?hr ?_; (case hd => rfl); (case hg => rfl); (case hr => first | (go_simp; done) | (go_simp; rfl)); intro g13 hg wd hbox hb; have hne := (show g12 ≠ g13 by rw [hg]; exact Nat.ne_of_lt (blk_lt a0.out)); have hne2 := hne.symm; have a2 := Aside0.mk (show wr.heap.size ≤ g13 by rw [hg]; exact below_size HBr.out); have a3 := Aside0.mk hbox; have n0_ := Aside0.mk (bB_ a0.out hb); have n1_ := Aside0.mk (lP_ HBr.out hb); clear a0 HBr; have a0 := n0_; have HBr := n1_; clear n0_ n1_ hb hbox hg; (try clear u0_ u1_ u2_ u3_ v0_ v1_ v2_ v3_); have u0_ : wd.cell? ⟨g12, 0, none⟩ = some (.int .i64 x.f0) := (blk_cell a0.out 0).trans rfl; have u1_ : wd.cell? ⟨g12, 1, none⟩ = some (.int .i64 x.f1) := (blk_cell a0.out 1).trans rfl; have u2_ : wd.cell? ⟨g12, 2, none⟩ = some (.int .i64 x.f2) := (blk_cell a0.out 2).trans rfl; have u3_ : wd.cell? ⟨g12, 3, none⟩ = some (.int .i64 x.f3) := (blk_cell a0.out 3).trans rfl; have v0_ := blk_frozen a0.out 0; have v1_ := blk_frozen a0.out 1; have v2_ := blk_frozen a0.out 2; have v3_ := blk_frozen a0.out 3; (try clear y0_ y1_ y2_ z0_ z1_ z2_); have y0_ : wd.cell? ⟨g13, 0, none⟩ = some (.bool false) := (blk_cell a3.out 0).trans rfl; have y1_ : wd.cell? ⟨g13, 1, none⟩ = some (.bool false) := (blk_cell a3.out 1).trans rfl; have y2_ : wd.cell? ⟨g13, 2, none⟩ = some (.bool false) := (blk_cell a3.out 2).trans rfl; have z0_ := blk_frozen a3.out 0; have z1_ := blk_frozen a3.out 1; have z2_ := blk_frozen a3.out 2) | (at_lookup; refine wpList_lookup_own_int (H := Unit) _ rfl (.tmp 49) (.tmp 51) 43 rfl 2 2 .i64 int_kd Try.underlying43 Try.underlying2 (by kernel_rfl) B kk D rfl (own_map_below HO.out (by repeat (first | (with_reducible first | exact HBr.out | refine lS1_ ?_ a1.out | refine lS1_ ?_ a2.out) | exact HBr.out))) _ (.int .i64 x.f1) rfl (Go.Maps.keyOf_int_mk Try.underlying2 HW1.out) ?_; intro cc hat hcw; obtain rfl : cc = mp x.f1 := (by have := (HM.out _ HW1.out).symm.trans hat; injection this with this; injection this with _ this; exact this.symm); clear hat hcw) | (go_at_call 23; (with_reducible refine (impl_sheet_both.callsE (mp x.f1) x.f2 (ri, rl, false) (SE.start (stv_below HS.out (by repeat (first | (with_reducible first | exact HBr.out | refine lS1_ ?_ a1.out | refine lS1_ ?_ a2.out) | exact HBr.out))).choose_spec) HL.out HRR.out).mono ?_); rintro e we ⟨rfl, hs, hk⟩; (try dsimp only at hs); (try dsimp only); have n0_ := Aside0.mk (hs.1); have n1_ := Aside0.mk (own_map_keepT (own_map_below HO.out (by repeat (first | (with_reducible first | exact HBr.out | refine lS1_ ?_ a1.out | refine lS1_ ?_ a2.out) | exact HBr.out))) hk); have n2_ := Aside0.mk (R_keepT (Kd.R_below HK.out (by repeat (first | (with_reducible first | exact HBr.out | refine lS1_ ?_ a1.out | refine lS1_ ?_ a2.out) | exact HBr.out))) hk (by decide)); have n3_ := Aside0.mk (blk_keepT (bB_ BK.out (by repeat (first | (with_reducible first | exact HBr.out | refine lS1_ ?_ a1.out | refine lS1_ ?_ a2.out) | exact HBr.out))) hk (by decide) (by decide)); have n4_ := Aside0.mk ((lP_ HB.out (by repeat (first | (with_reducible first | exact HBr.out | refine lS1_ ?_ a1.out | refine lS1_ ?_ a2.out) | exact HBr.out))).trans (hs.2.2.mono NW.out)); clear HS HO HK BK HB; have HS := n0_; have HO := n1_; have HK := n2_; have BK := n3_; have HB := n4_; clear n0_ n1_ n2_ n3_ n4_ hs hk; (try clear q0_ q1_ q2_ f0_ f1_ f2_); have q0_ : we.cell? ⟨g6, 0, none⟩ = some (.int .i64 0) := (blk_cell BK.out 0).trans rfl; have q1_ : we.cell? ⟨g6, 1, none⟩ = some (.int .i64 0) := (blk_cell BK.out 1).trans rfl; have q2_ : we.cell? ⟨g6, 2, none⟩ = some (.slice none 0 0) := (blk_cell BK.out 2).trans rfl; have f0_ := blk_frozen BK.out 0; have f1_ := blk_frozen BK.out 1; have f2_ := blk_frozen BK.out 2) | (at_mapUpdate; refine wpList_mapUpdate_own (H := Unit) _ rfl (.tmp 64) (.tmp 65) (.tmp 71) 43 rfl 2 2 int_kd Try.underlying43 (plainElem Try.prog 2) B kk D rfl HO.out (by show kk < 9223372036854775807; have := HKL.out; omega) _ _ (.int .i64 (kn : Int)) rfl rfl (Go.Maps.keyOf_int_mk Try.underlying2 HW0.out) _ _ (plainElem_int Try.underlying2 HWR.out) ?_; intro wf ho hg; have n0_ := Aside0.mk (stv_grown_map HS.out hg (own_map_is HO.out)); have n1_ := Aside0.mk (R_grown_map HK.out hg (own_map_is HO.out)); have n2_ := Aside0.mk (blk_grown_map BK.out hg (own_map_is HO.out)); have n3_ := Aside0.mk (pw_below_grown HB.out (some B) (below_size HB.out) hg (fun k hk => by injection hk with hk; rw [← hk]; exact GB.out)); have n4_ := Aside0.mk (ho); clear HS HK BK HB HO; have HS := n0_; have HK := n1_; have BK := n2_; have HB := n3_; have HO := n4_; clear n0_ n1_ n2_ n3_ n4_ ho hg; obtain ⟨vs, hvs⟩ := HS.out; have hfull : wf.cell? ⟨S, 1, none⟩ = some (.bool false) := (blk_cell hvs.1 1).trans rfl; clear hvs; (try clear q0_ q1_ q2_ f0_ f1_ f2_); have q0_ : wf.cell? ⟨g6, 0, none⟩ = some (.int .i64 0) := (blk_cell BK.out 0).trans rfl; have q1_ : wf.cell? ⟨g6, 1, none⟩ = some (.int .i64 0) := (blk_cell BK.out 1).trans rfl; have q2_ : wf.cell? ⟨g6, 2, none⟩ = some (.slice none 0 0) := (blk_cell BK.out 2).trans rfl; have f0_ := blk_frozen BK.out 0; have f1_ := blk_frozen BK.out 1; have f2_ := blk_frozen BK.out 2))
                go_roundg (ks.length - (kk + 1))
                case measure => omega
                case rel => exact ⟨kk + 1, rl, mput mp (kn : Int) ri, D.put (.int .i64 (kn : Int)) (.lit (.int .i64 ri)), by omega, by omega, by go_num, ⟨ht⟩, HLR, HS, HO, ⟨HD.out.put _ _⟩, ⟨mvd_put HM.out HD.out HW0.out⟩, BK, HK, HB⟩
            | false =>
              cases hb_ with
              | true =>
                simp only [if_true, Bool.false_eq_true, if_false] at hmA hmB
                subst hmA hmB hhn
                have ht := HMV.out
                rw [if_neg (by decide)] at ht
                go_wp2_with (first | ((with_reducible refine gate_dst (N := 12) rfl ?_); refine box_event ?hg (N := 12) ?hd (cs := #[.int .i64 0, .int .i64 0, .int .i64 0, .int .i64 0]) (t := 37) ?hr ?_; (case hd => rfl); (case hg => rfl); (case hr => first | (go_simp; done) | (go_simp; rfl)); intro g12 hg wa hbox hb; have HBr := Aside0.mk hb; have a0 := Aside0.mk hbox; have a1 := Aside0.mk (show wr.heap.size ≤ g12 by rw [hg]; exact Nat.le_refl _); clear hb hbox hg; (try clear u0_ u1_ u2_ u3_ v0_ v1_ v2_ v3_); have u0_ : wa.cell? ⟨g12, 0, none⟩ = some (.int .i64 0) := (blk_cell a0.out 0).trans rfl; have u1_ : wa.cell? ⟨g12, 1, none⟩ = some (.int .i64 0) := (blk_cell a0.out 1).trans rfl; have u2_ : wa.cell? ⟨g12, 2, none⟩ = some (.int .i64 0) := (blk_cell a0.out 2).trans rfl; have u3_ : wa.cell? ⟨g12, 3, none⟩ = some (.int .i64 0) := (blk_cell a0.out 3).trans rfl; have v0_ := blk_frozen a0.out 0; have v1_ := blk_frozen a0.out 1; have v2_ := blk_frozen a0.out 2; have v3_ := blk_frozen a0.out 3) | (go_at_call 22; (with_reducible refine (impl_namesOf.calls 1 x.f0 false true (!false) _ HNM.out).mono ?_); rintro e wb ⟨rfl, hb⟩; have n0_ := Aside0.mk (bB_ (blk_put (blk_put (blk_put (blk_put a0.out 0 (.int .i64 x.f0) rfl) 1 (.int .i64 x.f1) rfl) 2 (.int .i64 x.f2) rfl) 3 (.int .i64 x.f3) rfl) hb); have n1_ := Aside0.mk (lP_ (by repeat (first | (with_reducible first | exact HBr.out | refine lS1_ ?_ a1.out | refine lS1_ ?_ a2.out) | exact HBr.out)) hb); clear a0 HBr; have a0 := n0_; have HBr := n1_; clear n0_ n1_ hb; (try clear u0_ u1_ u2_ u3_ v0_ v1_ v2_ v3_); have u0_ : wb.cell? ⟨g12, 0, none⟩ = some (.int .i64 x.f0) := (blk_cell a0.out 0).trans rfl; have u1_ : wb.cell? ⟨g12, 1, none⟩ = some (.int .i64 x.f1) := (blk_cell a0.out 1).trans rfl; have u2_ : wb.cell? ⟨g12, 2, none⟩ = some (.int .i64 x.f2) := (blk_cell a0.out 2).trans rfl; have u3_ : wb.cell? ⟨g12, 3, none⟩ = some (.int .i64 x.f3) := (blk_cell a0.out 3).trans rfl; have v0_ := blk_frozen a0.out 0; have v1_ := blk_frozen a0.out 1; have v2_ := blk_frozen a0.out 2; have v3_ := blk_frozen a0.out 3) | ((with_reducible refine gate_dst (N := 13) rfl ?_); refine box_event ?hg (N := 13) ?hd (cs := #[.bool false, .bool false, .bool false]) (t := 47) ?hr ?_; (case hd => rfl); (case hg => rfl); (case hr => first | (go_simp; done) | (go_simp; rfl)); intro g13 hg wd hbox hb; have hne := (show g12 ≠ g13 by rw [hg]; exact Nat.ne_of_lt (blk_lt a0.out)); have hne2 := hne.symm; have a2 := Aside0.mk (show wr.heap.size ≤ g13 by rw [hg]; exact below_size HBr.out); have a3 := Aside0.mk hbox; have n0_ := Aside0.mk (bB_ a0.out hb); have n1_ := Aside0.mk (lP_ HBr.out hb); clear a0 HBr; have a0 := n0_; have HBr := n1_; clear n0_ n1_ hb hbox hg; (try clear u0_ u1_ u2_ u3_ v0_ v1_ v2_ v3_); have u0_ : wd.cell? ⟨g12, 0, none⟩ = some (.int .i64 x.f0) := (blk_cell a0.out 0).trans rfl; have u1_ : wd.cell? ⟨g12, 1, none⟩ = some (.int .i64 x.f1) := (blk_cell a0.out 1).trans rfl; have u2_ : wd.cell? ⟨g12, 2, none⟩ = some (.int .i64 x.f2) := (blk_cell a0.out 2).trans rfl; have u3_ : wd.cell? ⟨g12, 3, none⟩ = some (.int .i64 x.f3) := (blk_cell a0.out 3).trans rfl; have v0_ := blk_frozen a0.out 0; have v1_ := blk_frozen a0.out 1; have v2_ := blk_frozen a0.out 2; have v3_ := blk_frozen a0.out 3; (try clear y0_ y1_ y2_ z0_ z1_ z2_); have y0_ : wd.cell? ⟨g13, 0, none⟩ = some (.bool false) := (blk_cell a3.out 0).trans rfl; have y1_ : wd.cell? ⟨g13, 1, none⟩ = some (.bool false) := (blk_cell a3.out 1).trans rfl; have y2_ : wd.cell? ⟨g13, 2, none⟩ = some (.bool false) := (blk_cell a3.out 2).trans rfl; have z0_ := blk_frozen a3.out 0; have z1_ := blk_frozen a3.out 1; have z2_ := blk_frozen a3.out 2) | (at_lookup; refine wpList_lookup_own_int (H := Unit) _ rfl (.tmp 56) (.tmp 58) 43 rfl 2 2 .i64 int_kd Try.underlying43 Try.underlying2 (by kernel_rfl) B kk D rfl (own_map_below HO.out (by repeat (first | (with_reducible first | exact HBr.out | refine lS1_ ?_ a1.out | refine lS1_ ?_ a2.out) | exact HBr.out))) _ (.int .i64 x.f2) rfl (Go.Maps.keyOf_int_mk Try.underlying2 HW2.out) ?_; intro cc hat hcw; obtain rfl : cc = mp x.f2 := (by have := (HM.out _ HW2.out).symm.trans hat; injection this with this; injection this with _ this; exact this.symm); clear hat hcw) | (go_at_call 23; (with_reducible refine (impl_sheet_both.callsE x.f1 (mp x.f2) (ri, rl, false) (SE.start (stv_below HS.out (by repeat (first | (with_reducible first | exact HBr.out | refine lS1_ ?_ a1.out | refine lS1_ ?_ a2.out) | exact HBr.out))).choose_spec) HL.out HRR.out).mono ?_); rintro e we ⟨rfl, hs, hk⟩; (try dsimp only at hs); (try dsimp only); have n0_ := Aside0.mk (hs.1); have n1_ := Aside0.mk (own_map_keepT (own_map_below HO.out (by repeat (first | (with_reducible first | exact HBr.out | refine lS1_ ?_ a1.out | refine lS1_ ?_ a2.out) | exact HBr.out))) hk); have n2_ := Aside0.mk (R_keepT (Kd.R_below HK.out (by repeat (first | (with_reducible first | exact HBr.out | refine lS1_ ?_ a1.out | refine lS1_ ?_ a2.out) | exact HBr.out))) hk (by decide)); have n3_ := Aside0.mk (blk_keepT (bB_ BK.out (by repeat (first | (with_reducible first | exact HBr.out | refine lS1_ ?_ a1.out | refine lS1_ ?_ a2.out) | exact HBr.out))) hk (by decide) (by decide)); have n4_ := Aside0.mk ((lP_ HB.out (by repeat (first | (with_reducible first | exact HBr.out | refine lS1_ ?_ a1.out | refine lS1_ ?_ a2.out) | exact HBr.out))).trans (hs.2.2.mono NW.out)); clear HS HO HK BK HB; have HS := n0_; have HO := n1_; have HK := n2_; have BK := n3_; have HB := n4_; clear n0_ n1_ n2_ n3_ n4_ hs hk; (try clear q0_ q1_ q2_ f0_ f1_ f2_); have q0_ : we.cell? ⟨g6, 0, none⟩ = some (.int .i64 0) := (blk_cell BK.out 0).trans rfl; have q1_ : we.cell? ⟨g6, 1, none⟩ = some (.int .i64 0) := (blk_cell BK.out 1).trans rfl; have q2_ : we.cell? ⟨g6, 2, none⟩ = some (.slice none 0 0) := (blk_cell BK.out 2).trans rfl; have f0_ := blk_frozen BK.out 0; have f1_ := blk_frozen BK.out 1; have f2_ := blk_frozen BK.out 2) | (at_mapUpdate; refine wpList_mapUpdate_own (H := Unit) _ rfl (.tmp 64) (.tmp 65) (.tmp 71) 43 rfl 2 2 int_kd Try.underlying43 (plainElem Try.prog 2) B kk D rfl HO.out (by show kk < 9223372036854775807; have := HKL.out; omega) _ _ (.int .i64 (kn : Int)) rfl rfl (Go.Maps.keyOf_int_mk Try.underlying2 HW0.out) _ _ (plainElem_int Try.underlying2 HWR.out) ?_; intro wf ho hg; have n0_ := Aside0.mk (stv_grown_map HS.out hg (own_map_is HO.out)); have n1_ := Aside0.mk (R_grown_map HK.out hg (own_map_is HO.out)); have n2_ := Aside0.mk (blk_grown_map BK.out hg (own_map_is HO.out)); have n3_ := Aside0.mk (pw_below_grown HB.out (some B) (below_size HB.out) hg (fun k hk => by injection hk with hk; rw [← hk]; exact GB.out)); have n4_ := Aside0.mk (ho); clear HS HK BK HB HO; have HS := n0_; have HK := n1_; have BK := n2_; have HB := n3_; have HO := n4_; clear n0_ n1_ n2_ n3_ n4_ ho hg; obtain ⟨vs, hvs⟩ := HS.out; have hfull : wf.cell? ⟨S, 1, none⟩ = some (.bool false) := (blk_cell hvs.1 1).trans rfl; clear hvs; (try clear q0_ q1_ q2_ f0_ f1_ f2_); have q0_ : wf.cell? ⟨g6, 0, none⟩ = some (.int .i64 0) := (blk_cell BK.out 0).trans rfl; have q1_ : wf.cell? ⟨g6, 1, none⟩ = some (.int .i64 0) := (blk_cell BK.out 1).trans rfl; have q2_ : wf.cell? ⟨g6, 2, none⟩ = some (.slice none 0 0) := (blk_cell BK.out 2).trans rfl; have f0_ := blk_frozen BK.out 0; have f1_ := blk_frozen BK.out 1; have f2_ := blk_frozen BK.out 2))
                go_roundg (ks.length - (kk + 1))
                case measure => omega
                case rel => exact ⟨kk + 1, rl, mput mp (kn : Int) ri, D.put (.int .i64 (kn : Int)) (.lit (.int .i64 ri)), by omega, by omega, by go_num, ⟨ht⟩, HLR, HS, HO, ⟨HD.out.put _ _⟩, ⟨mvd_put HM.out HD.out HW0.out⟩, BK, HK, HB⟩
              | false =>
                simp only [if_true, Bool.false_eq_true, if_false] at hmA hmB
                subst hmA hmB hhn
                have ht := HMV.out
                rw [if_neg (by decide)] at ht
                go_wp2_with (first | ((with_reducible refine gate_dst (N := 12) rfl ?_); refine box_event ?hg (N := 12) ?hd (cs := #[.int .i64 0, .int .i64 0, .int .i64 0, .int .i64 0]) (t := 37) ?hr ?_; (case hd => rfl); (case hg => rfl); (case hr => first | (go_simp; done) | (go_simp; rfl)); intro g12 hg wa hbox hb; have HBr := Aside0.mk hb; have a0 := Aside0.mk hbox; have a1 := Aside0.mk (show wr.heap.size ≤ g12 by rw [hg]; exact Nat.le_refl _); clear hb hbox hg; (try clear u0_ u1_ u2_ u3_ v0_ v1_ v2_ v3_); have u0_ : wa.cell? ⟨g12, 0, none⟩ = some (.int .i64 0) := (blk_cell a0.out 0).trans rfl; have u1_ : wa.cell? ⟨g12, 1, none⟩ = some (.int .i64 0) := (blk_cell a0.out 1).trans rfl; have u2_ : wa.cell? ⟨g12, 2, none⟩ = some (.int .i64 0) := (blk_cell a0.out 2).trans rfl; have u3_ : wa.cell? ⟨g12, 3, none⟩ = some (.int .i64 0) := (blk_cell a0.out 3).trans rfl; have v0_ := blk_frozen a0.out 0; have v1_ := blk_frozen a0.out 1; have v2_ := blk_frozen a0.out 2; have v3_ := blk_frozen a0.out 3) | (go_at_call 22; (with_reducible refine (impl_namesOf.calls 1 x.f0 false false (!false) _ HNM.out).mono ?_); rintro e wb ⟨rfl, hb⟩; have n0_ := Aside0.mk (bB_ (blk_put (blk_put (blk_put (blk_put a0.out 0 (.int .i64 x.f0) rfl) 1 (.int .i64 x.f1) rfl) 2 (.int .i64 x.f2) rfl) 3 (.int .i64 x.f3) rfl) hb); have n1_ := Aside0.mk (lP_ (by repeat (first | (with_reducible first | exact HBr.out | refine lS1_ ?_ a1.out | refine lS1_ ?_ a2.out) | exact HBr.out)) hb); clear a0 HBr; have a0 := n0_; have HBr := n1_; clear n0_ n1_ hb; (try clear u0_ u1_ u2_ u3_ v0_ v1_ v2_ v3_); have u0_ : wb.cell? ⟨g12, 0, none⟩ = some (.int .i64 x.f0) := (blk_cell a0.out 0).trans rfl; have u1_ : wb.cell? ⟨g12, 1, none⟩ = some (.int .i64 x.f1) := (blk_cell a0.out 1).trans rfl; have u2_ : wb.cell? ⟨g12, 2, none⟩ = some (.int .i64 x.f2) := (blk_cell a0.out 2).trans rfl; have u3_ : wb.cell? ⟨g12, 3, none⟩ = some (.int .i64 x.f3) := (blk_cell a0.out 3).trans rfl; have v0_ := blk_frozen a0.out 0; have v1_ := blk_frozen a0.out 1; have v2_ := blk_frozen a0.out 2; have v3_ := blk_frozen a0.out 3) | ((with_reducible refine gate_dst (N := 13) rfl ?_); refine box_event ?hg (N := 13) ?hd (cs := #[.bool false, .bool false, .bool false]) (t := 47) ?hr ?_; (case hd => rfl); (case hg => rfl); (case hr => first | (go_simp; done) | (go_simp; rfl)); intro g13 hg wd hbox hb; have hne := (show g12 ≠ g13 by rw [hg]; exact Nat.ne_of_lt (blk_lt a0.out)); have hne2 := hne.symm; have a2 := Aside0.mk (show wr.heap.size ≤ g13 by rw [hg]; exact below_size HBr.out); have a3 := Aside0.mk hbox; have n0_ := Aside0.mk (bB_ a0.out hb); have n1_ := Aside0.mk (lP_ HBr.out hb); clear a0 HBr; have a0 := n0_; have HBr := n1_; clear n0_ n1_ hb hbox hg; (try clear u0_ u1_ u2_ u3_ v0_ v1_ v2_ v3_); have u0_ : wd.cell? ⟨g12, 0, none⟩ = some (.int .i64 x.f0) := (blk_cell a0.out 0).trans rfl; have u1_ : wd.cell? ⟨g12, 1, none⟩ = some (.int .i64 x.f1) := (blk_cell a0.out 1).trans rfl; have u2_ : wd.cell? ⟨g12, 2, none⟩ = some (.int .i64 x.f2) := (blk_cell a0.out 2).trans rfl; have u3_ : wd.cell? ⟨g12, 3, none⟩ = some (.int .i64 x.f3) := (blk_cell a0.out 3).trans rfl; have v0_ := blk_frozen a0.out 0; have v1_ := blk_frozen a0.out 1; have v2_ := blk_frozen a0.out 2; have v3_ := blk_frozen a0.out 3; (try clear y0_ y1_ y2_ z0_ z1_ z2_); have y0_ : wd.cell? ⟨g13, 0, none⟩ = some (.bool false) := (blk_cell a3.out 0).trans rfl; have y1_ : wd.cell? ⟨g13, 1, none⟩ = some (.bool false) := (blk_cell a3.out 1).trans rfl; have y2_ : wd.cell? ⟨g13, 2, none⟩ = some (.bool false) := (blk_cell a3.out 2).trans rfl; have z0_ := blk_frozen a3.out 0; have z1_ := blk_frozen a3.out 1; have z2_ := blk_frozen a3.out 2) | (go_at_call 23; (with_reducible refine (impl_sheet_both.callsE x.f1 x.f2 (ri, rl, false) (SE.start (stv_below HS.out (by repeat (first | (with_reducible first | exact HBr.out | refine lS1_ ?_ a1.out | refine lS1_ ?_ a2.out) | exact HBr.out))).choose_spec) HL.out HRR.out).mono ?_); rintro e we ⟨rfl, hs, hk⟩; (try dsimp only at hs); (try dsimp only); have n0_ := Aside0.mk (hs.1); have n1_ := Aside0.mk (own_map_keepT (own_map_below HO.out (by repeat (first | (with_reducible first | exact HBr.out | refine lS1_ ?_ a1.out | refine lS1_ ?_ a2.out) | exact HBr.out))) hk); have n2_ := Aside0.mk (R_keepT (Kd.R_below HK.out (by repeat (first | (with_reducible first | exact HBr.out | refine lS1_ ?_ a1.out | refine lS1_ ?_ a2.out) | exact HBr.out))) hk (by decide)); have n3_ := Aside0.mk (blk_keepT (bB_ BK.out (by repeat (first | (with_reducible first | exact HBr.out | refine lS1_ ?_ a1.out | refine lS1_ ?_ a2.out) | exact HBr.out))) hk (by decide) (by decide)); have n4_ := Aside0.mk ((lP_ HB.out (by repeat (first | (with_reducible first | exact HBr.out | refine lS1_ ?_ a1.out | refine lS1_ ?_ a2.out) | exact HBr.out))).trans (hs.2.2.mono NW.out)); clear HS HO HK BK HB; have HS := n0_; have HO := n1_; have HK := n2_; have BK := n3_; have HB := n4_; clear n0_ n1_ n2_ n3_ n4_ hs hk; (try clear q0_ q1_ q2_ f0_ f1_ f2_); have q0_ : we.cell? ⟨g6, 0, none⟩ = some (.int .i64 0) := (blk_cell BK.out 0).trans rfl; have q1_ : we.cell? ⟨g6, 1, none⟩ = some (.int .i64 0) := (blk_cell BK.out 1).trans rfl; have q2_ : we.cell? ⟨g6, 2, none⟩ = some (.slice none 0 0) := (blk_cell BK.out 2).trans rfl; have f0_ := blk_frozen BK.out 0; have f1_ := blk_frozen BK.out 1; have f2_ := blk_frozen BK.out 2) | (at_mapUpdate; refine wpList_mapUpdate_own (H := Unit) _ rfl (.tmp 64) (.tmp 65) (.tmp 71) 43 rfl 2 2 int_kd Try.underlying43 (plainElem Try.prog 2) B kk D rfl HO.out (by show kk < 9223372036854775807; have := HKL.out; omega) _ _ (.int .i64 (kn : Int)) rfl rfl (Go.Maps.keyOf_int_mk Try.underlying2 HW0.out) _ _ (plainElem_int Try.underlying2 HWR.out) ?_; intro wf ho hg; have n0_ := Aside0.mk (stv_grown_map HS.out hg (own_map_is HO.out)); have n1_ := Aside0.mk (R_grown_map HK.out hg (own_map_is HO.out)); have n2_ := Aside0.mk (blk_grown_map BK.out hg (own_map_is HO.out)); have n3_ := Aside0.mk (pw_below_grown HB.out (some B) (below_size HB.out) hg (fun k hk => by injection hk with hk; rw [← hk]; exact GB.out)); have n4_ := Aside0.mk (ho); clear HS HK BK HB HO; have HS := n0_; have HK := n1_; have BK := n2_; have HB := n3_; have HO := n4_; clear n0_ n1_ n2_ n3_ n4_ ho hg; obtain ⟨vs, hvs⟩ := HS.out; have hfull : wf.cell? ⟨S, 1, none⟩ = some (.bool false) := (blk_cell hvs.1 1).trans rfl; clear hvs; (try clear q0_ q1_ q2_ f0_ f1_ f2_); have q0_ : wf.cell? ⟨g6, 0, none⟩ = some (.int .i64 0) := (blk_cell BK.out 0).trans rfl; have q1_ : wf.cell? ⟨g6, 1, none⟩ = some (.int .i64 0) := (blk_cell BK.out 1).trans rfl; have q2_ : wf.cell? ⟨g6, 2, none⟩ = some (.slice none 0 0) := (blk_cell BK.out 2).trans rfl; have f0_ := blk_frozen BK.out 0; have f1_ := blk_frozen BK.out 1; have f2_ := blk_frozen BK.out 2))
                go_roundg (ks.length - (kk + 1))
                case measure => omega
                case rel => exact ⟨kk + 1, rl, mput mp (kn : Int) ri, D.put (.int .i64 (kn : Int)) (.lit (.int .i64 ri)), by omega, by omega, by go_num, ⟨ht⟩, HLR, HS, HO, ⟨HD.out.put _ _⟩, ⟨mvd_put HM.out HD.out HW0.out⟩, BK, HK, HB⟩
        · rw [if_neg h7] at hr
          have h70 : (x.f0 == 7) = false := by simpa using h7
          have h71 : (x.f0 != 7) = true := by simpa using h7
          clear h7
          have HRR := Aside0.mk hr.symm
          clear hr
          cases rb with
          | true =>
            cases ha with
            | true =>
              cases hb_ with
              | true =>
                simp only [if_true, Bool.false_eq_true, if_false] at hmA hmB
                subst hmA hmB hhn
                have ht := HT.out
                rw [← HMV.out, if_pos rfl] at ht
                simp only [mvR, Prod.mk.injEq] at ht
                obtain ⟨rfl, rfl, rfl⟩ := ht
                go_wp2_with (first | ((with_reducible refine gate_dst (N := 12) rfl ?_); refine box_event ?hg (N := 12) ?hd (cs := #[.int .i64 0, .int .i64 0, .int .i64 0, .int .i64 0]) (t := 37) ?hr ?_; (case hd => rfl); (case hg => rfl); (case hr => first | (go_simp; done) | (go_simp; rfl)); intro g12 hg wa hbox hb; have HBr := Aside0.mk hb; have a0 := Aside0.mk hbox; have a1 := Aside0.mk (show wr.heap.size ≤ g12 by rw [hg]; exact Nat.le_refl _); clear hb hbox hg; (try clear u0_ u1_ u2_ u3_ v0_ v1_ v2_ v3_); have u0_ : wa.cell? ⟨g12, 0, none⟩ = some (.int .i64 0) := (blk_cell a0.out 0).trans rfl; have u1_ : wa.cell? ⟨g12, 1, none⟩ = some (.int .i64 0) := (blk_cell a0.out 1).trans rfl; have u2_ : wa.cell? ⟨g12, 2, none⟩ = some (.int .i64 0) := (blk_cell a0.out 2).trans rfl; have u3_ : wa.cell? ⟨g12, 3, none⟩ = some (.int .i64 0) := (blk_cell a0.out 3).trans rfl; have v0_ := blk_frozen a0.out 0; have v1_ := blk_frozen a0.out 1; have v2_ := blk_frozen a0.out 2; have v3_ := blk_frozen a0.out 3) | (go_at_call 22; (with_reducible refine (impl_namesOf.calls 1 x.f0 true true (!true) _ HNM.out).mono ?_); rintro e wb ⟨rfl, hb⟩; have n0_ := Aside0.mk (bB_ (blk_put (blk_put (blk_put (blk_put a0.out 0 (.int .i64 x.f0) rfl) 1 (.int .i64 x.f1) rfl) 2 (.int .i64 x.f2) rfl) 3 (.int .i64 x.f3) rfl) hb); have n1_ := Aside0.mk (lP_ (by repeat (first | (with_reducible first | exact HBr.out | refine lS1_ ?_ a1.out | refine lS1_ ?_ a2.out) | exact HBr.out)) hb); clear a0 HBr; have a0 := n0_; have HBr := n1_; clear n0_ n1_ hb; (try clear u0_ u1_ u2_ u3_ v0_ v1_ v2_ v3_); have u0_ : wb.cell? ⟨g12, 0, none⟩ = some (.int .i64 x.f0) := (blk_cell a0.out 0).trans rfl; have u1_ : wb.cell? ⟨g12, 1, none⟩ = some (.int .i64 x.f1) := (blk_cell a0.out 1).trans rfl; have u2_ : wb.cell? ⟨g12, 2, none⟩ = some (.int .i64 x.f2) := (blk_cell a0.out 2).trans rfl; have u3_ : wb.cell? ⟨g12, 3, none⟩ = some (.int .i64 x.f3) := (blk_cell a0.out 3).trans rfl; have v0_ := blk_frozen a0.out 0; have v1_ := blk_frozen a0.out 1; have v2_ := blk_frozen a0.out 2; have v3_ := blk_frozen a0.out 3) | ((with_reducible refine gate_dst (N := 13) rfl ?_); refine box_event ?hg (N := 13) ?hd (cs := #[.bool false, .bool false, .bool false]) (t := 47) ?hr ?_; (case hd => rfl); (case hg => rfl); (case hr => first | (go_simp; done) | (go_simp; rfl)); intro g13 hg wd hbox hb; have hne := (show g12 ≠ g13 by rw [hg]; exact Nat.ne_of_lt (blk_lt a0.out)); have hne2 := hne.symm; have a2 := Aside0.mk (show wr.heap.size ≤ g13 by rw [hg]; exact below_size HBr.out); have a3 := Aside0.mk hbox; have n0_ := Aside0.mk (bB_ a0.out hb); have n1_ := Aside0.mk (lP_ HBr.out hb); clear a0 HBr; have a0 := n0_; have HBr := n1_; clear n0_ n1_ hb hbox hg; (try clear u0_ u1_ u2_ u3_ v0_ v1_ v2_ v3_); have u0_ : wd.cell? ⟨g12, 0, none⟩ = some (.int .i64 x.f0) := (blk_cell a0.out 0).trans rfl; have u1_ : wd.cell? ⟨g12, 1, none⟩ = some (.int .i64 x.f1) := (blk_cell a0.out 1).trans rfl; have u2_ : wd.cell? ⟨g12, 2, none⟩ = some (.int .i64 x.f2) := (blk_cell a0.out 2).trans rfl; have u3_ : wd.cell? ⟨g12, 3, none⟩ = some (.int .i64 x.f3) := (blk_cell a0.out 3).trans rfl; have v0_ := blk_frozen a0.out 0; have v1_ := blk_frozen a0.out 1; have v2_ := blk_frozen a0.out 2; have v3_ := blk_frozen a0.out 3; (try clear y0_ y1_ y2_ z0_ z1_ z2_); have y0_ : wd.cell? ⟨g13, 0, none⟩ = some (.bool false) := (blk_cell a3.out 0).trans rfl; have y1_ : wd.cell? ⟨g13, 1, none⟩ = some (.bool false) := (blk_cell a3.out 1).trans rfl; have y2_ : wd.cell? ⟨g13, 2, none⟩ = some (.bool false) := (blk_cell a3.out 2).trans rfl; have z0_ := blk_frozen a3.out 0; have z1_ := blk_frozen a3.out 1; have z2_ := blk_frozen a3.out 2) | (at_lookup; refine wpList_lookup_own_int (H := Unit) _ rfl (.tmp 49) (.tmp 51) 43 rfl 2 2 .i64 int_kd Try.underlying43 Try.underlying2 (by kernel_rfl) B kk D rfl (own_map_below HO.out (by repeat (first | (with_reducible first | exact HBr.out | refine lS1_ ?_ a1.out | refine lS1_ ?_ a2.out) | exact HBr.out))) _ (.int .i64 x.f1) rfl (Go.Maps.keyOf_int_mk Try.underlying2 HW1.out) ?_; intro cc hat hcw; obtain rfl : cc = mp x.f1 := (by have := (HM.out _ HW1.out).symm.trans hat; injection this with this; injection this with _ this; exact this.symm); clear hat hcw) | (at_lookup; refine wpList_lookup_own_int (H := Unit) _ rfl (.tmp 56) (.tmp 58) 43 rfl 2 2 .i64 int_kd Try.underlying43 Try.underlying2 (by kernel_rfl) B kk D rfl (own_map_below HO.out (by repeat (first | (with_reducible first | exact HBr.out | refine lS1_ ?_ a1.out | refine lS1_ ?_ a2.out) | exact HBr.out))) _ (.int .i64 x.f2) rfl (Go.Maps.keyOf_int_mk Try.underlying2 HW2.out) ?_; intro cc hat hcw; obtain rfl : cc = mp x.f2 := (by have := (HM.out _ HW2.out).symm.trans hat; injection this with this; injection this with _ this; exact this.symm); clear hat hcw) | (go_at_call 24; (with_reducible refine (impl_sheet_put.callsE x.f0 (mp x.f1) (mp x.f2) x.f3 (ri, rl, true) (SE.start (stv_below HS.out (by repeat (first | (with_reducible first | exact HBr.out | refine lS1_ ?_ a1.out | refine lS1_ ?_ a2.out) | exact HBr.out))).choose_spec) HL.out HRR.out).mono ?_); rintro e we ⟨rfl, hs, hk⟩; (try dsimp only at hs); (try dsimp only); have n0_ := Aside0.mk (hs.1); have n1_ := Aside0.mk (own_map_keepT (own_map_below HO.out (by repeat (first | (with_reducible first | exact HBr.out | refine lS1_ ?_ a1.out | refine lS1_ ?_ a2.out) | exact HBr.out))) hk); have n2_ := Aside0.mk (R_keepT (Kd.R_below HK.out (by repeat (first | (with_reducible first | exact HBr.out | refine lS1_ ?_ a1.out | refine lS1_ ?_ a2.out) | exact HBr.out))) hk (by decide)); have n3_ := Aside0.mk (blk_keepT (bB_ BK.out (by repeat (first | (with_reducible first | exact HBr.out | refine lS1_ ?_ a1.out | refine lS1_ ?_ a2.out) | exact HBr.out))) hk (by decide) (by decide)); have n4_ := Aside0.mk ((lP_ HB.out (by repeat (first | (with_reducible first | exact HBr.out | refine lS1_ ?_ a1.out | refine lS1_ ?_ a2.out) | exact HBr.out))).trans (hs.2.2.mono NW.out)); clear HS HO HK BK HB; have HS := n0_; have HO := n1_; have HK := n2_; have BK := n3_; have HB := n4_; clear n0_ n1_ n2_ n3_ n4_ hs hk; (try clear q0_ q1_ q2_ f0_ f1_ f2_); have q0_ : we.cell? ⟨g6, 0, none⟩ = some (.int .i64 0) := (blk_cell BK.out 0).trans rfl; have q1_ : we.cell? ⟨g6, 1, none⟩ = some (.int .i64 0) := (blk_cell BK.out 1).trans rfl; have q2_ : we.cell? ⟨g6, 2, none⟩ = some (.slice none 0 0) := (blk_cell BK.out 2).trans rfl; have f0_ := blk_frozen BK.out 0; have f1_ := blk_frozen BK.out 1; have f2_ := blk_frozen BK.out 2) | (at_mapUpdate; refine wpList_mapUpdate_own (H := Unit) _ rfl (.tmp 72) (.tmp 73) (.tmp 76) 43 rfl 2 2 int_kd Try.underlying43 (plainElem Try.prog 2) B kk D rfl HO.out (by show kk < 9223372036854775807; have := HKL.out; omega) _ _ (.int .i64 (kn : Int)) rfl rfl (Go.Maps.keyOf_int_mk Try.underlying2 HW0.out) _ _ (plainElem_int Try.underlying2 HWR.out) ?_; intro wf ho hg; have n0_ := Aside0.mk (stv_grown_map HS.out hg (own_map_is HO.out)); have n1_ := Aside0.mk (R_grown_map HK.out hg (own_map_is HO.out)); have n2_ := Aside0.mk (blk_grown_map BK.out hg (own_map_is HO.out)); have n3_ := Aside0.mk (pw_below_grown HB.out (some B) (below_size HB.out) hg (fun k hk => by injection hk with hk; rw [← hk]; exact GB.out)); have n4_ := Aside0.mk (ho); clear HS HK BK HB HO; have HS := n0_; have HK := n1_; have BK := n2_; have HB := n3_; have HO := n4_; clear n0_ n1_ n2_ n3_ n4_ ho hg; obtain ⟨vs, hvs⟩ := HS.out; have hfull : wf.cell? ⟨S, 1, none⟩ = some (.bool true) := (blk_cell hvs.1 1).trans rfl; clear hvs; (try clear q0_ q1_ q2_ f0_ f1_ f2_); have q0_ : wf.cell? ⟨g6, 0, none⟩ = some (.int .i64 0) := (blk_cell BK.out 0).trans rfl; have q1_ : wf.cell? ⟨g6, 1, none⟩ = some (.int .i64 0) := (blk_cell BK.out 1).trans rfl; have q2_ : wf.cell? ⟨g6, 2, none⟩ = some (.slice none 0 0) := (blk_cell BK.out 2).trans rfl; have f0_ := blk_frozen BK.out 0; have f1_ := blk_frozen BK.out 1; have f2_ := blk_frozen BK.out 2))
                refine bodyPost_ret (results_cell_row rfl _ _ g6 26 #[.int .i64 2, .int .i64 0, .slice none 0 0] (0, 0) _ rfl (blk_put (blk_put (blk_put BK.out 0 _ rfl) 1 _ rfl) 2 _ rfl) Try.underlying26 rfl (by kernel_rfl)) rfl ?_
                exact ⟨_, rfl, Kd.R_nil _ _ _ _ _, lS1_ (lS1_ (lS1_ HB.out GE.out) GE.out) GE.out⟩
              | false =>
                simp only [if_true, Bool.false_eq_true, if_false] at hmA hmB
                subst hmA hmB hhn
                have ht := HT.out
                rw [← HMV.out, if_pos rfl] at ht
                simp only [mvR, Prod.mk.injEq] at ht
                obtain ⟨rfl, rfl, rfl⟩ := ht
                go_wp2_with (first | ((with_reducible refine gate_dst (N := 12) rfl ?_); refine box_event ?hg (N := 12) ?hd (cs := #[.int .i64 0, .int .i64 0, .int .i64 0, .int .i64 0]) (t := 37) ?hr ?_; (case hd => rfl); (case hg => rfl); (case hr => first | (go_simp; done) | (go_simp; rfl)); intro g12 hg wa hbox hb; have HBr := Aside0.mk hb; have a0 := Aside0.mk hbox; have a1 := Aside0.mk (show wr.heap.size ≤ g12 by rw [hg]; exact Nat.le_refl _); clear hb hbox hg; (try clear u0_ u1_ u2_ u3_ v0_ v1_ v2_ v3_); have u0_ : wa.cell? ⟨g12, 0, none⟩ = some (.int .i64 0) := (blk_cell a0.out 0).trans rfl; have u1_ : wa.cell? ⟨g12, 1, none⟩ = some (.int .i64 0) := (blk_cell a0.out 1).trans rfl; have u2_ : wa.cell? ⟨g12, 2, none⟩ = some (.int .i64 0) := (blk_cell a0.out 2).trans rfl; have u3_ : wa.cell? ⟨g12, 3, none⟩ = some (.int .i64 0) := (blk_cell a0.out 3).trans rfl; have v0_ := blk_frozen a0.out 0; have v1_ := blk_frozen a0.out 1; have v2_ := blk_frozen a0.out 2; have v3_ := blk_frozen a0.out 3) | (go_at_call 22; (with_reducible refine (impl_namesOf.calls 1 x.f0 true false (!true) _ HNM.out).mono ?_); rintro e wb ⟨rfl, hb⟩; have n0_ := Aside0.mk (bB_ (blk_put (blk_put (blk_put (blk_put a0.out 0 (.int .i64 x.f0) rfl) 1 (.int .i64 x.f1) rfl) 2 (.int .i64 x.f2) rfl) 3 (.int .i64 x.f3) rfl) hb); have n1_ := Aside0.mk (lP_ (by repeat (first | (with_reducible first | exact HBr.out | refine lS1_ ?_ a1.out | refine lS1_ ?_ a2.out) | exact HBr.out)) hb); clear a0 HBr; have a0 := n0_; have HBr := n1_; clear n0_ n1_ hb; (try clear u0_ u1_ u2_ u3_ v0_ v1_ v2_ v3_); have u0_ : wb.cell? ⟨g12, 0, none⟩ = some (.int .i64 x.f0) := (blk_cell a0.out 0).trans rfl; have u1_ : wb.cell? ⟨g12, 1, none⟩ = some (.int .i64 x.f1) := (blk_cell a0.out 1).trans rfl; have u2_ : wb.cell? ⟨g12, 2, none⟩ = some (.int .i64 x.f2) := (blk_cell a0.out 2).trans rfl; have u3_ : wb.cell? ⟨g12, 3, none⟩ = some (.int .i64 x.f3) := (blk_cell a0.out 3).trans rfl; have v0_ := blk_frozen a0.out 0; have v1_ := blk_frozen a0.out 1; have v2_ := blk_frozen a0.out 2; have v3_ := blk_frozen a0.out 3) | ((with_reducible refine gate_dst (N := 13) rfl ?_); refine box_event ?hg (N := 13) ?hd (cs := #[.bool false, .bool false, .bool false]) (t := 47) ?hr ?_; (case hd => rfl); (case hg => rfl); (case hr => first | (go_simp; done) | (go_simp; rfl)); intro g13 hg wd hbox hb; have hne := (show g12 ≠ g13 by rw [hg]; exact Nat.ne_of_lt (blk_lt a0.out)); have hne2 := hne.symm; have a2 := Aside0.mk (show wr.heap.size ≤ g13 by rw [hg]; exact below_size HBr.out); have a3 := Aside0.mk hbox; have n0_ := Aside0.mk (bB_ a0.out hb); have n1_ := Aside0.mk (lP_ HBr.out hb); clear a0 HBr; have a0 := n0_; have HBr := n1_; clear n0_ n1_ hb hbox hg; (try clear u0_ u1_ u2_ u3_ v0_ v1_ v2_ v3_); have u0_ : wd.cell? ⟨g12, 0, none⟩ = some (.int .i64 x.f0) := (blk_cell a0.out 0).trans rfl; have u1_ : wd.cell? ⟨g12, 1, none⟩ = some (.int .i64 x.f1) := (blk_cell a0.out 1).trans rfl; have u2_ : wd.cell? ⟨g12, 2, none⟩ = some (.int .i64 x.f2) := (blk_cell a0.out 2).trans rfl; have u3_ : wd.cell? ⟨g12, 3, none⟩ = some (.int .i64 x.f3) := (blk_cell a0.out 3).trans rfl; have v0_ := blk_frozen a0.out 0; have v1_ := blk_frozen a0.out 1; have v2_ := blk_frozen a0.out 2; have v3_ := blk_frozen a0.out 3; (try clear y0_ y1_ y2_ z0_ z1_ z2_); have y0_ : wd.cell? ⟨g13, 0, none⟩ = some (.bool false) := (blk_cell a3.out 0).trans rfl; have y1_ : wd.cell? ⟨g13, 1, none⟩ = some (.bool false) := (blk_cell a3.out 1).trans rfl; have y2_ : wd.cell? ⟨g13, 2, none⟩ = some (.bool false) := (blk_cell a3.out 2).trans rfl; have z0_ := blk_frozen a3.out 0; have z1_ := blk_frozen a3.out 1; have z2_ := blk_frozen a3.out 2) | (at_lookup; refine wpList_lookup_own_int (H := Unit) _ rfl (.tmp 49) (.tmp 51) 43 rfl 2 2 .i64 int_kd Try.underlying43 Try.underlying2 (by kernel_rfl) B kk D rfl (own_map_below HO.out (by repeat (first | (with_reducible first | exact HBr.out | refine lS1_ ?_ a1.out | refine lS1_ ?_ a2.out) | exact HBr.out))) _ (.int .i64 x.f1) rfl (Go.Maps.keyOf_int_mk Try.underlying2 HW1.out) ?_; intro cc hat hcw; obtain rfl : cc = mp x.f1 := (by have := (HM.out _ HW1.out).symm.trans hat; injection this with this; injection this with _ this; exact this.symm); clear hat hcw) | (go_at_call 24; (with_reducible refine (impl_sheet_put.callsE x.f0 (mp x.f1) x.f2 x.f3 (ri, rl, true) (SE.start (stv_below HS.out (by repeat (first | (with_reducible first | exact HBr.out | refine lS1_ ?_ a1.out | refine lS1_ ?_ a2.out) | exact HBr.out))).choose_spec) HL.out HRR.out).mono ?_); rintro e we ⟨rfl, hs, hk⟩; (try dsimp only at hs); (try dsimp only); have n0_ := Aside0.mk (hs.1); have n1_ := Aside0.mk (own_map_keepT (own_map_below HO.out (by repeat (first | (with_reducible first | exact HBr.out | refine lS1_ ?_ a1.out | refine lS1_ ?_ a2.out) | exact HBr.out))) hk); have n2_ := Aside0.mk (R_keepT (Kd.R_below HK.out (by repeat (first | (with_reducible first | exact HBr.out | refine lS1_ ?_ a1.out | refine lS1_ ?_ a2.out) | exact HBr.out))) hk (by decide)); have n3_ := Aside0.mk (blk_keepT (bB_ BK.out (by repeat (first | (with_reducible first | exact HBr.out | refine lS1_ ?_ a1.out | refine lS1_ ?_ a2.out) | exact HBr.out))) hk (by decide) (by decide)); have n4_ := Aside0.mk ((lP_ HB.out (by repeat (first | (with_reducible first | exact HBr.out | refine lS1_ ?_ a1.out | refine lS1_ ?_ a2.out) | exact HBr.out))).trans (hs.2.2.mono NW.out)); clear HS HO HK BK HB; have HS := n0_; have HO := n1_; have HK := n2_; have BK := n3_; have HB := n4_; clear n0_ n1_ n2_ n3_ n4_ hs hk; (try clear q0_ q1_ q2_ f0_ f1_ f2_); have q0_ : we.cell? ⟨g6, 0, none⟩ = some (.int .i64 0) := (blk_cell BK.out 0).trans rfl; have q1_ : we.cell? ⟨g6, 1, none⟩ = some (.int .i64 0) := (blk_cell BK.out 1).trans rfl; have q2_ : we.cell? ⟨g6, 2, none⟩ = some (.slice none 0 0) := (blk_cell BK.out 2).trans rfl; have f0_ := blk_frozen BK.out 0; have f1_ := blk_frozen BK.out 1; have f2_ := blk_frozen BK.out 2) | (at_mapUpdate; refine wpList_mapUpdate_own (H := Unit) _ rfl (.tmp 72) (.tmp 73) (.tmp 76) 43 rfl 2 2 int_kd Try.underlying43 (plainElem Try.prog 2) B kk D rfl HO.out (by show kk < 9223372036854775807; have := HKL.out; omega) _ _ (.int .i64 (kn : Int)) rfl rfl (Go.Maps.keyOf_int_mk Try.underlying2 HW0.out) _ _ (plainElem_int Try.underlying2 HWR.out) ?_; intro wf ho hg; have n0_ := Aside0.mk (stv_grown_map HS.out hg (own_map_is HO.out)); have n1_ := Aside0.mk (R_grown_map HK.out hg (own_map_is HO.out)); have n2_ := Aside0.mk (blk_grown_map BK.out hg (own_map_is HO.out)); have n3_ := Aside0.mk (pw_below_grown HB.out (some B) (below_size HB.out) hg (fun k hk => by injection hk with hk; rw [← hk]; exact GB.out)); have n4_ := Aside0.mk (ho); clear HS HK BK HB HO; have HS := n0_; have HK := n1_; have BK := n2_; have HB := n3_; have HO := n4_; clear n0_ n1_ n2_ n3_ n4_ ho hg; obtain ⟨vs, hvs⟩ := HS.out; have hfull : wf.cell? ⟨S, 1, none⟩ = some (.bool true) := (blk_cell hvs.1 1).trans rfl; clear hvs; (try clear q0_ q1_ q2_ f0_ f1_ f2_); have q0_ : wf.cell? ⟨g6, 0, none⟩ = some (.int .i64 0) := (blk_cell BK.out 0).trans rfl; have q1_ : wf.cell? ⟨g6, 1, none⟩ = some (.int .i64 0) := (blk_cell BK.out 1).trans rfl; have q2_ : wf.cell? ⟨g6, 2, none⟩ = some (.slice none 0 0) := (blk_cell BK.out 2).trans rfl; have f0_ := blk_frozen BK.out 0; have f1_ := blk_frozen BK.out 1; have f2_ := blk_frozen BK.out 2))
                refine bodyPost_ret (results_cell_row rfl _ _ g6 26 #[.int .i64 2, .int .i64 0, .slice none 0 0] (0, 0) _ rfl (blk_put (blk_put (blk_put BK.out 0 _ rfl) 1 _ rfl) 2 _ rfl) Try.underlying26 rfl (by kernel_rfl)) rfl ?_
                exact ⟨_, rfl, Kd.R_nil _ _ _ _ _, lS1_ (lS1_ (lS1_ HB.out GE.out) GE.out) GE.out⟩
            | false =>
              cases hb_ with
              | true =>
                simp only [if_true, Bool.false_eq_true, if_false] at hmA hmB
                subst hmA hmB hhn
                have ht := HT.out
                rw [← HMV.out, if_pos rfl] at ht
                simp only [mvR, Prod.mk.injEq] at ht
                obtain ⟨rfl, rfl, rfl⟩ := ht
                go_wp2_with (first | ((with_reducible refine gate_dst (N := 12) rfl ?_); refine box_event ?hg (N := 12) ?hd (cs := #[.int .i64 0, .int .i64 0, .int .i64 0, .int .i64 0]) (t := 37) ?hr ?_; (case hd => rfl); (case hg => rfl); (case hr => first | (go_simp; done) | (go_simp; rfl)); intro g12 hg wa hbox hb; have HBr := Aside0.mk hb; have a0 := Aside0.mk hbox; have a1 := Aside0.mk (show wr.heap.size ≤ g12 by rw [hg]; exact Nat.le_refl _); clear hb hbox hg; (try clear u0_ u1_ u2_ u3_ v0_ v1_ v2_ v3_); have u0_ : wa.cell? ⟨g12, 0, none⟩ = some (.int .i64 0) := (blk_cell a0.out 0).trans rfl; have u1_ : wa.cell? ⟨g12, 1, none⟩ = some (.int .i64 0) := (blk_cell a0.out 1).trans rfl; have u2_ : wa.cell? ⟨g12, 2, none⟩ = some (.int .i64 0) := (blk_cell a0.out 2).trans rfl; have u3_ : wa.cell? ⟨g12, 3, none⟩ = some (.int .i64 0) := (blk_cell a0.out 3).trans rfl; have v0_ := blk_frozen a0.out 0; have v1_ := blk_frozen a0.out 1; have v2_ := blk_frozen a0.out 2; have v3_ := blk_frozen a0.out 3) | (go_at_call 22; (with_reducible refine (impl_namesOf.calls 1 x.f0 false true (!false) _ HNM.out).mono ?_); rintro e wb ⟨rfl, hb⟩; have n0_ := Aside0.mk (bB_ (blk_put (blk_put (blk_put (blk_put a0.out 0 (.int .i64 x.f0) rfl) 1 (.int .i64 x.f1) rfl) 2 (.int .i64 x.f2) rfl) 3 (.int .i64 x.f3) rfl) hb); have n1_ := Aside0.mk (lP_ (by repeat (first | (with_reducible first | exact HBr.out | refine lS1_ ?_ a1.out | refine lS1_ ?_ a2.out) | exact HBr.out)) hb); clear a0 HBr; have a0 := n0_; have HBr := n1_; clear n0_ n1_ hb; (try clear u0_ u1_ u2_ u3_ v0_ v1_ v2_ v3_); have u0_ : wb.cell? ⟨g12, 0, none⟩ = some (.int .i64 x.f0) := (blk_cell a0.out 0).trans rfl; have u1_ : wb.cell? ⟨g12, 1, none⟩ = some (.int .i64 x.f1) := (blk_cell a0.out 1).trans rfl; have u2_ : wb.cell? ⟨g12, 2, none⟩ = some (.int .i64 x.f2) := (blk_cell a0.out 2).trans rfl; have u3_ : wb.cell? ⟨g12, 3, none⟩ = some (.int .i64 x.f3) := (blk_cell a0.out 3).trans rfl; have v0_ := blk_frozen a0.out 0; have v1_ := blk_frozen a0.out 1; have v2_ := blk_frozen a0.out 2; have v3_ := blk_frozen a0.out 3) | ((with_reducible refine gate_dst (N := 13) rfl ?_); refine box_event ?hg (N := 13) ?hd (cs := #[.bool false, .bool false, .bool false]) (t := 47) ?hr ?_; (case hd => rfl); (case hg => rfl); (case hr => first | (go_simp; done) | (go_simp; rfl)); intro g13 hg wd hbox hb; have hne := (show g12 ≠ g13 by rw [hg]; exact Nat.ne_of_lt (blk_lt a0.out)); have hne2 := hne.symm; have a2 := Aside0.mk (show wr.heap.size ≤ g13 by rw [hg]; exact below_size HBr.out); have a3 := Aside0.mk hbox; have n0_ := Aside0.mk (bB_ a0.out hb); have n1_ := Aside0.mk (lP_ HBr.out hb); clear a0 HBr; have a0 := n0_; have HBr := n1_; clear n0_ n1_ hb hbox hg; (try clear u0_ u1_ u2_ u3_ v0_ v1_ v2_ v3_); have u0_ : wd.cell? ⟨g12, 0, none⟩ = some (.int .i64 x.f0) := (blk_cell a0.out 0).trans rfl; have u1_ : wd.cell? ⟨g12, 1, none⟩ = some (.int .i64 x.f1) := (blk_cell a0.out 1).trans rfl; have u2_ : wd.cell? ⟨g12, 2, none⟩ = some (.int .i64 x.f2) := (blk_cell a0.out 2).trans rfl; have u3_ : wd.cell? ⟨g12, 3, none⟩ = some (.int .i64 x.f3) := (blk_cell a0.out 3).trans rfl; have v0_ := blk_frozen a0.out 0; have v1_ := blk_frozen a0.out 1; have v2_ := blk_frozen a0.out 2; have v3_ := blk_frozen a0.out 3; (try clear y0_ y1_ y2_ z0_ z1_ z2_); have y0_ : wd.cell? ⟨g13, 0, none⟩ = some (.bool false) := (blk_cell a3.out 0).trans rfl; have y1_ : wd.cell? ⟨g13, 1, none⟩ = some (.bool false) := (blk_cell a3.out 1).trans rfl; have y2_ : wd.cell? ⟨g13, 2, none⟩ = some (.bool false) := (blk_cell a3.out 2).trans rfl; have z0_ := blk_frozen a3.out 0; have z1_ := blk_frozen a3.out 1; have z2_ := blk_frozen a3.out 2) | (at_lookup; refine wpList_lookup_own_int (H := Unit) _ rfl (.tmp 56) (.tmp 58) 43 rfl 2 2 .i64 int_kd Try.underlying43 Try.underlying2 (by kernel_rfl) B kk D rfl (own_map_below HO.out (by repeat (first | (with_reducible first | exact HBr.out | refine lS1_ ?_ a1.out | refine lS1_ ?_ a2.out) | exact HBr.out))) _ (.int .i64 x.f2) rfl (Go.Maps.keyOf_int_mk Try.underlying2 HW2.out) ?_; intro cc hat hcw; obtain rfl : cc = mp x.f2 := (by have := (HM.out _ HW2.out).symm.trans hat; injection this with this; injection this with _ this; exact this.symm); clear hat hcw) | (go_at_call 24; (with_reducible refine (impl_sheet_put.callsE x.f0 x.f1 (mp x.f2) x.f3 (ri, rl, true) (SE.start (stv_below HS.out (by repeat (first | (with_reducible first | exact HBr.out | refine lS1_ ?_ a1.out | refine lS1_ ?_ a2.out) | exact HBr.out))).choose_spec) HL.out HRR.out).mono ?_); rintro e we ⟨rfl, hs, hk⟩; (try dsimp only at hs); (try dsimp only); have n0_ := Aside0.mk (hs.1); have n1_ := Aside0.mk (own_map_keepT (own_map_below HO.out (by repeat (first | (with_reducible first | exact HBr.out | refine lS1_ ?_ a1.out | refine lS1_ ?_ a2.out) | exact HBr.out))) hk); have n2_ := Aside0.mk (R_keepT (Kd.R_below HK.out (by repeat (first | (with_reducible first | exact HBr.out | refine lS1_ ?_ a1.out | refine lS1_ ?_ a2.out) | exact HBr.out))) hk (by decide)); have n3_ := Aside0.mk (blk_keepT (bB_ BK.out (by repeat (first | (with_reducible first | exact HBr.out | refine lS1_ ?_ a1.out | refine lS1_ ?_ a2.out) | exact HBr.out))) hk (by decide) (by decide)); have n4_ := Aside0.mk ((lP_ HB.out (by repeat (first | (with_reducible first | exact HBr.out | refine lS1_ ?_ a1.out | refine lS1_ ?_ a2.out) | exact HBr.out))).trans (hs.2.2.mono NW.out)); clear HS HO HK BK HB; have HS := n0_; have HO := n1_; have HK := n2_; have BK := n3_; have HB := n4_; clear n0_ n1_ n2_ n3_ n4_ hs hk; (try clear q0_ q1_ q2_ f0_ f1_ f2_); have q0_ : we.cell? ⟨g6, 0, none⟩ = some (.int .i64 0) := (blk_cell BK.out 0).trans rfl; have q1_ : we.cell? ⟨g6, 1, none⟩ = some (.int .i64 0) := (blk_cell BK.out 1).trans rfl; have q2_ : we.cell? ⟨g6, 2, none⟩ = some (.slice none 0 0) := (blk_cell BK.out 2).trans rfl; have f0_ := blk_frozen BK.out 0; have f1_ := blk_frozen BK.out 1; have f2_ := blk_frozen BK.out 2) | (at_mapUpdate; refine wpList_mapUpdate_own (H := Unit) _ rfl (.tmp 72) (.tmp 73) (.tmp 76) 43 rfl 2 2 int_kd Try.underlying43 (plainElem Try.prog 2) B kk D rfl HO.out (by show kk < 9223372036854775807; have := HKL.out; omega) _ _ (.int .i64 (kn : Int)) rfl rfl (Go.Maps.keyOf_int_mk Try.underlying2 HW0.out) _ _ (plainElem_int Try.underlying2 HWR.out) ?_; intro wf ho hg; have n0_ := Aside0.mk (stv_grown_map HS.out hg (own_map_is HO.out)); have n1_ := Aside0.mk (R_grown_map HK.out hg (own_map_is HO.out)); have n2_ := Aside0.mk (blk_grown_map BK.out hg (own_map_is HO.out)); have n3_ := Aside0.mk (pw_below_grown HB.out (some B) (below_size HB.out) hg (fun k hk => by injection hk with hk; rw [← hk]; exact GB.out)); have n4_ := Aside0.mk (ho); clear HS HK BK HB HO; have HS := n0_; have HK := n1_; have BK := n2_; have HB := n3_; have HO := n4_; clear n0_ n1_ n2_ n3_ n4_ ho hg; obtain ⟨vs, hvs⟩ := HS.out; have hfull : wf.cell? ⟨S, 1, none⟩ = some (.bool true) := (blk_cell hvs.1 1).trans rfl; clear hvs; (try clear q0_ q1_ q2_ f0_ f1_ f2_); have q0_ : wf.cell? ⟨g6, 0, none⟩ = some (.int .i64 0) := (blk_cell BK.out 0).trans rfl; have q1_ : wf.cell? ⟨g6, 1, none⟩ = some (.int .i64 0) := (blk_cell BK.out 1).trans rfl; have q2_ : wf.cell? ⟨g6, 2, none⟩ = some (.slice none 0 0) := (blk_cell BK.out 2).trans rfl; have f0_ := blk_frozen BK.out 0; have f1_ := blk_frozen BK.out 1; have f2_ := blk_frozen BK.out 2))
                refine bodyPost_ret (results_cell_row rfl _ _ g6 26 #[.int .i64 2, .int .i64 0, .slice none 0 0] (0, 0) _ rfl (blk_put (blk_put (blk_put BK.out 0 _ rfl) 1 _ rfl) 2 _ rfl) Try.underlying26 rfl (by kernel_rfl)) rfl ?_
                exact ⟨_, rfl, Kd.R_nil _ _ _ _ _, lS1_ (lS1_ (lS1_ HB.out GE.out) GE.out) GE.out⟩
              | false =>
                simp only [if_true, Bool.false_eq_true, if_false] at hmA hmB
                subst hmA hmB hhn
                have ht := HT.out
                rw [← HMV.out, if_pos rfl] at ht
                simp only [mvR, Prod.mk.injEq] at ht
                obtain ⟨rfl, rfl, rfl⟩ := ht
                go_wp2_with (first | ((with_reducible refine gate_dst (N := 12) rfl ?_); refine box_event ?hg (N := 12) ?hd (cs := #[.int .i64 0, .int .i64 0, .int .i64 0, .int .i64 0]) (t := 37) ?hr ?_; (case hd => rfl); (case hg => rfl); (case hr => first | (go_simp; done) | (go_simp; rfl)); intro g12 hg wa hbox hb; have HBr := Aside0.mk hb; have a0 := Aside0.mk hbox; have a1 := Aside0.mk (show wr.heap.size ≤ g12 by rw [hg]; exact Nat.le_refl _); clear hb hbox hg; (try clear u0_ u1_ u2_ u3_ v0_ v1_ v2_ v3_); have u0_ : wa.cell? ⟨g12, 0, none⟩ = some (.int .i64 0) := (blk_cell a0.out 0).trans rfl; have u1_ : wa.cell? ⟨g12, 1, none⟩ = some (.int .i64 0) := (blk_cell a0.out 1).trans rfl; have u2_ : wa.cell? ⟨g12, 2, none⟩ = some (.int .i64 0) := (blk_cell a0.out 2).trans rfl; have u3_ : wa.cell? ⟨g12, 3, none⟩ = some (.int .i64 0) := (blk_cell a0.out 3).trans rfl; have v0_ := blk_frozen a0.out 0; have v1_ := blk_frozen a0.out 1; have v2_ := blk_frozen a0.out 2; have v3_ := blk_frozen a0.out 3) | (go_at_call 22; (with_reducible refine (impl_namesOf.calls 1 x.f0 false false (!false) _ HNM.out).mono ?_); rintro e wb ⟨rfl, hb⟩; have n0_ := Aside0.mk (bB_ (blk_put (blk_put (blk_put (blk_put a0.out 0 (.int .i64 x.f0) rfl) 1 (.int .i64 x.f1) rfl) 2 (.int .i64 x.f2) rfl) 3 (.int .i64 x.f3) rfl) hb); have n1_ := Aside0.mk (lP_ (by repeat (first | (with_reducible first | exact HBr.out | refine lS1_ ?_ a1.out | refine lS1_ ?_ a2.out) | exact HBr.out)) hb); clear a0 HBr; have a0 := n0_; have HBr := n1_; clear n0_ n1_ hb; (try clear u0_ u1_ u2_ u3_ v0_ v1_ v2_ v3_); have u0_ : wb.cell? ⟨g12, 0, none⟩ = some (.int .i64 x.f0) := (blk_cell a0.out 0).trans rfl; have u1_ : wb.cell? ⟨g12, 1, none⟩ = some (.int .i64 x.f1) := (blk_cell a0.out 1).trans rfl; have u2_ : wb.cell? ⟨g12, 2, none⟩ = some (.int .i64 x.f2) := (blk_cell a0.out 2).trans rfl; have u3_ : wb.cell? ⟨g12, 3, none⟩ = some (.int .i64 x.f3) := (blk_cell a0.out 3).trans rfl; have v0_ := blk_frozen a0.out 0; have v1_ := blk_frozen a0.out 1; have v2_ := blk_frozen a0.out 2; have v3_ := blk_frozen a0.out 3) | ((with_reducible refine gate_dst (N := 13) rfl ?_); refine box_event ?hg (N := 13) ?hd (cs := #[.bool false, .bool false, .bool false]) (t := 47) ?hr ?_; (case hd => rfl); (case hg => rfl); (case hr => first | (go_simp; done) | (go_simp; rfl)); intro g13 hg wd hbox hb; have hne := (show g12 ≠ g13 by rw [hg]; exact Nat.ne_of_lt (blk_lt a0.out)); have hne2 := hne.symm; have a2 := Aside0.mk (show wr.heap.size ≤ g13 by rw [hg]; exact below_size HBr.out); have a3 := Aside0.mk hbox; have n0_ := Aside0.mk (bB_ a0.out hb); have n1_ := Aside0.mk (lP_ HBr.out hb); clear a0 HBr; have a0 := n0_; have HBr := n1_; clear n0_ n1_ hb hbox hg; (try clear u0_ u1_ u2_ u3_ v0_ v1_ v2_ v3_); have u0_ : wd.cell? ⟨g12, 0, none⟩ = some (.int .i64 x.f0) := (blk_cell a0.out 0).trans rfl; have u1_ : wd.cell? ⟨g12, 1, none⟩ = some (.int .i64 x.f1) := (blk_cell a0.out 1).trans rfl; have u2_ : wd.cell? ⟨g12, 2, none⟩ = some (.int .i64 x.f2) := (blk_cell a0.out 2).trans rfl; have u3_ : wd.cell? ⟨g12, 3, none⟩ = some (.int .i64 x.f3) := (blk_cell a0.out 3).trans rfl; have v0_ := blk_frozen a0.out 0; have v1_ := blk_frozen a0.out 1; have v2_ := blk_frozen a0.out 2; have v3_ := blk_frozen a0.out 3; (try clear y0_ y1_ y2_ z0_ z1_ z2_); have y0_ : wd.cell? ⟨g13, 0, none⟩ = some (.bool false) := (blk_cell a3.out 0).trans rfl; have y1_ : wd.cell? ⟨g13, 1, none⟩ = some (.bool false) := (blk_cell a3.out 1).trans rfl; have y2_ : wd.cell? ⟨g13, 2, none⟩ = some (.bool false) := (blk_cell a3.out 2).trans rfl; have z0_ := blk_frozen a3.out 0; have z1_ := blk_frozen a3.out 1; have z2_ := blk_frozen a3.out 2) | (go_at_call 24; (with_reducible refine (impl_sheet_put.callsE x.f0 x.f1 x.f2 x.f3 (ri, rl, true) (SE.start (stv_below HS.out (by repeat (first | (with_reducible first | exact HBr.out | refine lS1_ ?_ a1.out | refine lS1_ ?_ a2.out) | exact HBr.out))).choose_spec) HL.out HRR.out).mono ?_); rintro e we ⟨rfl, hs, hk⟩; (try dsimp only at hs); (try dsimp only); have n0_ := Aside0.mk (hs.1); have n1_ := Aside0.mk (own_map_keepT (own_map_below HO.out (by repeat (first | (with_reducible first | exact HBr.out | refine lS1_ ?_ a1.out | refine lS1_ ?_ a2.out) | exact HBr.out))) hk); have n2_ := Aside0.mk (R_keepT (Kd.R_below HK.out (by repeat (first | (with_reducible first | exact HBr.out | refine lS1_ ?_ a1.out | refine lS1_ ?_ a2.out) | exact HBr.out))) hk (by decide)); have n3_ := Aside0.mk (blk_keepT (bB_ BK.out (by repeat (first | (with_reducible first | exact HBr.out | refine lS1_ ?_ a1.out | refine lS1_ ?_ a2.out) | exact HBr.out))) hk (by decide) (by decide)); have n4_ := Aside0.mk ((lP_ HB.out (by repeat (first | (with_reducible first | exact HBr.out | refine lS1_ ?_ a1.out | refine lS1_ ?_ a2.out) | exact HBr.out))).trans (hs.2.2.mono NW.out)); clear HS HO HK BK HB; have HS := n0_; have HO := n1_; have HK := n2_; have BK := n3_; have HB := n4_; clear n0_ n1_ n2_ n3_ n4_ hs hk; (try clear q0_ q1_ q2_ f0_ f1_ f2_); have q0_ : we.cell? ⟨g6, 0, none⟩ = some (.int .i64 0) := (blk_cell BK.out 0).trans rfl; have q1_ : we.cell? ⟨g6, 1, none⟩ = some (.int .i64 0) := (blk_cell BK.out 1).trans rfl; have q2_ : we.cell? ⟨g6, 2, none⟩ = some (.slice none 0 0) := (blk_cell BK.out 2).trans rfl; have f0_ := blk_frozen BK.out 0; have f1_ := blk_frozen BK.out 1; have f2_ := blk_frozen BK.out 2) | (at_mapUpdate; refine wpList_mapUpdate_own (H := Unit) _ rfl (.tmp 72) (.tmp 73) (.tmp 76) 43 rfl 2 2 int_kd Try.underlying43 (plainElem Try.prog 2) B kk D rfl HO.out (by show kk < 9223372036854775807; have := HKL.out; omega) _ _ (.int .i64 (kn : Int)) rfl rfl (Go.Maps.keyOf_int_mk Try.underlying2 HW0.out) _ _ (plainElem_int Try.underlying2 HWR.out) ?_; intro wf ho hg; have n0_ := Aside0.mk (stv_grown_map HS.out hg (own_map_is HO.out)); have n1_ := Aside0.mk (R_grown_map HK.out hg (own_map_is HO.out)); have n2_ := Aside0.mk (blk_grown_map BK.out hg (own_map_is HO.out)); have n3_ := Aside0.mk (pw_below_grown HB.out (some B) (below_size HB.out) hg (fun k hk => by injection hk with hk; rw [← hk]; exact GB.out)); have n4_ := Aside0.mk (ho); clear HS HK BK HB HO; have HS := n0_; have HK := n1_; have BK := n2_; have HB := n3_; have HO := n4_; clear n0_ n1_ n2_ n3_ n4_ ho hg; obtain ⟨vs, hvs⟩ := HS.out; have hfull : wf.cell? ⟨S, 1, none⟩ = some (.bool true) := (blk_cell hvs.1 1).trans rfl; clear hvs; (try clear q0_ q1_ q2_ f0_ f1_ f2_); have q0_ : wf.cell? ⟨g6, 0, none⟩ = some (.int .i64 0) := (blk_cell BK.out 0).trans rfl; have q1_ : wf.cell? ⟨g6, 1, none⟩ = some (.int .i64 0) := (blk_cell BK.out 1).trans rfl; have q2_ : wf.cell? ⟨g6, 2, none⟩ = some (.slice none 0 0) := (blk_cell BK.out 2).trans rfl; have f0_ := blk_frozen BK.out 0; have f1_ := blk_frozen BK.out 1; have f2_ := blk_frozen BK.out 2))
                refine bodyPost_ret (results_cell_row rfl _ _ g6 26 #[.int .i64 2, .int .i64 0, .slice none 0 0] (0, 0) _ rfl (blk_put (blk_put (blk_put BK.out 0 _ rfl) 1 _ rfl) 2 _ rfl) Try.underlying26 rfl (by kernel_rfl)) rfl ?_
                exact ⟨_, rfl, Kd.R_nil _ _ _ _ _, lS1_ (lS1_ (lS1_ HB.out GE.out) GE.out) GE.out⟩
          | false =>
            cases ha with
            | true =>
              cases hb_ with
              | true =>
                simp only [if_true, Bool.false_eq_true, if_false] at hmA hmB
                subst hmA hmB hhn
                have ht := HMV.out
                rw [if_neg (by decide)] at ht
                go_wp2_with (first | ((with_reducible refine gate_dst (N := 12) rfl ?_); refine box_event ?hg (N := 12) ?hd (cs := #[.int .i64 0, .int .i64 0, .int .i64 0, .int .i64 0]) (t := 37) ?hr ?_; (case hd => rfl); (case hg => rfl); (case hr => first | (go_simp; done) | (go_simp; rfl)); intro g12 hg wa hbox hb; have HBr := Aside0.mk hb; have a0 := Aside0.mk hbox; have a1 := Aside0.mk (show wr.heap.size ≤ g12 by rw [hg]; exact Nat.le_refl _); clear hb hbox hg; (try clear u0_ u1_ u2_ u3_ v0_ v1_ v2_ v3_); have u0_ : wa.cell? ⟨g12, 0, none⟩ = some (.int .i64 0) := (blk_cell a0.out 0).trans rfl; have u1_ : wa.cell? ⟨g12, 1, none⟩ = some (.int .i64 0) := (blk_cell a0.out 1).trans rfl; have u2_ : wa.cell? ⟨g12, 2, none⟩ = some (.int .i64 0) := (blk_cell a0.out 2).trans rfl; have u3_ : wa.cell? ⟨g12, 3, none⟩ = some (.int .i64 0) := (blk_cell a0.out 3).trans rfl; have v0_ := blk_frozen a0.out 0; have v1_ := blk_frozen a0.out 1; have v2_ := blk_frozen a0.out 2; have v3_ := blk_frozen a0.out 3) | (go_at_call 22; (with_reducible refine (impl_namesOf.calls 1 x.f0 true true (!true) _ HNM.out).mono ?_); rintro e wb ⟨rfl, hb⟩; have n0_ := Aside0.mk (bB_ (blk_put (blk_put (blk_put (blk_put a0.out 0 (.int .i64 x.f0) rfl) 1 (.int .i64 x.f1) rfl) 2 (.int .i64 x.f2) rfl) 3 (.int .i64 x.f3) rfl) hb); have n1_ := Aside0.mk (lP_ (by repeat (first | (with_reducible first | exact HBr.out | refine lS1_ ?_ a1.out | refine lS1_ ?_ a2.out) | exact HBr.out)) hb); clear a0 HBr; have a0 := n0_; have HBr := n1_; clear n0_ n1_ hb; (try clear u0_ u1_ u2_ u3_ v0_ v1_ v2_ v3_); have u0_ : wb.cell? ⟨g12, 0, none⟩ = some (.int .i64 x.f0) := (blk_cell a0.out 0).trans rfl; have u1_ : wb.cell? ⟨g12, 1, none⟩ = some (.int .i64 x.f1) := (blk_cell a0.out 1).trans rfl; have u2_ : wb.cell? ⟨g12, 2, none⟩ = some (.int .i64 x.f2) := (blk_cell a0.out 2).trans rfl; have u3_ : wb.cell? ⟨g12, 3, none⟩ = some (.int .i64 x.f3) := (blk_cell a0.out 3).trans rfl; have v0_ := blk_frozen a0.out 0; have v1_ := blk_frozen a0.out 1; have v2_ := blk_frozen a0.out 2; have v3_ := blk_frozen a0.out 3) | ((with_reducible refine gate_dst (N := 13) rfl ?_); refine box_event ?hg (N := 13) ?hd (cs := #[.bool false, .bool false, .bool false]) (t := 47) ?hr ?_; (case hd => rfl); (case hg => rfl); (case hr => first | (go_simp; done) | (go_simp; rfl)); intro g13 hg wd hbox hb; have hne := (show g12 ≠ g13 by rw [hg]; exact Nat.ne_of_lt (blk_lt a0.out)); have hne2 := hne.symm; have a2 := Aside0.mk (show wr.heap.size ≤ g13 by rw [hg]; exact below_size HBr.out); have a3 := Aside0.mk hbox; have n0_ := Aside0.mk (bB_ a0.out hb); have n1_ := Aside0.mk (lP_ HBr.out hb); clear a0 HBr; have a0 := n0_; have HBr := n1_; clear n0_ n1_ hb hbox hg; (try clear u0_ u1_ u2_ u3_ v0_ v1_ v2_ v3_); have u0_ : wd.cell? ⟨g12, 0, none⟩ = some (.int .i64 x.f0) := (blk_cell a0.out 0).trans rfl; have u1_ : wd.cell? ⟨g12, 1, none⟩ = some (.int .i64 x.f1) := (blk_cell a0.out 1).trans rfl; have u2_ : wd.cell? ⟨g12, 2, none⟩ = some (.int .i64 x.f2) := (blk_cell a0.out 2).trans rfl; have u3_ : wd.cell? ⟨g12, 3, none⟩ = some (.int .i64 x.f3) := (blk_cell a0.out 3).trans rfl; have v0_ := blk_frozen a0.out 0; have v1_ := blk_frozen a0.out 1; have v2_ := blk_frozen a0.out 2; have v3_ := blk_frozen a0.out 3; (try clear y0_ y1_ y2_ z0_ z1_ z2_); have y0_ : wd.cell? ⟨g13, 0, none⟩ = some (.bool false) := (blk_cell a3.out 0).trans rfl; have y1_ : wd.cell? ⟨g13, 1, none⟩ = some (.bool false) := (blk_cell a3.out 1).trans rfl; have y2_ : wd.cell? ⟨g13, 2, none⟩ = some (.bool false) := (blk_cell a3.out 2).trans rfl; have z0_ := blk_frozen a3.out 0; have z1_ := blk_frozen a3.out 1; have z2_ := blk_frozen a3.out 2) | (at_lookup; refine wpList_lookup_own_int (H := Unit) _ rfl (.tmp 49) (.tmp 51) 43 rfl 2 2 .i64 int_kd Try.underlying43 Try.underlying2 (by kernel_rfl) B kk D rfl (own_map_below HO.out (by repeat (first | (with_reducible first | exact HBr.out | refine lS1_ ?_ a1.out | refine lS1_ ?_ a2.out) | exact HBr.out))) _ (.int .i64 x.f1) rfl (Go.Maps.keyOf_int_mk Try.underlying2 HW1.out) ?_; intro cc hat hcw; obtain rfl : cc = mp x.f1 := (by have := (HM.out _ HW1.out).symm.trans hat; injection this with this; injection this with _ this; exact this.symm); clear hat hcw) | (at_lookup; refine wpList_lookup_own_int (H := Unit) _ rfl (.tmp 56) (.tmp 58) 43 rfl 2 2 .i64 int_kd Try.underlying43 Try.underlying2 (by kernel_rfl) B kk D rfl (own_map_below HO.out (by repeat (first | (with_reducible first | exact HBr.out | refine lS1_ ?_ a1.out | refine lS1_ ?_ a2.out) | exact HBr.out))) _ (.int .i64 x.f2) rfl (Go.Maps.keyOf_int_mk Try.underlying2 HW2.out) ?_; intro cc hat hcw; obtain rfl : cc = mp x.f2 := (by have := (HM.out _ HW2.out).symm.trans hat; injection this with this; injection this with _ this; exact this.symm); clear hat hcw) | (go_at_call 24; (with_reducible refine (impl_sheet_put.callsE x.f0 (mp x.f1) (mp x.f2) x.f3 (ri, rl, false) (SE.start (stv_below HS.out (by repeat (first | (with_reducible first | exact HBr.out | refine lS1_ ?_ a1.out | refine lS1_ ?_ a2.out) | exact HBr.out))).choose_spec) HL.out HRR.out).mono ?_); rintro e we ⟨rfl, hs, hk⟩; (try dsimp only at hs); (try dsimp only); have n0_ := Aside0.mk (hs.1); have n1_ := Aside0.mk (own_map_keepT (own_map_below HO.out (by repeat (first | (with_reducible first | exact HBr.out | refine lS1_ ?_ a1.out | refine lS1_ ?_ a2.out) | exact HBr.out))) hk); have n2_ := Aside0.mk (R_keepT (Kd.R_below HK.out (by repeat (first | (with_reducible first | exact HBr.out | refine lS1_ ?_ a1.out | refine lS1_ ?_ a2.out) | exact HBr.out))) hk (by decide)); have n3_ := Aside0.mk (blk_keepT (bB_ BK.out (by repeat (first | (with_reducible first | exact HBr.out | refine lS1_ ?_ a1.out | refine lS1_ ?_ a2.out) | exact HBr.out))) hk (by decide) (by decide)); have n4_ := Aside0.mk ((lP_ HB.out (by repeat (first | (with_reducible first | exact HBr.out | refine lS1_ ?_ a1.out | refine lS1_ ?_ a2.out) | exact HBr.out))).trans (hs.2.2.mono NW.out)); clear HS HO HK BK HB; have HS := n0_; have HO := n1_; have HK := n2_; have BK := n3_; have HB := n4_; clear n0_ n1_ n2_ n3_ n4_ hs hk; (try clear q0_ q1_ q2_ f0_ f1_ f2_); have q0_ : we.cell? ⟨g6, 0, none⟩ = some (.int .i64 0) := (blk_cell BK.out 0).trans rfl; have q1_ : we.cell? ⟨g6, 1, none⟩ = some (.int .i64 0) := (blk_cell BK.out 1).trans rfl; have q2_ : we.cell? ⟨g6, 2, none⟩ = some (.slice none 0 0) := (blk_cell BK.out 2).trans rfl; have f0_ := blk_frozen BK.out 0; have f1_ := blk_frozen BK.out 1; have f2_ := blk_frozen BK.out 2) | (at_mapUpdate; refine wpList_mapUpdate_own (H := Unit) _ rfl (.tmp 72) (.tmp 73) (.tmp 76) 43 rfl 2 2 int_kd Try.underlying43 (plainElem Try.prog 2) B kk D rfl HO.out (by show kk < 9223372036854775807; have := HKL.out; omega) _ _ (.int .i64 (kn : Int)) rfl rfl (Go.Maps.keyOf_int_mk Try.underlying2 HW0.out) _ _ (plainElem_int Try.underlying2 HWR.out) ?_; intro wf ho hg; have n0_ := Aside0.mk (stv_grown_map HS.out hg (own_map_is HO.out)); have n1_ := Aside0.mk (R_grown_map HK.out hg (own_map_is HO.out)); have n2_ := Aside0.mk (blk_grown_map BK.out hg (own_map_is HO.out)); have n3_ := Aside0.mk (pw_below_grown HB.out (some B) (below_size HB.out) hg (fun k hk => by injection hk with hk; rw [← hk]; exact GB.out)); have n4_ := Aside0.mk (ho); clear HS HK BK HB HO; have HS := n0_; have HK := n1_; have BK := n2_; have HB := n3_; have HO := n4_; clear n0_ n1_ n2_ n3_ n4_ ho hg; obtain ⟨vs, hvs⟩ := HS.out; have hfull : wf.cell? ⟨S, 1, none⟩ = some (.bool false) := (blk_cell hvs.1 1).trans rfl; clear hvs; (try clear q0_ q1_ q2_ f0_ f1_ f2_); have q0_ : wf.cell? ⟨g6, 0, none⟩ = some (.int .i64 0) := (blk_cell BK.out 0).trans rfl; have q1_ : wf.cell? ⟨g6, 1, none⟩ = some (.int .i64 0) := (blk_cell BK.out 1).trans rfl; have q2_ : wf.cell? ⟨g6, 2, none⟩ = some (.slice none 0 0) := (blk_cell BK.out 2).trans rfl; have f0_ := blk_frozen BK.out 0; have f1_ := blk_frozen BK.out 1; have f2_ := blk_frozen BK.out 2))
                go_roundg (ks.length - (kk + 1))
                case measure => omega
                case rel => exact ⟨kk + 1, rl, mput mp (kn : Int) ri, D.put (.int .i64 (kn : Int)) (.lit (.int .i64 ri)), by omega, by omega, by go_num, ⟨ht⟩, HLR, HS, HO, ⟨HD.out.put _ _⟩, ⟨mvd_put HM.out HD.out HW0.out⟩, BK, HK, HB⟩
              | false =>
                simp only [if_true, Bool.false_eq_true, if_false] at hmA hmB
                subst hmA hmB hhn
                have ht := HMV.out
                rw [if_neg (by decide)] at ht
                go_wp2_with (first | ((with_reducible refine gate_dst (N := 12) rfl ?_); refine box_event ?hg (N := 12) ?hd (cs := #[.int .i64 0, .int .i64 0, .int .i64 0, .int .i64 0]) (t := 37) ?hr ?_; (case hd => rfl); (case hg => rfl); (case hr => first | (go_simp; done) | (go_simp; rfl)); intro g12 hg wa hbox hb; have HBr := Aside0.mk hb; have a0 := Aside0.mk hbox; have a1 := Aside0.mk (show wr.heap.size ≤ g12 by rw [hg]; exact Nat.le_refl _); clear hb hbox hg; (try clear u0_ u1_ u2_ u3_ v0_ v1_ v2_ v3_); have u0_ : wa.cell? ⟨g12, 0, none⟩ = some (.int .i64 0) := (blk_cell a0.out 0).trans rfl; have u1_ : wa.cell? ⟨g12, 1, none⟩ = some (.int .i64 0) := (blk_cell a0.out 1).trans rfl; have u2_ : wa.cell? ⟨g12, 2, none⟩ = some (.int .i64 0) := (blk_cell a0.out 2).trans rfl; have u3_ : wa.cell? ⟨g12, 3, none⟩ = some (.int .i64 0) := (blk_cell a0.out 3).trans rfl; have v0_ := blk_frozen a0.out 0; have v1_ := blk_frozen a0.out 1; have v2_ := blk_frozen a0.out 2; have v3_ := blk_frozen a0.out 3) | (go_at_call 22; (with_reducible refine (impl_namesOf.calls 1 x.f0 true false (!true) _ HNM.out).mono ?_); rintro e wb ⟨rfl, hb⟩; have n0_ := Aside0.mk (bB_ (blk_put (blk_put (blk_put (blk_put a0.out 0 (.int .i64 x.f0) rfl) 1 (.int .i64 x.f1) rfl) 2 (.int .i64 x.f2) rfl) 3 (.int .i64 x.f3) rfl) hb); have n1_ := Aside0.mk (lP_ (by repeat (first | (with_reducible first | exact HBr.out | refine lS1_ ?_ a1.out | refine lS1_ ?_ a2.out) | exact HBr.out)) hb); clear a0 HBr; have a0 := n0_; have HBr := n1_; clear n0_ n1_ hb; (try clear u0_ u1_ u2_ u3_ v0_ v1_ v2_ v3_); have u0_ : wb.cell? ⟨g12, 0, none⟩ = some (.int .i64 x.f0) := (blk_cell a0.out 0).trans rfl; have u1_ : wb.cell? ⟨g12, 1, none⟩ = some (.int .i64 x.f1) := (blk_cell a0.out 1).trans rfl; have u2_ : wb.cell? ⟨g12, 2, none⟩ = some (.int .i64 x.f2) := (blk_cell a0.out 2).trans rfl; have u3_ : wb.cell? ⟨g12, 3, none⟩ = some (.int .i64 x.f3) := (blk_cell a0.out 3).trans rfl; have v0_ := blk_frozen a0.out 0; have v1_ := blk_frozen a0.out 1; have v2_ := blk_frozen a0.out 2; have v3_ := blk_frozen a0.out 3) | ((with_reducible refine gate_dst (N := 13) rfl ?_); refine box_event ?hg (N := 13) ?hd (cs := #[.bool false, .bool false, .bool false]) (t := 47) ?hr ?_; (case hd => rfl); (case hg => rfl); (case hr => first | (go_simp; done) | (go_simp; rfl)); intro g13 hg wd hbox hb; have hne := (show g12 ≠ g13 by rw [hg]; exact Nat.ne_of_lt (blk_lt a0.out)); have hne2 := hne.symm; have a2 := Aside0.mk (show wr.heap.size ≤ g13 by rw [hg]; exact below_size HBr.out); have a3 := Aside0.mk hbox; have n0_ := Aside0.mk (bB_ a0.out hb); have n1_ := Aside0.mk (lP_ HBr.out hb); clear a0 HBr; have a0 := n0_; have HBr := n1_; clear n0_ n1_ hb hbox hg; (try clear u0_ u1_ u2_ u3_ v0_ v1_ v2_ v3_); have u0_ : wd.cell? ⟨g12, 0, none⟩ = some (.int .i64 x.f0) := (blk_cell a0.out 0).trans rfl; have u1_ : wd.cell? ⟨g12, 1, none⟩ = some (.int .i64 x.f1) := (blk_cell a0.out 1).trans rfl; have u2_ : wd.cell? ⟨g12, 2, none⟩ = some (.int .i64 x.f2) := (blk_cell a0.out 2).trans rfl; have u3_ : wd.cell? ⟨g12, 3, none⟩ = some (.int .i64 x.f3) := (blk_cell a0.out 3).trans rfl; have v0_ := blk_frozen a0.out 0; have v1_ := blk_frozen a0.out 1; have v2_ := blk_frozen a0.out 2; have v3_ := blk_frozen a0.out 3; (try clear y0_ y1_ y2_ z0_ z1_ z2_); have y0_ : wd.cell? ⟨g13, 0, none⟩ = some (.bool false) := (blk_cell a3.out 0).trans rfl; have y1_ : wd.cell? ⟨g13, 1, none⟩ = some (.bool false) := (blk_cell a3.out 1).trans rfl; have y2_ : wd.cell? ⟨g13, 2, none⟩ = some (.bool false) := (blk_cell a3.out 2).trans rfl; have z0_ := blk_frozen a3.out 0; have z1_ := blk_frozen a3.out 1; have z2_ := blk_frozen a3.out 2) | (at_lookup; refine wpList_lookup_own_int (H := Unit) _ rfl (.tmp 49) (.tmp 51) 43 rfl 2 2 .i64 int_kd Try.underlying43 Try.underlying2 (by kernel_rfl) B kk D rfl (own_map_below HO.out (by repeat (first | (with_reducible first | exact HBr.out | refine lS1_ ?_ a1.out | refine lS1_ ?_ a2.out) | exact HBr.out))) _ (.int .i64 x.f1) rfl (Go.Maps.keyOf_int_mk Try.underlying2 HW1.out) ?_; intro cc hat hcw; obtain rfl : cc = mp x.f1 := (by have := (HM.out _ HW1.out).symm.trans hat; injection this with this; injection this with _ this; exact this.symm); clear hat hcw) | (go_at_call 24; (with_reducible refine (impl_sheet_put.callsE x.f0 (mp x.f1) x.f2 x.f3 (ri, rl, false) (SE.start (stv_below HS.out (by repeat (first | (with_reducible first | exact HBr.out | refine lS1_ ?_ a1.out | refine lS1_ ?_ a2.out) | exact HBr.out))).choose_spec) HL.out HRR.out).mono ?_); rintro e we ⟨rfl, hs, hk⟩; (try dsimp only at hs); (try dsimp only); have n0_ := Aside0.mk (hs.1); have n1_ := Aside0.mk (own_map_keepT (own_map_below HO.out (by repeat (first | (with_reducible first | exact HBr.out | refine lS1_ ?_ a1.out | refine lS1_ ?_ a2.out) | exact HBr.out))) hk); have n2_ := Aside0.mk (R_keepT (Kd.R_below HK.out (by repeat (first | (with_reducible first | exact HBr.out | refine lS1_ ?_ a1.out | refine lS1_ ?_ a2.out) | exact HBr.out))) hk (by decide)); have n3_ := Aside0.mk (blk_keepT (bB_ BK.out (by repeat (first | (with_reducible first | exact HBr.out | refine lS1_ ?_ a1.out | refine lS1_ ?_ a2.out) | exact HBr.out))) hk (by decide) (by decide)); have n4_ := Aside0.mk ((lP_ HB.out (by repeat (first | (with_reducible first | exact HBr.out | refine lS1_ ?_ a1.out | refine lS1_ ?_ a2.out) | exact HBr.out))).trans (hs.2.2.mono NW.out)); clear HS HO HK BK HB; have HS := n0_; have HO := n1_; have HK := n2_; have BK := n3_; have HB := n4_; clear n0_ n1_ n2_ n3_ n4_ hs hk; (try clear q0_ q1_ q2_ f0_ f1_ f2_); have q0_ : we.cell? ⟨g6, 0, none⟩ = some (.int .i64 0) := (blk_cell BK.out 0).trans rfl; have q1_ : we.cell? ⟨g6, 1, none⟩ = some (.int .i64 0) := (blk_cell BK.out 1).trans rfl; have q2_ : we.cell? ⟨g6, 2, none⟩ = some (.slice none 0 0) := (blk_cell BK.out 2).trans rfl; have f0_ := blk_frozen BK.out 0; have f1_ := blk_frozen BK.out 1; have f2_ := blk_frozen BK.out 2) | (at_mapUpdate; refine wpList_mapUpdate_own (H := Unit) _ rfl (.tmp 72) (.tmp 73) (.tmp 76) 43 rfl 2 2 int_kd Try.underlying43 (plainElem Try.prog 2) B kk D rfl HO.out (by show kk < 9223372036854775807; have := HKL.out; omega) _ _ (.int .i64 (kn : Int)) rfl rfl (Go.Maps.keyOf_int_mk Try.underlying2 HW0.out) _ _ (plainElem_int Try.underlying2 HWR.out) ?_; intro wf ho hg; have n0_ := Aside0.mk (stv_grown_map HS.out hg (own_map_is HO.out)); have n1_ := Aside0.mk (R_grown_map HK.out hg (own_map_is HO.out)); have n2_ := Aside0.mk (blk_grown_map BK.out hg (own_map_is HO.out)); have n3_ := Aside0.mk (pw_below_grown HB.out (some B) (below_size HB.out) hg (fun k hk => by injection hk with hk; rw [← hk]; exact GB.out)); have n4_ := Aside0.mk (ho); clear HS HK BK HB HO; have HS := n0_; have HK := n1_; have BK := n2_; have HB := n3_; have HO := n4_; clear n0_ n1_ n2_ n3_ n4_ ho hg; obtain ⟨vs, hvs⟩ := HS.out; have hfull : wf.cell? ⟨S, 1, none⟩ = some (.bool false) := (blk_cell hvs.1 1).trans rfl; clear hvs; (try clear q0_ q1_ q2_ f0_ f1_ f2_); have q0_ : wf.cell? ⟨g6, 0, none⟩ = some (.int .i64 0) := (blk_cell BK.out 0).trans rfl; have q1_ : wf.cell? ⟨g6, 1, none⟩ = some (.int .i64 0) := (blk_cell BK.out 1).trans rfl; have q2_ : wf.cell? ⟨g6, 2, none⟩ = some (.slice none 0 0) := (blk_cell BK.out 2).trans rfl; have f0_ := blk_frozen BK.out 0; have f1_ := blk_frozen BK.out 1; have f2_ := blk_frozen BK.out 2))
                go_roundg (ks.length - (kk + 1))
                case measure => omega
                case rel => exact ⟨kk + 1, rl, mput mp (kn : Int) ri, D.put (.int .i64 (kn : Int)) (.lit (.int .i64 ri)), by omega, by omega, by go_num, ⟨ht⟩, HLR, HS, HO, ⟨HD.out.put _ _⟩, ⟨mvd_put HM.out HD.out HW0.out⟩, BK, HK, HB⟩
            | false =>
              cases hb_ with
              | true =>
                simp only [if_true, Bool.false_eq_true, if_false] at hmA hmB
                subst hmA hmB hhn
                have ht := HMV.out
                rw [if_neg (by decide)] at ht
                go_wp2_with (first | ((with_reducible refine gate_dst (N := 12) rfl ?_); refine box_event ?hg (N := 12) ?hd (cs := #[.int .i64 0, .int .i64 0, .int .i64 0, .int .i64 0]) (t := 37) ?hr ?_; (case hd => rfl); (case hg => rfl); (case hr => first | (go_simp; done) | (go_simp; rfl)); intro g12 hg wa hbox hb; have HBr := Aside0.mk hb; have a0 := Aside0.mk hbox; have a1 := Aside0.mk (show wr.heap.size ≤ g12 by rw [hg]; exact Nat.le_refl _); clear hb hbox hg; (try clear u0_ u1_ u2_ u3_ v0_ v1_ v2_ v3_); have u0_ : wa.cell? ⟨g12, 0, none⟩ = some (.int .i64 0) := (blk_cell a0.out 0).trans rfl; have u1_ : wa.cell? ⟨g12, 1, none⟩ = some (.int .i64 0) := (blk_cell a0.out 1).trans rfl; have u2_ : wa.cell? ⟨g12, 2, none⟩ = some (.int .i64 0) := (blk_cell a0.out 2).trans rfl; have u3_ : wa.cell? ⟨g12, 3, none⟩ = some (.int .i64 0) := (blk_cell a0.out 3).trans rfl; have v0_ := blk_frozen a0.out 0; have v1_ := blk_frozen a0.out 1; have v2_ := blk_frozen a0.out 2; have v3_ := blk_frozen a0.out 3) | (go_at_call 22; (with_reducible refine (impl_namesOf.calls 1 x.f0 false true (!false) _ HNM.out).mono ?_); rintro e wb ⟨rfl, hb⟩; have n0_ := Aside0.mk (bB_ (blk_put (blk_put (blk_put (blk_put a0.out 0 (.int .i64 x.f0) rfl) 1 (.int .i64 x.f1) rfl) 2 (.int .i64 x.f2) rfl) 3 (.int .i64 x.f3) rfl) hb); have n1_ := Aside0.mk (lP_ (by repeat (first | (with_reducible first | exact HBr.out | refine lS1_ ?_ a1.out | refine lS1_ ?_ a2.out) | exact HBr.out)) hb); clear a0 HBr; have a0 := n0_; have HBr := n1_; clear n0_ n1_ hb; (try clear u0_ u1_ u2_ u3_ v0_ v1_ v2_ v3_); have u0_ : wb.cell? ⟨g12, 0, none⟩ = some (.int .i64 x.f0) := (blk_cell a0.out 0).trans rfl; have u1_ : wb.cell? ⟨g12, 1, none⟩ = some (.int .i64 x.f1) := (blk_cell a0.out 1).trans rfl; have u2_ : wb.cell? ⟨g12, 2, none⟩ = some (.int .i64 x.f2) := (blk_cell a0.out 2).trans rfl; have u3_ : wb.cell? ⟨g12, 3, none⟩ = some (.int .i64 x.f3) := (blk_cell a0.out 3).trans rfl; have v0_ := blk_frozen a0.out 0; have v1_ := blk_frozen a0.out 1; have v2_ := blk_frozen a0.out 2; have v3_ := blk_frozen a0.out 3) | ((with_reducible refine gate_dst (N := 13) rfl ?_); refine box_event ?hg (N := 13) ?hd (cs := #[.bool false, .bool false, .bool false]) (t := 47) ?hr ?_; (case hd => rfl); (case hg => rfl); (case hr => first | (go_simp; done) | (go_simp; rfl)); intro g13 hg wd hbox hb; have hne := (show g12 ≠ g13 by rw [hg]; exact Nat.ne_of_lt (blk_lt a0.out)); have hne2 := hne.symm; have a2 := Aside0.mk (show wr.heap.size ≤ g13 by rw [hg]; exact below_size HBr.out); have a3 := Aside0.mk hbox; have n0_ := Aside0.mk (bB_ a0.out hb); have n1_ := Aside0.mk (lP_ HBr.out hb); clear a0 HBr; have a0 := n0_; have HBr := n1_; clear n0_ n1_ hb hbox hg; (try clear u0_ u1_ u2_ u3_ v0_ v1_ v2_ v3_); have u0_ : wd.cell? ⟨g12, 0, none⟩ = some (.int .i64 x.f0) := (blk_cell a0.out 0).trans rfl; have u1_ : wd.cell? ⟨g12, 1, none⟩ = some (.int .i64 x.f1) := (blk_cell a0.out 1).trans rfl; have u2_ : wd.cell? ⟨g12, 2, none⟩ = some (.int .i64 x.f2) := (blk_cell a0.out 2).trans rfl; have u3_ : wd.cell? ⟨g12, 3, none⟩ = some (.int .i64 x.f3) := (blk_cell a0.out 3).trans rfl; have v0_ := blk_frozen a0.out 0; have v1_ := blk_frozen a0.out 1; have v2_ := blk_frozen a0.out 2; have v3_ := blk_frozen a0.out 3; (try clear y0_ y1_ y2_ z0_ z1_ z2_); have y0_ : wd.cell? ⟨g13, 0, none⟩ = some (.bool false) := (blk_cell a3.out 0).trans rfl; have y1_ : wd.cell? ⟨g13, 1, none⟩ = some (.bool false) := (blk_cell a3.out 1).trans rfl; have y2_ : wd.cell? ⟨g13, 2, none⟩ = some (.bool false) := (blk_cell a3.out 2).trans rfl; have z0_ := blk_frozen a3.out 0; have z1_ := blk_frozen a3.out 1; have z2_ := blk_frozen a3.out 2) | (at_lookup; refine wpList_lookup_own_int (H := Unit) _ rfl (.tmp 56) (.tmp 58) 43 rfl 2 2 .i64 int_kd Try.underlying43 Try.underlying2 (by kernel_rfl) B kk D rfl (own_map_below HO.out (by repeat (first | (with_reducible first | exact HBr.out | refine lS1_ ?_ a1.out | refine lS1_ ?_ a2.out) | exact HBr.out))) _ (.int .i64 x.f2) rfl (Go.Maps.keyOf_int_mk Try.underlying2 HW2.out) ?_; intro cc hat hcw; obtain rfl : cc = mp x.f2 := (by have := (HM.out _ HW2.out).symm.trans hat; injection this with this; injection this with _ this; exact this.symm); clear hat hcw) | (go_at_call 24; (with_reducible refine (impl_sheet_put.callsE x.f0 x.f1 (mp x.f2) x.f3 (ri, rl, false) (SE.start (stv_below HS.out (by repeat (first | (with_reducible first | exact HBr.out | refine lS1_ ?_ a1.out | refine lS1_ ?_ a2.out) | exact HBr.out))).choose_spec) HL.out HRR.out).mono ?_); rintro e we ⟨rfl, hs, hk⟩; (try dsimp only at hs); (try dsimp only); have n0_ := Aside0.mk (hs.1); have n1_ := Aside0.mk (own_map_keepT (own_map_below HO.out (by repeat (first | (with_reducible first | exact HBr.out | refine lS1_ ?_ a1.out | refine lS1_ ?_ a2.out) | exact HBr.out))) hk); have n2_ := Aside0.mk (R_keepT (Kd.R_below HK.out (by repeat (first | (with_reducible first | exact HBr.out | refine lS1_ ?_ a1.out | refine lS1_ ?_ a2.out) | exact HBr.out))) hk (by decide)); have n3_ := Aside0.mk (blk_keepT (bB_ BK.out (by repeat (first | (with_reducible first | exact HBr.out | refine lS1_ ?_ a1.out | refine lS1_ ?_ a2.out) | exact HBr.out))) hk (by decide) (by decide)); have n4_ := Aside0.mk ((lP_ HB.out (by repeat (first | (with_reducible first | exact HBr.out | refine lS1_ ?_ a1.out | refine lS1_ ?_ a2.out) | exact HBr.out))).trans (hs.2.2.mono NW.out)); clear HS HO HK BK HB; have HS := n0_; have HO := n1_; have HK := n2_; have BK := n3_; have HB := n4_; clear n0_ n1_ n2_ n3_ n4_ hs hk; (try clear q0_ q1_ q2_ f0_ f1_ f2_); have q0_ : we.cell? ⟨g6, 0, none⟩ = some (.int .i64 0) := (blk_cell BK.out 0).trans rfl; have q1_ : we.cell? ⟨g6, 1, none⟩ = some (.int .i64 0) := (blk_cell BK.out 1).trans rfl; have q2_ : we.cell? ⟨g6, 2, none⟩ = some (.slice none 0 0) := (blk_cell BK.out 2).trans rfl; have f0_ := blk_frozen BK.out 0; have f1_ := blk_frozen BK.out 1; have f2_ := blk_frozen BK.out 2) | (at_mapUpdate; refine wpList_mapUpdate_own (H := Unit) _ rfl (.tmp 72) (.tmp 73) (.tmp 76) 43 rfl 2 2 int_kd Try.underlying43 (plainElem Try.prog 2) B kk D rfl HO.out (by show kk < 9223372036854775807; have := HKL.out; omega) _ _ (.int .i64 (kn : Int)) rfl rfl (Go.Maps.keyOf_int_mk Try.underlying2 HW0.out) _ _ (plainElem_int Try.underlying2 HWR.out) ?_; intro wf ho hg; have n0_ := Aside0.mk (stv_grown_map HS.out hg (own_map_is HO.out)); have n1_ := Aside0.mk (R_grown_map HK.out hg (own_map_is HO.out)); have n2_ := Aside0.mk (blk_grown_map BK.out hg (own_map_is HO.out)); have n3_ := Aside0.mk (pw_below_grown HB.out (some B) (below_size HB.out) hg (fun k hk => by injection hk with hk; rw [← hk]; exact GB.out)); have n4_ := Aside0.mk (ho); clear HS HK BK HB HO; have HS := n0_; have HK := n1_; have BK := n2_; have HB := n3_; have HO := n4_; clear n0_ n1_ n2_ n3_ n4_ ho hg; obtain ⟨vs, hvs⟩ := HS.out; have hfull : wf.cell? ⟨S, 1, none⟩ = some (.bool false) := (blk_cell hvs.1 1).trans rfl; clear hvs; (try clear q0_ q1_ q2_ f0_ f1_ f2_); have q0_ : wf.cell? ⟨g6, 0, none⟩ = some (.int .i64 0) := (blk_cell BK.out 0).trans rfl; have q1_ : wf.cell? ⟨g6, 1, none⟩ = some (.int .i64 0) := (blk_cell BK.out 1).trans rfl; have q2_ : wf.cell? ⟨g6, 2, none⟩ = some (.slice none 0 0) := (blk_cell BK.out 2).trans rfl; have f0_ := blk_frozen BK.out 0; have f1_ := blk_frozen BK.out 1; have f2_ := blk_frozen BK.out 2))
                go_roundg (ks.length - (kk + 1))
                case measure => omega
                case rel => exact ⟨kk + 1, rl, mput mp (kn : Int) ri, D.put (.int .i64 (kn : Int)) (.lit (.int .i64 ri)), by omega, by omega, by go_num, ⟨ht⟩, HLR, HS, HO, ⟨HD.out.put _ _⟩, ⟨mvd_put HM.out HD.out HW0.out⟩, BK, HK, HB⟩
              | false =>
                simp only [if_true, Bool.false_eq_true, if_false] at hmA hmB
                subst hmA hmB hhn
                have ht := HMV.out
                rw [if_neg (by decide)] at ht
                go_wp2_with (first | ((with_reducible refine gate_dst (N := 12) rfl ?_); refine box_event ?hg (N := 12) ?hd (cs := #[.int .i64 0, .int .i64 0, .int .i64 0, .int .i64 0]) (t := 37) ?hr ?_; (case hd => rfl); (case hg => rfl); (case hr => first | (go_simp; done) | (go_simp; rfl)); intro g12 hg wa hbox hb; have HBr := Aside0.mk hb; have a0 := Aside0.mk hbox; have a1 := Aside0.mk (show wr.heap.size ≤ g12 by rw [hg]; exact Nat.le_refl _); clear hb hbox hg; (try clear u0_ u1_ u2_ u3_ v0_ v1_ v2_ v3_); have u0_ : wa.cell? ⟨g12, 0, none⟩ = some (.int .i64 0) := (blk_cell a0.out 0).trans rfl; have u1_ : wa.cell? ⟨g12, 1, none⟩ = some (.int .i64 0) := (blk_cell a0.out 1).trans rfl; have u2_ : wa.cell? ⟨g12, 2, none⟩ = some (.int .i64 0) := (blk_cell a0.out 2).trans rfl; have u3_ : wa.cell? ⟨g12, 3, none⟩ = some (.int .i64 0) := (blk_cell a0.out 3).trans rfl; have v0_ := blk_frozen a0.out 0; have v1_ := blk_frozen a0.out 1; have v2_ := blk_frozen a0.out 2; have v3_ := blk_frozen a0.out 3) | (go_at_call 22; (with_reducible refine (impl_namesOf.calls 1 x.f0 false false (!false) _ HNM.out).mono ?_); rintro e wb ⟨rfl, hb⟩; have n0_ := Aside0.mk (bB_ (blk_put (blk_put (blk_put (blk_put a0.out 0 (.int .i64 x.f0) rfl) 1 (.int .i64 x.f1) rfl) 2 (.int .i64 x.f2) rfl) 3 (.int .i64 x.f3) rfl) hb); have n1_ := Aside0.mk (lP_ (by repeat (first | (with_reducible first | exact HBr.out | refine lS1_ ?_ a1.out | refine lS1_ ?_ a2.out) | exact HBr.out)) hb); clear a0 HBr; have a0 := n0_; have HBr := n1_; clear n0_ n1_ hb; (try clear u0_ u1_ u2_ u3_ v0_ v1_ v2_ v3_); have u0_ : wb.cell? ⟨g12, 0, none⟩ = some (.int .i64 x.f0) := (blk_cell a0.out 0).trans rfl; have u1_ : wb.cell? ⟨g12, 1, none⟩ = some (.int .i64 x.f1) := (blk_cell a0.out 1).trans rfl; have u2_ : wb.cell? ⟨g12, 2, none⟩ = some (.int .i64 x.f2) := (blk_cell a0.out 2).trans rfl; have u3_ : wb.cell? ⟨g12, 3, none⟩ = some (.int .i64 x.f3) := (blk_cell a0.out 3).trans rfl; have v0_ := blk_frozen a0.out 0; have v1_ := blk_frozen a0.out 1; have v2_ := blk_frozen a0.out 2; have v3_ := blk_frozen a0.out 3) | ((with_reducible refine gate_dst (N := 13) rfl ?_); refine box_event ?hg (N := 13) ?hd (cs := #[.bool false, .bool false, .bool false]) (t := 47) ?hr ?_; (case hd => rfl); (case hg => rfl); (case hr => first | (go_simp; done) | (go_simp; rfl)); intro g13 hg wd hbox hb; have hne := (show g12 ≠ g13 by rw [hg]; exact Nat.ne_of_lt (blk_lt a0.out)); have hne2 := hne.symm; have a2 := Aside0.mk (show wr.heap.size ≤ g13 by rw [hg]; exact below_size HBr.out); have a3 := Aside0.mk hbox; have n0_ := Aside0.mk (bB_ a0.out hb); have n1_ := Aside0.mk (lP_ HBr.out hb); clear a0 HBr; have a0 := n0_; have HBr := n1_; clear n0_ n1_ hb hbox hg; (try clear u0_ u1_ u2_ u3_ v0_ v1_ v2_ v3_); have u0_ : wd.cell? ⟨g12, 0, none⟩ = some (.int .i64 x.f0) := (blk_cell a0.out 0).trans rfl; have u1_ : wd.cell? ⟨g12, 1, none⟩ = some (.int .i64 x.f1) := (blk_cell a0.out 1).trans rfl; have u2_ : wd.cell? ⟨g12, 2, none⟩ = some (.int .i64 x.f2) := (blk_cell a0.out 2).trans rfl; have u3_ : wd.cell? ⟨g12, 3, none⟩ = some (.int .i64 x.f3) := (blk_cell a0.out 3).trans rfl; have v0_ := blk_frozen a0.out 0; have v1_ := blk_frozen a0.out 1; have v2_ := blk_frozen a0.out 2; have v3_ := blk_frozen a0.out 3; (try clear y0_ y1_ y2_ z0_ z1_ z2_); have y0_ : wd.cell? ⟨g13, 0, none⟩ = some (.bool false) := (blk_cell a3.out 0).trans rfl; have y1_ : wd.cell? ⟨g13, 1, none⟩ = some (.bool false) := (blk_cell a3.out 1).trans rfl; have y2_ : wd.cell? ⟨g13, 2, none⟩ = some (.bool false) := (blk_cell a3.out 2).trans rfl; have z0_ := blk_frozen a3.out 0; have z1_ := blk_frozen a3.out 1; have z2_ := blk_frozen a3.out 2) | (go_at_call 24; (with_reducible refine (impl_sheet_put.callsE x.f0 x.f1 x.f2 x.f3 (ri, rl, false) (SE.start (stv_below HS.out (by repeat (first | (with_reducible first | exact HBr.out | refine lS1_ ?_ a1.out | refine lS1_ ?_ a2.out) | exact HBr.out))).choose_spec) HL.out HRR.out).mono ?_); rintro e we ⟨rfl, hs, hk⟩; (try dsimp only at hs); (try dsimp only); have n0_ := Aside0.mk (hs.1); have n1_ := Aside0.mk (own_map_keepT (own_map_below HO.out (by repeat (first | (with_reducible first | exact HBr.out | refine lS1_ ?_ a1.out | refine lS1_ ?_ a2.out) | exact HBr.out))) hk); have n2_ := Aside0.mk (R_keepT (Kd.R_below HK.out (by repeat (first | (with_reducible first | exact HBr.out | refine lS1_ ?_ a1.out | refine lS1_ ?_ a2.out) | exact HBr.out))) hk (by decide)); have n3_ := Aside0.mk (blk_keepT (bB_ BK.out (by repeat (first | (with_reducible first | exact HBr.out | refine lS1_ ?_ a1.out | refine lS1_ ?_ a2.out) | exact HBr.out))) hk (by decide) (by decide)); have n4_ := Aside0.mk ((lP_ HB.out (by repeat (first | (with_reducible first | exact HBr.out | refine lS1_ ?_ a1.out | refine lS1_ ?_ a2.out) | exact HBr.out))).trans (hs.2.2.mono NW.out)); clear HS HO HK BK HB; have HS := n0_; have HO := n1_; have HK := n2_; have BK := n3_; have HB := n4_; clear n0_ n1_ n2_ n3_ n4_ hs hk; (try clear q0_ q1_ q2_ f0_ f1_ f2_); have q0_ : we.cell? ⟨g6, 0, none⟩ = some (.int .i64 0) := (blk_cell BK.out 0).trans rfl; have q1_ : we.cell? ⟨g6, 1, none⟩ = some (.int .i64 0) := (blk_cell BK.out 1).trans rfl; have q2_ : we.cell? ⟨g6, 2, none⟩ = some (.slice none 0 0) := (blk_cell BK.out 2).trans rfl; have f0_ := blk_frozen BK.out 0; have f1_ := blk_frozen BK.out 1; have f2_ := blk_frozen BK.out 2) | (at_mapUpdate; refine wpList_mapUpdate_own (H := Unit) _ rfl (.tmp 72) (.tmp 73) (.tmp 76) 43 rfl 2 2 int_kd Try.underlying43 (plainElem Try.prog 2) B kk D rfl HO.out (by show kk < 9223372036854775807; have := HKL.out; omega) _ _ (.int .i64 (kn : Int)) rfl rfl (Go.Maps.keyOf_int_mk Try.underlying2 HW0.out) _ _ (plainElem_int Try.underlying2 HWR.out) ?_; intro wf ho hg; have n0_ := Aside0.mk (stv_grown_map HS.out hg (own_map_is HO.out)); have n1_ := Aside0.mk (R_grown_map HK.out hg (own_map_is HO.out)); have n2_ := Aside0.mk (blk_grown_map BK.out hg (own_map_is HO.out)); have n3_ := Aside0.mk (pw_below_grown HB.out (some B) (below_size HB.out) hg (fun k hk => by injection hk with hk; rw [← hk]; exact GB.out)); have n4_ := Aside0.mk (ho); clear HS HK BK HB HO; have HS := n0_; have HK := n1_; have BK := n2_; have HB := n3_; have HO := n4_; clear n0_ n1_ n2_ n3_ n4_ ho hg; obtain ⟨vs, hvs⟩ := HS.out; have hfull : wf.cell? ⟨S, 1, none⟩ = some (.bool false) := (blk_cell hvs.1 1).trans rfl; clear hvs; (try clear q0_ q1_ q2_ f0_ f1_ f2_); have q0_ : wf.cell? ⟨g6, 0, none⟩ = some (.int .i64 0) := (blk_cell BK.out 0).trans rfl; have q1_ : wf.cell? ⟨g6, 1, none⟩ = some (.int .i64 0) := (blk_cell BK.out 1).trans rfl; have q2_ : wf.cell? ⟨g6, 2, none⟩ = some (.slice none 0 0) := (blk_cell BK.out 2).trans rfl; have f0_ := blk_frozen BK.out 0; have f1_ := blk_frozen BK.out 1; have f2_ := blk_frozen BK.out 2))
                go_roundg (ks.length - (kk + 1))
                case measure => omega
                case rel => exact ⟨kk + 1, rl, mput mp (kn : Int) ri, D.put (.int .i64 (kn : Int)) (.lit (.int .i64 ri)), by omega, by omega, by go_num, ⟨ht⟩, HLR, HS, HO, ⟨HD.out.put _ _⟩, ⟨mvd_put HM.out HD.out HW0.out⟩, BK, HK, HB⟩
      · have hltd : decide ((kk : Int) < (ks.length : Int)) = false := decide_eq_false (by omega)
        obtain rfl : kk = ks.length := by omega
        have ht := HT.out
        rw [← HMV.out, List.drop_length] at ht
        simp only [MV, mvR, Prod.mk.injEq] at ht
        obtain ⟨rfl, rfl, rfl⟩ := ht
        have HWA := Aside0.mk (nat_wf (x := at_) HAT.out.1 (by have := HAT.out; have := HL0.out; omega))
        go_wp2_with (first | (at_lookup; refine wpList_lookup_own_int (H := Unit) _ rfl (.tmp 84) (.tmp 85) 43 rfl 2 2 .i64 int_kd Try.underlying43 Try.underlying2 (by kernel_rfl) B ks.length D rfl HO.out _ (.int .i64 at_) rfl (Go.Maps.keyOf_int_mk Try.underlying2 HWA.out) ?_; intro cc hat hcw; obtain rfl : cc = mp at_ := (by have := (HM.out _ HWA.out).symm.trans hat; injection this with this; injection this with _ this; exact this.symm); clear hat hcw) | (go_at_call 25; refine (told_ok S N0 l (mp at_) _ HS.out (HS.out.elim fun _ h => h.size)).mono ?_; rintro e wz ⟨v8, rfl, ho, hb⟩; have HOT := Aside0.mk ho; clear ho; obtain ⟨A8, c8, e8⟩ := Kd.R_slice HOT.out; subst e8; have n0_ := Aside0.mk (HB.out.trans (hb.mono NW.out)); have n1_ := Aside0.mk ((hb.block g6 NG.out).trans BK.out); clear HB BK; have HB := n0_; have BK := n1_; clear n0_ n1_ hb; (try clear q0_ q1_ q2_ f0_ f1_ f2_); have q0_ : wz.cell? ⟨g6, 0, none⟩ = some (.int .i64 0) := (blk_cell BK.out 0).trans rfl; have q1_ : wz.cell? ⟨g6, 1, none⟩ = some (.int .i64 0) := (blk_cell BK.out 1).trans rfl; have q2_ : wz.cell? ⟨g6, 2, none⟩ = some (.slice none 0 0) := (blk_cell BK.out 2).trans rfl; have f0_ := blk_frozen BK.out 0; have f1_ := blk_frozen BK.out 1; have f2_ := blk_frozen BK.out 2))
        have HOA := Aside0.mk (show ∀ k, (.slice A8 l.length c8 : Value).ownBlock = some k → k ≠ g6 from fun k hk => Nat.ne_of_gt (Nat.lt_of_lt_of_le NG.out (Kd.R_base HOT.out k hk)))
        refine bodyPost_ret (results_cell_row rfl _ _ g6 26 #[.int .i64 0, .int .i64 (mp at_), .slice A8 l.length c8] (0, 0) _ rfl (blk_put (blk_put (blk_put BK.out 0 _ rfl) 1 _ rfl) 2 _ rfl) Try.underlying26 rfl (by kernel_rfl)) rfl ?_
        refine ⟨_, rfl, ?_, lS1_ (lS1_ (lS1_ HB.out GE.out) GE.out) GE.out⟩
        exact Kd.R_mono (Kd.R_lower (Kd.R_far (Kd.R_far (Kd.R_far (R_not HOT.out HOA.out) (p := ⟨g6, 0, none⟩) (fun k hk => hk) _) (p := ⟨g6, 1, none⟩) (fun k hk => hk) _) (p := ⟨g6, 2, none⟩) (fun k hk => hk) _) NW.out) (fun _ _ => trivial)
def laws_eqTerm.f (a0_0 : Int) (a0_1 : Int) (a0_2 : Int) (a0_3 : Int) (a1_0 : Int) (a1_1 : Int) (a1_2 : Int) (a1_3 : Int) : Option (Bool) := if a0_0 = a1_0 then (if a0_1 = a1_1 then (if a0_2 = a1_2 then (if a0_3 = a1_3 then (some true) else (some false)) else (some false)) else (some false)) else (some false)
set_option maxHeartbeats 8000000 in
set_option maxRecDepth 100000 in
theorem laws_eqTerm.calls (a0_0 : Int) (a0_1 : Int) (a0_2 : Int) (a0_3 : Int) (a1_0 : Int) (a1_1 : Int) (a1_2 : Int) (a1_3 : Int) (r : Bool) (w : World) (h : laws_eqTerm.f a0_0 a0_1 a0_2 a0_3 a1_0 a1_1 a1_2 a1_3 = some r) :
  Calls Try.prog 26 #[.agg #[.int .i64 a0_0, .int .i64 a0_1, .int .i64 a0_2, .int .i64 a0_3], .agg #[.int .i64 a1_0, .int .i64 a1_1, .int .i64 a1_2, .int .i64 a1_3]] w fun e w' => e = .returned (.bool r) ∧ Below w.heap.size w w' := by
 have hu37 := Try.underlying37
 have HB := Aside0.mk (Below.refl w.heap.size w)
 have H : (if a0_0 = a1_0 then (if a0_1 = a1_1 then (if a0_2 = a1_2 then (if a0_3 = a1_3 then (some true) else (some false)) else (some false)) else (some false)) else (some false)) = some r := h
 clear h
 by_cases c3 : a0_0 = a1_0
 ·rw [if_pos c3] at H
  have c3b0 : (a0_0 == a1_0) = true := beq_iff_eq.mpr c3
  have c3b1 : (a0_0 != a1_0) = false := bne_eq_false_iff_eq.mpr c3
  clear c3
  by_cases c4 : a0_1 = a1_1
  ·rw [if_pos c4] at H
   have c4b0 : (a0_1 == a1_1) = true := beq_iff_eq.mpr c4
   have c4b1 : (a0_1 != a1_1) = false := bne_eq_false_iff_eq.mpr c4
   clear c4
   by_cases c5 : a0_2 = a1_2
   ·rw [if_pos c5] at H
    have c5b0 : (a0_2 == a1_2) = true := beq_iff_eq.mpr c5
    have c5b1 : (a0_2 != a1_2) = false := bne_eq_false_iff_eq.mpr c5
    clear c5
    by_cases c6 : a0_3 = a1_3
    ·rw [if_pos c6] at H
     have c6b0 : (a0_3 == a1_3) = true := beq_iff_eq.mpr c6
     have c6b1 : (a0_3 != a1_3) = false := bne_eq_false_iff_eq.mpr c6
     clear c6
     obtain rfl := Option.some.inj H
     go_enter Try.func26, Try.ntmps26
     go_wp2_with (first | ((with_reducible refine gate_dst (N := 2) rfl ?_); refine box_event ?hg (N := 2) ?hd (cs := #[.int .i64 a0_0, .int .i64 a0_1, .int .i64 a0_2, .int .i64 a0_3]) (t := 37) ?hr ?_; (case hd => rfl); (case hg => rfl); (case hr => first | (go_simp; done) | (go_simp; rfl)); intro a3 hg w7 hbox hb; have n0_ := Aside0.mk (lP_ HB.out hb); have n1_ := Aside0.mk (hbox); have n3_ := Aside0.mk ((by rw [hg]; exact (below_size HB.out) : w.heap.size ≤ a3)); clear HB; have HB := n0_; have a0 := n1_; have a5 := n3_; clear n0_ n1_ n3_ hb hbox hg) | ((with_reducible refine gate_dst (N := 3) rfl ?_); refine box_event ?hg (N := 3) ?hd (cs := #[.int .i64 a1_0, .int .i64 a1_1, .int .i64 a1_2, .int .i64 a1_3]) (t := 37) ?hr ?_; (case hd => rfl); (case hg => rfl); (case hr => first | (go_simp; done) | (go_simp; rfl)); intro a4 hg w8 hbox hb; have n0_ := Aside0.mk (bB_ a0.out hb); have n1_ := Aside0.mk (lP_ HB.out hb); have n2_ := Aside0.mk (hbox); have n4_ := Aside0.mk ((by rw [hg]; exact (below_size HB.out) : w.heap.size ≤ a4)); have n5_ := Aside0.mk ((by rw [hg]; exact Nat.ne_of_lt (blk_lt a0.out) : a3 ≠ a4)); have n6_ := Aside0.mk n5_.out.symm; clear a0 HB; have a0 := n0_; have HB := n1_; have a6 := n2_; have a7 := n4_; have a1 := n5_; have a2 := n6_; clear n0_ n1_ n2_ n4_ n5_ n6_ hb hbox hg; have ag := a1.out; have ah := a2.out; obtain ⟨_, _, _, _, _, _, _, _⟩ := bc4 a0.out; obtain ⟨_, _, _, _, _, _, _, _⟩ := bc4 a6.out))
     go_ret
     exact ⟨by first | rfl | (simp [errW_none, errW_some] <;> rfl) | (simp [*, errW_none, errW_some] <;> rfl), by repeat (first | (with_reducible first | exact HB.out | apply lA1_ | apply lN_ | apply lD_ | refine lS1_ ?_ a5.out | refine lS1_ ?_ a7.out) | exact HB.out)⟩
    ·rw [if_neg c6] at H
     have c6b0 : (a0_3 == a1_3) = false := beq_eq_false_iff_ne.mpr c6
     have c6b1 : (a0_3 != a1_3) = true := bne_iff_ne.mpr c6
     obtain rfl := Option.some.inj H
     go_enter Try.func26, Try.ntmps26
     go_wp2_with (first | ((with_reducible refine gate_dst (N := 2) rfl ?_); refine box_event ?hg (N := 2) ?hd (cs := #[.int .i64 a0_0, .int .i64 a0_1, .int .i64 a0_2, .int .i64 a0_3]) (t := 37) ?hr ?_; (case hd => rfl); (case hg => rfl); (case hr => first | (go_simp; done) | (go_simp; rfl)); intro a3 hg w12 hbox hb; have n0_ := Aside0.mk (lP_ (by repeat (first | (with_reducible first | exact HB.out | apply lA1_ | apply lN_ | apply lD_) | exact HB.out)) hb); have n1_ := Aside0.mk (hbox); have n3_ := Aside0.mk ((by rw [hg]; exact (below_size (by repeat (first | (with_reducible first | exact HB.out | apply lA1_ | apply lN_ | apply lD_) | exact HB.out))) : w.heap.size ≤ a3)); clear HB; have HB := n0_; have a0 := n1_; have a5 := n3_; clear n0_ n1_ n3_ hb hbox hg) | ((with_reducible refine gate_dst (N := 3) rfl ?_); refine box_event ?hg (N := 3) ?hd (cs := #[.int .i64 a1_0, .int .i64 a1_1, .int .i64 a1_2, .int .i64 a1_3]) (t := 37) ?hr ?_; (case hd => rfl); (case hg => rfl); (case hr => first | (go_simp; done) | (go_simp; rfl)); intro a4 hg w13 hbox hb; have n0_ := Aside0.mk (bB_ a0.out hb); have n1_ := Aside0.mk (lP_ HB.out hb); have n2_ := Aside0.mk (hbox); have n4_ := Aside0.mk ((by rw [hg]; exact (below_size HB.out) : w.heap.size ≤ a4)); have n5_ := Aside0.mk ((by rw [hg]; exact Nat.ne_of_lt (blk_lt a0.out) : a3 ≠ a4)); have n6_ := Aside0.mk n5_.out.symm; clear a0 HB; have a0 := n0_; have HB := n1_; have a6 := n2_; have a7 := n4_; have a1 := n5_; have a2 := n6_; clear n0_ n1_ n2_ n4_ n5_ n6_ hb hbox hg; have a8 := a1.out; have a9 := a2.out; obtain ⟨_, _, _, _, _, _, _, _⟩ := bc4 a0.out; obtain ⟨_, _, _, _, _, _, _, _⟩ := bc4 a6.out))
     go_ret
     exact ⟨by first | rfl | (simp [errW_none, errW_some] <;> rfl) | (simp [*, errW_none, errW_some] <;> rfl), by repeat (first | (with_reducible first | exact HB.out | apply lA1_ | apply lN_ | apply lD_ | refine lS1_ ?_ a5.out | refine lS1_ ?_ a7.out) | exact HB.out)⟩
   ·rw [if_neg c5] at H
    have c5b0 : (a0_2 == a1_2) = false := beq_eq_false_iff_ne.mpr c5
    have c5b1 : (a0_2 != a1_2) = true := bne_iff_ne.mpr c5
    obtain rfl := Option.some.inj H
    go_enter Try.func26, Try.ntmps26
    go_wp2_with (first | ((with_reducible refine gate_dst (N := 2) rfl ?_); refine box_event ?hg (N := 2) ?hd (cs := #[.int .i64 a0_0, .int .i64 a0_1, .int .i64 a0_2, .int .i64 a0_3]) (t := 37) ?hr ?_; (case hd => rfl); (case hg => rfl); (case hr => first | (go_simp; done) | (go_simp; rfl)); intro a3 hg w17 hbox hb; have n0_ := Aside0.mk (lP_ (by repeat (first | (with_reducible first | exact HB.out | apply lA1_ | apply lN_ | apply lD_) | exact HB.out)) hb); have n1_ := Aside0.mk (hbox); have n3_ := Aside0.mk ((by rw [hg]; exact (below_size (by repeat (first | (with_reducible first | exact HB.out | apply lA1_ | apply lN_ | apply lD_) | exact HB.out))) : w.heap.size ≤ a3)); clear HB; have HB := n0_; have a0 := n1_; have a5 := n3_; clear n0_ n1_ n3_ hb hbox hg) | ((with_reducible refine gate_dst (N := 3) rfl ?_); refine box_event ?hg (N := 3) ?hd (cs := #[.int .i64 a1_0, .int .i64 a1_1, .int .i64 a1_2, .int .i64 a1_3]) (t := 37) ?hr ?_; (case hd => rfl); (case hg => rfl); (case hr => first | (go_simp; done) | (go_simp; rfl)); intro a4 hg w18 hbox hb; have n0_ := Aside0.mk (bB_ a0.out hb); have n1_ := Aside0.mk (lP_ HB.out hb); have n2_ := Aside0.mk (hbox); have n4_ := Aside0.mk ((by rw [hg]; exact (below_size HB.out) : w.heap.size ≤ a4)); have n5_ := Aside0.mk ((by rw [hg]; exact Nat.ne_of_lt (blk_lt a0.out) : a3 ≠ a4)); have n6_ := Aside0.mk n5_.out.symm; clear a0 HB; have a0 := n0_; have HB := n1_; have a6 := n2_; have a7 := n4_; have a1 := n5_; have a2 := n6_; clear n0_ n1_ n2_ n4_ n5_ n6_ hb hbox hg; have aa := a1.out; have ab := a2.out; obtain ⟨_, _, _, _, _, _, _, _⟩ := bc4 a0.out; obtain ⟨_, _, _, _, _, _, _, _⟩ := bc4 a6.out))
    go_ret
    exact ⟨by first | rfl | (simp [errW_none, errW_some] <;> rfl) | (simp [*, errW_none, errW_some] <;> rfl), by repeat (first | (with_reducible first | exact HB.out | apply lA1_ | apply lN_ | apply lD_ | refine lS1_ ?_ a5.out | refine lS1_ ?_ a7.out) | exact HB.out)⟩
  ·rw [if_neg c4] at H
   have c4b0 : (a0_1 == a1_1) = false := beq_eq_false_iff_ne.mpr c4
   have c4b1 : (a0_1 != a1_1) = true := bne_iff_ne.mpr c4
   obtain rfl := Option.some.inj H
   go_enter Try.func26, Try.ntmps26
   go_wp2_with (first | ((with_reducible refine gate_dst (N := 2) rfl ?_); refine box_event ?hg (N := 2) ?hd (cs := #[.int .i64 a0_0, .int .i64 a0_1, .int .i64 a0_2, .int .i64 a0_3]) (t := 37) ?hr ?_; (case hd => rfl); (case hg => rfl); (case hr => first | (go_simp; done) | (go_simp; rfl)); intro a3 hg w22 hbox hb; have n0_ := Aside0.mk (lP_ (by repeat (first | (with_reducible first | exact HB.out | apply lA1_ | apply lN_ | apply lD_) | exact HB.out)) hb); have n1_ := Aside0.mk (hbox); have n3_ := Aside0.mk ((by rw [hg]; exact (below_size (by repeat (first | (with_reducible first | exact HB.out | apply lA1_ | apply lN_ | apply lD_) | exact HB.out))) : w.heap.size ≤ a3)); clear HB; have HB := n0_; have a0 := n1_; have a5 := n3_; clear n0_ n1_ n3_ hb hbox hg) | ((with_reducible refine gate_dst (N := 3) rfl ?_); refine box_event ?hg (N := 3) ?hd (cs := #[.int .i64 a1_0, .int .i64 a1_1, .int .i64 a1_2, .int .i64 a1_3]) (t := 37) ?hr ?_; (case hd => rfl); (case hg => rfl); (case hr => first | (go_simp; done) | (go_simp; rfl)); intro a4 hg w23 hbox hb; have n0_ := Aside0.mk (bB_ a0.out hb); have n1_ := Aside0.mk (lP_ HB.out hb); have n2_ := Aside0.mk (hbox); have n4_ := Aside0.mk ((by rw [hg]; exact (below_size HB.out) : w.heap.size ≤ a4)); have n5_ := Aside0.mk ((by rw [hg]; exact Nat.ne_of_lt (blk_lt a0.out) : a3 ≠ a4)); have n6_ := Aside0.mk n5_.out.symm; clear a0 HB; have a0 := n0_; have HB := n1_; have a6 := n2_; have a7 := n4_; have a1 := n5_; have a2 := n6_; clear n0_ n1_ n2_ n4_ n5_ n6_ hb hbox hg; have ac := a1.out; have ad := a2.out; obtain ⟨_, _, _, _, _, _, _, _⟩ := bc4 a0.out; obtain ⟨_, _, _, _, _, _, _, _⟩ := bc4 a6.out))
   go_ret
   exact ⟨by first | rfl | (simp [errW_none, errW_some] <;> rfl) | (simp [*, errW_none, errW_some] <;> rfl), by repeat (first | (with_reducible first | exact HB.out | apply lA1_ | apply lN_ | apply lD_ | refine lS1_ ?_ a5.out | refine lS1_ ?_ a7.out) | exact HB.out)⟩
 ·rw [if_neg c3] at H
  have c3b0 : (a0_0 == a1_0) = false := beq_eq_false_iff_ne.mpr c3
  have c3b1 : (a0_0 != a1_0) = true := bne_iff_ne.mpr c3
  obtain rfl := Option.some.inj H
  go_enter Try.func26, Try.ntmps26
  go_wp2_with (first | ((with_reducible refine gate_dst (N := 2) rfl ?_); refine box_event ?hg (N := 2) ?hd (cs := #[.int .i64 a0_0, .int .i64 a0_1, .int .i64 a0_2, .int .i64 a0_3]) (t := 37) ?hr ?_; (case hd => rfl); (case hg => rfl); (case hr => first | (go_simp; done) | (go_simp; rfl)); intro a3 hg w27 hbox hb; have n0_ := Aside0.mk (lP_ (by repeat (first | (with_reducible first | exact HB.out | apply lA1_ | apply lN_ | apply lD_) | exact HB.out)) hb); have n1_ := Aside0.mk (hbox); have n3_ := Aside0.mk ((by rw [hg]; exact (below_size (by repeat (first | (with_reducible first | exact HB.out | apply lA1_ | apply lN_ | apply lD_) | exact HB.out))) : w.heap.size ≤ a3)); clear HB; have HB := n0_; have a0 := n1_; have a5 := n3_; clear n0_ n1_ n3_ hb hbox hg) | ((with_reducible refine gate_dst (N := 3) rfl ?_); refine box_event ?hg (N := 3) ?hd (cs := #[.int .i64 a1_0, .int .i64 a1_1, .int .i64 a1_2, .int .i64 a1_3]) (t := 37) ?hr ?_; (case hd => rfl); (case hg => rfl); (case hr => first | (go_simp; done) | (go_simp; rfl)); intro a4 hg w28 hbox hb; have n0_ := Aside0.mk (bB_ a0.out hb); have n1_ := Aside0.mk (lP_ HB.out hb); have n2_ := Aside0.mk (hbox); have n4_ := Aside0.mk ((by rw [hg]; exact (below_size HB.out) : w.heap.size ≤ a4)); have n5_ := Aside0.mk ((by rw [hg]; exact Nat.ne_of_lt (blk_lt a0.out) : a3 ≠ a4)); have n6_ := Aside0.mk n5_.out.symm; clear a0 HB; have a0 := n0_; have HB := n1_; have a6 := n2_; have a7 := n4_; have a1 := n5_; have a2 := n6_; clear n0_ n1_ n2_ n4_ n5_ n6_ hb hbox hg; have ae := a1.out; have af := a2.out; obtain ⟨_, _, _, _, _, _, _, _⟩ := bc4 a0.out; obtain ⟨_, _, _, _, _, _, _, _⟩ := bc4 a6.out))
  go_ret
  exact ⟨by first | rfl | (simp [errW_none, errW_some] <;> rfl) | (simp [*, errW_none, errW_some] <;> rfl), by repeat (first | (with_reducible first | exact HB.out | apply lA1_ | apply lN_ | apply lD_ | refine lS1_ ?_ a5.out | refine lS1_ ?_ a7.out) | exact HB.out)⟩
def laws_eqTermS.l0 : Nat → List (S37) → List (S37) → Int → Option (Bool)
 | 0, _, _, _ => none
 | k + 1, x0, x1, x5 => if x5 < (x0.length : Int) then (if 0 ≤ x5 then (if x5 < (x1.length : Int) then ((laws_eqTerm.f ((rd_T37 x0 x5).f0) ((rd_T37 x0 x5).f1) ((rd_T37 x0 x5).f2) ((rd_T37 x0 x5).f3) ((rd_T37 x1 x5).f0) ((rd_T37 x1 x5).f1) ((rd_T37 x1 x5).f2) ((rd_T37 x1 x5).f3)).bind fun t272 => (if t272 = true then (laws_eqTermS.l0 k x0 x1 (wrap64 (x5 + 1))) else (some false))) else (none)) else (none)) else (some true)
def laws_eqTermS.f (k : Nat) (l0 : List (S37)) (l1 : List (S37)) : Option (Bool) := if (l0.length : Int) = (l1.length : Int) then (laws_eqTermS.l0 k l0 l1 0) else (some false)
def laws_eqTermS.T6 : Bool × List (List Nat × List Nat) := (true, [([], []), ([], []), ([0, 1], [0, 1]), ([2], [2]), ([], []), ([], []), ([4, 5], [4, 5]), ([6], [6]), ([3, 7], [3, 7]), ([8], [8])])
def laws_eqTermS.B6 : List Nat := [0, 0, 3, 7, 0, 0, 48, 112, 255, 511]
theorem laws_eqTermS.tab6 : rtab .any (opsOf Try.f9 6) = laws_eqTermS.T6 := by kernel_rfl
theorem laws_eqTermS.bits6 : waitsOk laws_eqTermS.T6.2 laws_eqTermS.B6 = true := by kernel_rfl
set_option maxHeartbeats 8000000 in
set_option maxRecDepth 100000 in
theorem laws_eqTermS.calls (k : Nat) (A0 : Option Addr) (c0 : Nat) (l0 : List (S37)) (A1 : Option Addr) (c1 : Nat) (l1 : List (S37)) (r : Bool) (w : World) (hr0 : Kd.C k37 w A0 l0.length l0) (hc0 : l0.length ≤ c0) (hr1 : Kd.C k37 w A1 l1.length l1) (hc1 : l1.length ≤ c1) (h : laws_eqTermS.f k l0 l1 = some r) :
  Calls Try.prog 9 #[.slice A0 l0.length c0, .slice A1 l1.length c1] w fun e w' => e = .returned (.bool r) ∧ Below w.heap.size w w' := by
 have hu37 := Try.underlying37
 have a0 := Aside0.mk hr0
 have a3 := Aside0.mk hc0
 clear hr0 hc0
 have a1 := Aside0.mk hr1
 have a4 := Aside0.mk hc1
 clear hr1 hc1
 have HB := Aside0.mk (Below.refl w.heap.size w)
 have H : (if (l0.length : Int) = (l1.length : Int) then (laws_eqTermS.l0 k l0 l1 0) else (some false)) = some r := h
 clear h
 by_cases c3 : (l0.length : Int) = (l1.length : Int)
 ·rw [if_pos c3] at H
  have c3b0 : ((l0.length : Int) == (l1.length : Int)) = true := beq_iff_eq.mpr c3
  have c3b1 : ((l0.length : Int) != (l1.length : Int)) = false := bne_eq_false_iff_eq.mpr c3
  have c3b2 : (l0.length == l1.length) = true := by first | simpa using c3 | (simp at c3 ⊢; omega)
  clear c3
  have H' := Aside0.mk H
  clear H
  go_enter Try.func9, Try.ntmps9
  go_wp2
  go_loopg [5] k (fun kq v5 w' => ∃ (x5_1 : Int), v5 = .int .i64 x5_1 ∧ Aside0 (laws_eqTermS.l0 kq l0 l1 x5_1 = some r) ∧ Aside0 (kq ≤ k) ∧ Aside0 (Below w.heap.size w w'))
  case atStart => exact ⟨(0), (by first | rfl | (simp; done) | (simp [*]; done)), H', ⟨Nat.le_refl _⟩, ⟨by repeat (first | (with_reducible first | exact HB.out | apply lA1_ | apply lN_ | apply lD_) | exact HB.out)⟩⟩
  case round =>
   clear H'
   try clear c1
   try clear p2
   try clear c3
   try clear c3b0
   try clear c3b1
   try clear c3b2
   obtain ⟨x5_1, rfl, HA, HK1, HB⟩ := hrel
   cases gk with
   | zero => exact absurd HA.out (by simp [laws_eqTermS.l0])
   | succ k1 =>
    have H := HA.out
    clear HA
    simp only [laws_eqTermS.l0] at H
    by_cases c4 : x5_1 < (l0.length : Int)
    ·rw [if_pos c4] at H
     have c4b0 : decide (x5_1 < (l0.length : Int)) = true := decide_eq_true c4
     clear c4
     by_cases c5 : 0 ≤ x5_1
     ·rw [if_pos c5] at H
      have c5b0 : decide (0 ≤ x5_1) = true := decide_eq_true c5
      clear c5
      by_cases c6 : x5_1 < (l1.length : Int)
      ·rw [if_pos c6] at H
       have c6b0 : decide (x5_1 < (l1.length : Int)) = true := decide_eq_true c6
       clear c6
       replace H := Option.bind_eq_some_iff.mp H
       obtain ⟨t272, a2, H⟩ := H
       try dsimp only at H
       have A7 := Aside0.mk a2
       clear a2
       by_cases c8 : t272 = true
       ·subst c8
        rw [if_pos rfl] at H
        have H' := Aside0.mk H
        clear H
        try go_wp2
        have n0_ := Aside0.mk (lD_ HB.out)
        clear HB
        have HB := n0_
        clear n0_
        have p270 : 0 ≤ (x5_1 : Int) := of_decide_eq_true (by first | (with_reducible assumption) | assumption)
        have q270 : x5_1 < (l0.length : Int) := of_decide_eq_true (by first | (with_reducible assumption) | assumption)
        obtain ⟨ad270, e270, hx270_0, hx270_1, hx270_2, hx270_3⟩ := at_T37 a0.out x5_1 p270 q270
        have hw270_3 := hx270_3
        have hw270_2 := hx270_2
        have hw270_1 := hx270_1
        have hw270_0 := hx270_0
        cases e270
        replace hx270_0 := (HB.out.cell (World.block_lt_of_cell? w _ hx270_0)).trans hx270_0
        replace hx270_1 := (HB.out.cell (World.block_lt_of_cell? w _ hx270_1)).trans hx270_1
        replace hx270_2 := (HB.out.cell (World.block_lt_of_cell? w _ hx270_2)).trans hx270_2
        replace hx270_3 := (HB.out.cell (World.block_lt_of_cell? w _ hx270_3)).trans hx270_3
        replace p270 := eq_true p270
        replace q270 := eq_true q270
        have p271 : 0 ≤ (x5_1 : Int) := of_decide_eq_true (by first | (with_reducible assumption) | assumption)
        have q271 : x5_1 < (l1.length : Int) := of_decide_eq_true (by first | (with_reducible assumption) | assumption)
        obtain ⟨ad271, e271, hx271_0, hx271_1, hx271_2, hx271_3⟩ := at_T37 a1.out x5_1 p271 q271
        have hw271_3 := hx271_3
        have hw271_2 := hx271_2
        have hw271_1 := hx271_1
        have hw271_0 := hx271_0
        cases e271
        replace hx271_0 := (HB.out.cell (World.block_lt_of_cell? w _ hx271_0)).trans hx271_0
        replace hx271_1 := (HB.out.cell (World.block_lt_of_cell? w _ hx271_1)).trans hx271_1
        replace hx271_2 := (HB.out.cell (World.block_lt_of_cell? w _ hx271_2)).trans hx271_2
        replace hx271_3 := (HB.out.cell (World.block_lt_of_cell? w _ hx271_3)).trans hx271_3
        replace p271 := eq_true p271
        replace q271 := eq_true q271
        refine start_ (n := 10) (S := fun w' => w'.cell? (ad270.add ((x5_1).toNat * 4)) = some (.int .i64 ((rd_T37 l0 x5_1).f0)) ∧ w'.cell? ⟨(ad270.add ((x5_1).toNat * 4)).block, (ad270.add ((x5_1).toNat * 4)).off + 1, none⟩ = some (.int .i64 ((rd_T37 l0 x5_1).f1)) ∧ w'.cell? ⟨(ad270.add ((x5_1).toNat * 4)).block, (ad270.add ((x5_1).toNat * 4)).off + 2, none⟩ = some (.int .i64 ((rd_T37 l0 x5_1).f2)) ∧ w'.cell? ⟨(ad270.add ((x5_1).toNat * 4)).block, (ad270.add ((x5_1).toNat * 4)).off + 3, none⟩ = some (.int .i64 ((rd_T37 l0 x5_1).f3)) ∧ w'.cell? (ad271.add ((x5_1).toNat * 4)) = some (.int .i64 ((rd_T37 l1 x5_1).f0)) ∧ w'.cell? ⟨(ad271.add ((x5_1).toNat * 4)).block, (ad271.add ((x5_1).toNat * 4)).off + 1, none⟩ = some (.int .i64 ((rd_T37 l1 x5_1).f1)) ∧ w'.cell? ⟨(ad271.add ((x5_1).toNat * 4)).block, (ad271.add ((x5_1).toNat * 4)).off + 2, none⟩ = some (.int .i64 ((rd_T37 l1 x5_1).f2)) ∧ w'.cell? ⟨(ad271.add ((x5_1).toNat * 4)).block, (ad271.add ((x5_1).toNat * 4)).off + 3, none⟩ = some (.int .i64 ((rd_T37 l1 x5_1).f3))) (ds := []) #[false, false, false, false, false, false, false, false, false, false] (by kernel_rfl) rfl rfl ⟨((HB.out.cell (World.block_lt_of_cell? w _ hw270_0)).trans hw270_0), ((HB.out.cell (World.block_lt_of_cell? w _ hw270_1)).trans hw270_1), ((HB.out.cell (World.block_lt_of_cell? w _ hw270_2)).trans hw270_2), ((HB.out.cell (World.block_lt_of_cell? w _ hw270_3)).trans hw270_3), ((HB.out.cell (World.block_lt_of_cell? w _ hw271_0)).trans hw271_0), ((HB.out.cell (World.block_lt_of_cell? w _ hw271_1)).trans hw271_1), ((HB.out.cell (World.block_lt_of_cell? w _ hw271_2)).trans hw271_2), ((HB.out.cell (World.block_lt_of_cell? w _ hw271_3)).trans hw271_3)⟩ (fun hHeld => ?_); refine with_tabW laws_eqTermS.tab6 laws_eqTermS.bits6 (fun HT_ HW_ => ?_)
        generalize wr.drew = w9 at HB hx270_0 hx270_1 hx270_2 hx270_3 hx271_0 hx271_1 hx271_2 hx271_3 hHeld ⊢
        refine pure_ (i := 0) (N := some 17) (v := ?_) (a' := ?_) #[true, false, false, false, false, false, false, false, false, false] rfl rfl (any_of HT_.out (by kernel_rfl)) (fun _ _ _ h => h) (Or.inl ⟨by rfl, ?_⟩) ?_ ?_
        rotate_left
        ·intro w'
         go_simp
         with_reducible rfl
        rotate_left
        ·simp only [Act.put, lA_, lZ_, lS_, i64_w, i32_w]
         rfl
        refine pure_ (i := 1) (N := some 18) (v := ?_) (a' := ?_) #[true, true, false, false, false, false, false, false, false, false] rfl rfl (any_of HT_.out (by kernel_rfl)) (fun _ _ _ h => h) (Or.inl ⟨by rfl, ?_⟩) ?_ ?_
        rotate_left
        ·intro w'
         go_simp
         with_reducible rfl
        rotate_left
        ·simp only [Act.put, lA_, lZ_, lS_, i64_w, i32_w]
         rfl
        refine pure_ (i := 2) (N := some 19) (v := ?_) (a' := ?_) #[true, true, true, false, false, false, false, false, false, false] rfl rfl (any_of HT_.out (by kernel_rfl)) (fun _ _ _ h => h) (Or.inl ⟨by rfl, ?_⟩) ?_ ?_
        rotate_left
        ·intro w'
         go_simp
         with_reducible rfl
        rotate_left
        ·simp only [Act.put, lA_, lZ_, lS_, i64_w, i32_w]
         rfl
        refine pure_ (i := 4) (N := some 21) (v := ?_) (a' := ?_) #[true, true, true, false, true, false, false, false, false, false] rfl rfl (any_of HT_.out (by kernel_rfl)) (fun _ _ _ h => h) (Or.inl ⟨by rfl, ?_⟩) ?_ ?_
        rotate_left
        ·intro w'
         go_simp
         with_reducible rfl
        rotate_left
        ·simp only [Act.put, lA_, lZ_, lS_, i64_w, i32_w]
         rfl
        refine pure_ (i := 5) (N := some 22) (v := ?_) (a' := ?_) #[true, true, true, false, true, true, false, false, false, false] rfl rfl (any_of HT_.out (by kernel_rfl)) (fun _ _ _ h => h) (Or.inl ⟨by rfl, ?_⟩) ?_ ?_
        rotate_left
        ·intro w'
         go_simp
         with_reducible rfl
        rotate_left
        ·simp only [Act.put, lA_, lZ_, lS_, i64_w, i32_w]
         rfl
        refine pure_ (i := 6) (N := some 23) (v := ?_) (a' := ?_) #[true, true, true, false, true, true, true, false, false, false] rfl rfl (any_of HT_.out (by kernel_rfl)) (fun _ _ _ h => h) (Or.inl ⟨by rfl, ?_⟩) ?_ ?_
        rotate_left
        ·intro w'
         go_simp
         with_reducible rfl
        rotate_left
        ·simp only [Act.put, lA_, lZ_, lS_, i64_w, i32_w]
         rfl
        refine take_ (i := 3) (N := some 20) (v := ?_) (a' := ?_) #[true, true, true, true, true, true, true, false, false, false] rfl rfl (take_ofW HT_.out HW_.out (by kernel_rfl)) (fun _ _ _ h => h) (Or.inl ⟨by rfl, ?_⟩) hHeld ?_ ?_
        rotate_left
        ·rintro w' ⟨s0, s1, s2, s3, s4, s5, s6, s7⟩
         go_simp
         with_reducible rfl
        rotate_left
        ·simp only [Act.put, lA_, lZ_, lS_, i64_w, i32_w]
         rfl
        refine take_ (i := 7) (N := some 24) (v := ?_) (a' := ?_) #[true, true, true, true, true, true, true, true, false, false] rfl rfl (take_ofW HT_.out HW_.out (by kernel_rfl)) (fun _ _ _ h => h) (Or.inl ⟨by rfl, ?_⟩) hHeld ?_ ?_
        rotate_left
        ·rintro w' ⟨s0, s1, s2, s3, s4, s5, s6, s7⟩
         go_simp
         with_reducible rfl
        rotate_left
        ·simp only [Act.put, lA_, lZ_, lS_, i64_w, i32_w]
         rfl
        refine one_ (i := 8) (N := some 25) #[true, true, true, true, true, true, true, true, true, false] rfl rfl (one_of HT_.out (by kernel_rfl)) (by decide) (fun K hK => ?_)
        refine goes_ Try.func26 (by kernel_rfl) rfl #[.agg #[.int .i64 ((rd_T37 l0 x5_1).f0), .int .i64 ((rd_T37 l0 x5_1).f1), .int .i64 ((rd_T37 l0 x5_1).f2), .int .i64 ((rd_T37 l0 x5_1).f3)], .agg #[.int .i64 ((rd_T37 l1 x5_1).f0), .int .i64 ((rd_T37 l1 x5_1).f1), .int .i64 ((rd_T37 l1 x5_1).f2), .int .i64 ((rd_T37 l1 x5_1).f3)]] (by rfl) rfl rfl (by (try simp only [List.map_toArray, List.map_cons, List.map_nil]); first | done | rfl | (simp only [List.length_drop, List.length_take]; rfl)) ?_
        with_reducible refine (laws_eqTerm.calls ((rd_T37 l0 x5_1).f0) ((rd_T37 l0 x5_1).f1) ((rd_T37 l0 x5_1).f2) ((rd_T37 l0 x5_1).f3) ((rd_T37 l1 x5_1).f0) ((rd_T37 l1 x5_1).f1) ((rd_T37 l1 x5_1).f2) ((rd_T37 l1 x5_1).f3) true _ A7.out).mono ?_
        rintro e w10 ⟨rfl, hb⟩
        refine ⟨_, rfl, ?_⟩
        have n0_ := Aside0.mk (lP_ (by repeat (first | (with_reducible first | exact HB.out | apply lA1_ | apply lN_ | apply lD_) | exact HB.out)) hb)
        clear HB
        have HB := n0_
        clear n0_
        (try clear hb)
        (try clear hb2)
        (try clear hk)
        (try clear hi)
        refine hK.out _ _ ⟨((HB.out.cell (World.block_lt_of_cell? w _ hw270_0)).trans hw270_0), ((HB.out.cell (World.block_lt_of_cell? w _ hw270_1)).trans hw270_1), ((HB.out.cell (World.block_lt_of_cell? w _ hw270_2)).trans hw270_2), ((HB.out.cell (World.block_lt_of_cell? w _ hw270_3)).trans hw270_3), ((HB.out.cell (World.block_lt_of_cell? w _ hw271_0)).trans hw271_0), ((HB.out.cell (World.block_lt_of_cell? w _ hw271_1)).trans hw271_1), ((HB.out.cell (World.block_lt_of_cell? w _ hw271_2)).trans hw271_2), ((HB.out.cell (World.block_lt_of_cell? w _ hw271_3)).trans hw271_3)⟩ (fun hHeld => ?_)
        clear hK K
        refine norm_ (a' := ?_) ?_ ?_
        rotate_left
        ·show Act.put _ (some 25) _ = _
         simp only [Act.put, lA_, lZ_, lS_, i64_w, i32_w]
         rfl
        refine pure_ (i := 9) (N := some 26) (v := ?_) (a' := ?_) #[true, true, true, true, true, true, true, true, true, true] rfl rfl (any_of HT_.out (by kernel_rfl)) (fun _ _ _ h => h) (Or.inl ⟨by rfl, ?_⟩) ?_ ?_
        rotate_left
        ·intro w'
         go_simp
         with_reducible rfl
        rotate_left
        ·simp only [Act.put, lA_, lZ_, lS_, i64_w, i32_w]
         rfl
        refine done_ (done_of HT_.out (by kernel_rfl)) ?_
        try go_wp2
        go_roundg k1
        case measure => have := HK1.out; omega
        case rel => exact ⟨(wrap64 (x5_1 + 1)), (by first | rfl | (simp; done) | (simp [*]; done)), H', ⟨by have := HK1.out; omega⟩, ⟨by repeat (first | (with_reducible first | exact HB.out | apply lA1_ | apply lN_ | apply lD_) | exact HB.out)⟩⟩
       ·replace c8 := Bool.eq_false_iff.mpr c8
        subst c8
        rw [if_neg (show ¬ (false = true) by decide)] at H
        obtain rfl := Option.some.inj H
        try go_wp2
        have n0_ := Aside0.mk (lD_ HB.out)
        clear HB
        have HB := n0_
        clear n0_
        have p270 : 0 ≤ (x5_1 : Int) := of_decide_eq_true (by first | (with_reducible assumption) | assumption)
        have q270 : x5_1 < (l0.length : Int) := of_decide_eq_true (by first | (with_reducible assumption) | assumption)
        obtain ⟨ad270, e270, hx270_0, hx270_1, hx270_2, hx270_3⟩ := at_T37 a0.out x5_1 p270 q270
        have hw270_3 := hx270_3
        have hw270_2 := hx270_2
        have hw270_1 := hx270_1
        have hw270_0 := hx270_0
        cases e270
        replace hx270_0 := (HB.out.cell (World.block_lt_of_cell? w _ hx270_0)).trans hx270_0
        replace hx270_1 := (HB.out.cell (World.block_lt_of_cell? w _ hx270_1)).trans hx270_1
        replace hx270_2 := (HB.out.cell (World.block_lt_of_cell? w _ hx270_2)).trans hx270_2
        replace hx270_3 := (HB.out.cell (World.block_lt_of_cell? w _ hx270_3)).trans hx270_3
        replace p270 := eq_true p270
        replace q270 := eq_true q270
        have p271 : 0 ≤ (x5_1 : Int) := of_decide_eq_true (by first | (with_reducible assumption) | assumption)
        have q271 : x5_1 < (l1.length : Int) := of_decide_eq_true (by first | (with_reducible assumption) | assumption)
        obtain ⟨ad271, e271, hx271_0, hx271_1, hx271_2, hx271_3⟩ := at_T37 a1.out x5_1 p271 q271
        have hw271_3 := hx271_3
        have hw271_2 := hx271_2
        have hw271_1 := hx271_1
        have hw271_0 := hx271_0
        cases e271
        replace hx271_0 := (HB.out.cell (World.block_lt_of_cell? w _ hx271_0)).trans hx271_0
        replace hx271_1 := (HB.out.cell (World.block_lt_of_cell? w _ hx271_1)).trans hx271_1
        replace hx271_2 := (HB.out.cell (World.block_lt_of_cell? w _ hx271_2)).trans hx271_2
        replace hx271_3 := (HB.out.cell (World.block_lt_of_cell? w _ hx271_3)).trans hx271_3
        replace p271 := eq_true p271
        replace q271 := eq_true q271
        refine start_ (n := 10) (S := fun w' => w'.cell? (ad270.add ((x5_1).toNat * 4)) = some (.int .i64 ((rd_T37 l0 x5_1).f0)) ∧ w'.cell? ⟨(ad270.add ((x5_1).toNat * 4)).block, (ad270.add ((x5_1).toNat * 4)).off + 1, none⟩ = some (.int .i64 ((rd_T37 l0 x5_1).f1)) ∧ w'.cell? ⟨(ad270.add ((x5_1).toNat * 4)).block, (ad270.add ((x5_1).toNat * 4)).off + 2, none⟩ = some (.int .i64 ((rd_T37 l0 x5_1).f2)) ∧ w'.cell? ⟨(ad270.add ((x5_1).toNat * 4)).block, (ad270.add ((x5_1).toNat * 4)).off + 3, none⟩ = some (.int .i64 ((rd_T37 l0 x5_1).f3)) ∧ w'.cell? (ad271.add ((x5_1).toNat * 4)) = some (.int .i64 ((rd_T37 l1 x5_1).f0)) ∧ w'.cell? ⟨(ad271.add ((x5_1).toNat * 4)).block, (ad271.add ((x5_1).toNat * 4)).off + 1, none⟩ = some (.int .i64 ((rd_T37 l1 x5_1).f1)) ∧ w'.cell? ⟨(ad271.add ((x5_1).toNat * 4)).block, (ad271.add ((x5_1).toNat * 4)).off + 2, none⟩ = some (.int .i64 ((rd_T37 l1 x5_1).f2)) ∧ w'.cell? ⟨(ad271.add ((x5_1).toNat * 4)).block, (ad271.add ((x5_1).toNat * 4)).off + 3, none⟩ = some (.int .i64 ((rd_T37 l1 x5_1).f3))) (ds := []) #[false, false, false, false, false, false, false, false, false, false] (by kernel_rfl) rfl rfl ⟨((HB.out.cell (World.block_lt_of_cell? w _ hw270_0)).trans hw270_0), ((HB.out.cell (World.block_lt_of_cell? w _ hw270_1)).trans hw270_1), ((HB.out.cell (World.block_lt_of_cell? w _ hw270_2)).trans hw270_2), ((HB.out.cell (World.block_lt_of_cell? w _ hw270_3)).trans hw270_3), ((HB.out.cell (World.block_lt_of_cell? w _ hw271_0)).trans hw271_0), ((HB.out.cell (World.block_lt_of_cell? w _ hw271_1)).trans hw271_1), ((HB.out.cell (World.block_lt_of_cell? w _ hw271_2)).trans hw271_2), ((HB.out.cell (World.block_lt_of_cell? w _ hw271_3)).trans hw271_3)⟩ (fun hHeld => ?_); refine with_tabW laws_eqTermS.tab6 laws_eqTermS.bits6 (fun HT_ HW_ => ?_)
        generalize wr.drew = w11 at HB hx270_0 hx270_1 hx270_2 hx270_3 hx271_0 hx271_1 hx271_2 hx271_3 hHeld ⊢
        refine pure_ (i := 0) (N := some 17) (v := ?_) (a' := ?_) #[true, false, false, false, false, false, false, false, false, false] rfl rfl (any_of HT_.out (by kernel_rfl)) (fun _ _ _ h => h) (Or.inl ⟨by rfl, ?_⟩) ?_ ?_
        rotate_left
        ·intro w'
         go_simp
         with_reducible rfl
        rotate_left
        ·simp only [Act.put, lA_, lZ_, lS_, i64_w, i32_w]
         rfl
        refine pure_ (i := 1) (N := some 18) (v := ?_) (a' := ?_) #[true, true, false, false, false, false, false, false, false, false] rfl rfl (any_of HT_.out (by kernel_rfl)) (fun _ _ _ h => h) (Or.inl ⟨by rfl, ?_⟩) ?_ ?_
        rotate_left
        ·intro w'
         go_simp
         with_reducible rfl
        rotate_left
        ·simp only [Act.put, lA_, lZ_, lS_, i64_w, i32_w]
         rfl
        refine pure_ (i := 2) (N := some 19) (v := ?_) (a' := ?_) #[true, true, true, false, false, false, false, false, false, false] rfl rfl (any_of HT_.out (by kernel_rfl)) (fun _ _ _ h => h) (Or.inl ⟨by rfl, ?_⟩) ?_ ?_
        rotate_left
        ·intro w'
         go_simp
         with_reducible rfl
        rotate_left
        ·simp only [Act.put, lA_, lZ_, lS_, i64_w, i32_w]
         rfl
        refine pure_ (i := 4) (N := some 21) (v := ?_) (a' := ?_) #[true, true, true, false, true, false, false, false, false, false] rfl rfl (any_of HT_.out (by kernel_rfl)) (fun _ _ _ h => h) (Or.inl ⟨by rfl, ?_⟩) ?_ ?_
        rotate_left
        ·intro w'
         go_simp
         with_reducible rfl
        rotate_left
        ·simp only [Act.put, lA_, lZ_, lS_, i64_w, i32_w]
         rfl
        refine pure_ (i := 5) (N := some 22) (v := ?_) (a' := ?_) #[true, true, true, false, true, true, false, false, false, false] rfl rfl (any_of HT_.out (by kernel_rfl)) (fun _ _ _ h => h) (Or.inl ⟨by rfl, ?_⟩) ?_ ?_
        rotate_left
        ·intro w'
         go_simp
         with_reducible rfl
        rotate_left
        ·simp only [Act.put, lA_, lZ_, lS_, i64_w, i32_w]
         rfl
        refine pure_ (i := 6) (N := some 23) (v := ?_) (a' := ?_) #[true, true, true, false, true, true, true, false, false, false] rfl rfl (any_of HT_.out (by kernel_rfl)) (fun _ _ _ h => h) (Or.inl ⟨by rfl, ?_⟩) ?_ ?_
        rotate_left
        ·intro w'
         go_simp
         with_reducible rfl
        rotate_left
        ·simp only [Act.put, lA_, lZ_, lS_, i64_w, i32_w]
         rfl
        refine take_ (i := 3) (N := some 20) (v := ?_) (a' := ?_) #[true, true, true, true, true, true, true, false, false, false] rfl rfl (take_ofW HT_.out HW_.out (by kernel_rfl)) (fun _ _ _ h => h) (Or.inl ⟨by rfl, ?_⟩) hHeld ?_ ?_
        rotate_left
        ·rintro w' ⟨s0, s1, s2, s3, s4, s5, s6, s7⟩
         go_simp
         with_reducible rfl
        rotate_left
        ·simp only [Act.put, lA_, lZ_, lS_, i64_w, i32_w]
         rfl
        refine take_ (i := 7) (N := some 24) (v := ?_) (a' := ?_) #[true, true, true, true, true, true, true, true, false, false] rfl rfl (take_ofW HT_.out HW_.out (by kernel_rfl)) (fun _ _ _ h => h) (Or.inl ⟨by rfl, ?_⟩) hHeld ?_ ?_
        rotate_left
        ·rintro w' ⟨s0, s1, s2, s3, s4, s5, s6, s7⟩
         go_simp
         with_reducible rfl
        rotate_left
        ·simp only [Act.put, lA_, lZ_, lS_, i64_w, i32_w]
         rfl
        refine one_ (i := 8) (N := some 25) #[true, true, true, true, true, true, true, true, true, false] rfl rfl (one_of HT_.out (by kernel_rfl)) (by decide) (fun K hK => ?_)
        refine goes_ Try.func26 (by kernel_rfl) rfl #[.agg #[.int .i64 ((rd_T37 l0 x5_1).f0), .int .i64 ((rd_T37 l0 x5_1).f1), .int .i64 ((rd_T37 l0 x5_1).f2), .int .i64 ((rd_T37 l0 x5_1).f3)], .agg #[.int .i64 ((rd_T37 l1 x5_1).f0), .int .i64 ((rd_T37 l1 x5_1).f1), .int .i64 ((rd_T37 l1 x5_1).f2), .int .i64 ((rd_T37 l1 x5_1).f3)]] (by rfl) rfl rfl (by (try simp only [List.map_toArray, List.map_cons, List.map_nil]); first | done | rfl | (simp only [List.length_drop, List.length_take]; rfl)) ?_
        with_reducible refine (laws_eqTerm.calls ((rd_T37 l0 x5_1).f0) ((rd_T37 l0 x5_1).f1) ((rd_T37 l0 x5_1).f2) ((rd_T37 l0 x5_1).f3) ((rd_T37 l1 x5_1).f0) ((rd_T37 l1 x5_1).f1) ((rd_T37 l1 x5_1).f2) ((rd_T37 l1 x5_1).f3) false _ A7.out).mono ?_
        rintro e w12 ⟨rfl, hb⟩
        refine ⟨_, rfl, ?_⟩
        have n0_ := Aside0.mk (lP_ (by repeat (first | (with_reducible first | exact HB.out | apply lA1_ | apply lN_ | apply lD_) | exact HB.out)) hb)
        clear HB
        have HB := n0_
        clear n0_
        (try clear hb)
        (try clear hb2)
        (try clear hk)
        (try clear hi)
        refine hK.out _ _ ⟨((HB.out.cell (World.block_lt_of_cell? w _ hw270_0)).trans hw270_0), ((HB.out.cell (World.block_lt_of_cell? w _ hw270_1)).trans hw270_1), ((HB.out.cell (World.block_lt_of_cell? w _ hw270_2)).trans hw270_2), ((HB.out.cell (World.block_lt_of_cell? w _ hw270_3)).trans hw270_3), ((HB.out.cell (World.block_lt_of_cell? w _ hw271_0)).trans hw271_0), ((HB.out.cell (World.block_lt_of_cell? w _ hw271_1)).trans hw271_1), ((HB.out.cell (World.block_lt_of_cell? w _ hw271_2)).trans hw271_2), ((HB.out.cell (World.block_lt_of_cell? w _ hw271_3)).trans hw271_3)⟩ (fun hHeld => ?_)
        clear hK K
        refine norm_ (a' := ?_) ?_ ?_
        rotate_left
        ·show Act.put _ (some 25) _ = _
         simp only [Act.put, lA_, lZ_, lS_, i64_w, i32_w]
         rfl
        refine pure_ (i := 9) (N := some 26) (v := ?_) (a' := ?_) #[true, true, true, true, true, true, true, true, true, true] rfl rfl (any_of HT_.out (by kernel_rfl)) (fun _ _ _ h => h) (Or.inl ⟨by rfl, ?_⟩) ?_ ?_
        rotate_left
        ·intro w'
         go_simp
         with_reducible rfl
        rotate_left
        ·simp only [Act.put, lA_, lZ_, lS_, i64_w, i32_w]
         rfl
        refine done_ (done_of HT_.out (by kernel_rfl)) ?_
        try go_wp2
        go_ret
        exact ⟨by first | rfl | (simp [errW_none, errW_some] <;> rfl) | (simp [*, errW_none, errW_some] <;> rfl), by repeat (first | (with_reducible first | exact HB.out | apply lA1_ | apply lN_ | apply lD_) | exact HB.out)⟩
      ·rw [if_neg c6] at H
       exact absurd H (by simp)
     ·rw [if_neg c5] at H
      exact absurd H (by simp)
    ·rw [if_neg c4] at H
     have c4b0 : decide (x5_1 < (l0.length : Int)) = false := decide_eq_false c4
     clear c4
     obtain rfl := Option.some.inj H
     go_wp2
     go_ret
     exact ⟨by first | rfl | (simp [errW_none, errW_some] <;> rfl) | (simp [*, errW_none, errW_some] <;> rfl), by repeat (first | (with_reducible first | exact HB.out | apply lA1_ | apply lN_ | apply lD_) | exact HB.out)⟩
 ·rw [if_neg c3] at H
  have c3b0 : ((l0.length : Int) == (l1.length : Int)) = false := beq_eq_false_iff_ne.mpr c3
  have c3b1 : ((l0.length : Int) != (l1.length : Int)) = true := bne_iff_ne.mpr c3
  have c3b2 : (l0.length == l1.length) = false := by first | simpa using c3 | (simp at c3 ⊢; omega)
  obtain rfl := Option.some.inj H
  go_enter Try.func9, Try.ntmps9
  go_wp2
  go_ret
  exact ⟨by first | rfl | (simp [errW_none, errW_some] <;> rfl) | (simp [*, errW_none, errW_some] <;> rfl), by repeat (first | (with_reducible first | exact HB.out | apply lA1_ | apply lN_ | apply lD_) | exact HB.out)⟩
def laws_eqTermResult.f (k : Nat) (a0_0 : Int) (a0_1 : Int) (l0_2 : List (S37)) (a1_0 : Int) (a1_1 : Int) (l1_2 : List (S37)) : Option (Bool) := if a0_0 = a1_0 then (if a0_1 = a1_1 then ((laws_eqTermS.f k l0_2 l1_2).bind fun t275 => (if t275 = true then (some true) else (some false))) else (some false)) else (some false)
set_option maxHeartbeats 8000000 in
set_option maxRecDepth 100000 in
theorem laws_eqTermResult.calls (k : Nat) (a0_0 : Int) (a0_1 : Int) (A0_2 : Option Addr) (c0_2 : Nat) (l0_2 : List (S37)) (a1_0 : Int) (a1_1 : Int) (A1_2 : Option Addr) (c1_2 : Nat) (l1_2 : List (S37)) (r : Bool) (w : World) (hr0_2 : Kd.C k37 w A0_2 l0_2.length l0_2) (hc0_2 : l0_2.length ≤ c0_2) (hr1_2 : Kd.C k37 w A1_2 l1_2.length l1_2) (hc1_2 : l1_2.length ≤ c1_2) (h : laws_eqTermResult.f k a0_0 a0_1 l0_2 a1_0 a1_1 l1_2 = some r) :
  Calls Try.prog 8 #[.agg #[.int .i64 a0_0, .int .i64 a0_1, .slice A0_2 l0_2.length c0_2], .agg #[.int .i64 a1_0, .int .i64 a1_1, .slice A1_2 l1_2.length c1_2]] w fun e w' => e = .returned (.bool r) ∧ Below w.heap.size w w' := by
 have hu26 := Try.underlying26
 have HR0_2 := Aside0.mk hr0_2
 have HC0_2 := Aside0.mk hc0_2
 clear hr0_2 hc0_2
 have HR1_2 := Aside0.mk hr1_2
 have HC1_2 := Aside0.mk hc1_2
 clear hr1_2 hc1_2
 have HB := Aside0.mk (Below.refl w.heap.size w)
 have H : (if a0_0 = a1_0 then (if a0_1 = a1_1 then ((laws_eqTermS.f k l0_2 l1_2).bind fun t275 => (if t275 = true then (some true) else (some false))) else (some false)) else (some false)) = some r := h
 clear h
 by_cases c3 : a0_0 = a1_0
 ·rw [if_pos c3] at H
  have c3b0 : (a0_0 == a1_0) = true := beq_iff_eq.mpr c3
  have c3b1 : (a0_0 != a1_0) = false := bne_eq_false_iff_eq.mpr c3
  clear c3
  by_cases c4 : a0_1 = a1_1
  ·rw [if_pos c4] at H
   have c4b0 : (a0_1 == a1_1) = true := beq_iff_eq.mpr c4
   have c4b1 : (a0_1 != a1_1) = false := bne_eq_false_iff_eq.mpr c4
   clear c4
   replace H := Option.bind_eq_some_iff.mp H
   obtain ⟨t275, a8, H⟩ := H
   try dsimp only at H
   have A5 := Aside0.mk a8
   clear a8
   by_cases c6 : t275 = true
   ·subst c6
    rw [if_pos rfl] at H
    obtain rfl := Option.some.inj H
    go_enter Try.func8, Try.ntmps8
    go_wp2_with (first | ((with_reducible refine gate_dst (N := 2) rfl ?_); refine box_event ?hg (N := 2) ?hd (cs := #[.int .i64 a0_0, .int .i64 a0_1, .slice A0_2 l0_2.length c0_2]) (t := 26) ?hr ?_; (case hd => rfl); (case hg => rfl); (case hr => first | (go_simp; done) | (go_simp; rfl)); intro a3 hg w7 hbox hb; have n0_ := Aside0.mk (lP_ HB.out hb); have n1_ := Aside0.mk (hbox); have n3_ := Aside0.mk ((by rw [hg]; exact (below_size HB.out) : w.heap.size ≤ a3)); clear HB; have HB := n0_; have a0 := n1_; have a5 := n3_; clear n0_ n1_ n3_ hb hbox hg) | ((with_reducible refine gate_dst (N := 3) rfl ?_); refine box_event ?hg (N := 3) ?hd (cs := #[.int .i64 a1_0, .int .i64 a1_1, .slice A1_2 l1_2.length c1_2]) (t := 26) ?hr ?_; (case hd => rfl); (case hg => rfl); (case hr => first | (go_simp; done) | (go_simp; rfl)); intro a4 hg w8 hbox hb; have n0_ := Aside0.mk (bB_ a0.out hb); have n1_ := Aside0.mk (lP_ HB.out hb); have n2_ := Aside0.mk (hbox); have n4_ := Aside0.mk ((by rw [hg]; exact (below_size HB.out) : w.heap.size ≤ a4)); have n5_ := Aside0.mk ((by rw [hg]; exact Nat.ne_of_lt (blk_lt a0.out) : a3 ≠ a4)); have n6_ := Aside0.mk n5_.out.symm; clear a0 HB; have a0 := n0_; have HB := n1_; have a7 := n2_; have a6 := n4_; have a1 := n5_; have a2 := n6_; clear n0_ n1_ n2_ n4_ n5_ n6_ hb hbox hg; have af := a1.out; have ag := a2.out; obtain ⟨_, _, _, _, _, _⟩ := bc3 a0.out; obtain ⟨_, _, _, _, _, _⟩ := bc3 a7.out) | ((with_reducible refine gate_callee (f := 9) rfl ?_); refine goesA_ (some 19) rfl rfl Try.func9 (by kernel_rfl) rfl #[.slice A0_2 l0_2.length c0_2, .slice A1_2 l1_2.length c1_2] rfl ?_; (with_reducible refine (laws_eqTermS.calls k _ _ l0_2 _ _ l1_2 true _ ?side1 ?side2 ?side3 ?side4 A5.out).mono ?_); (case side1 => repeat (first | exact (Kd.C_below HR0_2.out HB.out) | (with_reducible refine Kd.C_alloc ?_ _) | (with_reducible refine Kd.C_drewN ?_ _) | (with_reducible refine Kd.C_drew ?_))); (case side2 => exact HC0_2.out); (case side3 => repeat (first | exact (Kd.C_below HR1_2.out HB.out) | (with_reducible refine Kd.C_alloc ?_ _) | (with_reducible refine Kd.C_drewN ?_ _) | (with_reducible refine Kd.C_drew ?_))); (case side4 => exact HC1_2.out); rintro e w12 ⟨rfl, hb⟩; refine ⟨_, rfl, ?_⟩; have n2_ := Aside0.mk (lP_ (by repeat (first | (with_reducible first | exact HB.out | refine lS1_ ?_ a5.out | refine lS1_ ?_ a6.out) | exact HB.out)) hb); clear HB; have HB := n2_; clear n2_; (try clear hb); (try clear hb2); (try clear hk); (try clear hi)))
    go_ret
    exact ⟨by first | rfl | (simp [errW_none, errW_some] <;> rfl) | (simp [*, errW_none, errW_some] <;> rfl), by repeat (first | (with_reducible first | exact HB.out | apply lA1_ | apply lN_ | apply lD_ | refine lS1_ ?_ a5.out | refine lS1_ ?_ a6.out) | exact HB.out)⟩
   ·replace c6 := Bool.eq_false_iff.mpr c6
    subst c6
    rw [if_neg (show ¬ (false = true) by decide)] at H
    obtain rfl := Option.some.inj H
    go_enter Try.func8, Try.ntmps8
    go_wp2_with (first | ((with_reducible refine gate_dst (N := 2) rfl ?_); refine box_event ?hg (N := 2) ?hd (cs := #[.int .i64 a0_0, .int .i64 a0_1, .slice A0_2 l0_2.length c0_2]) (t := 26) ?hr ?_; (case hd => rfl); (case hg => rfl); (case hr => first | (go_simp; done) | (go_simp; rfl)); intro a3 hg w13 hbox hb; have n0_ := Aside0.mk (lP_ (by repeat (first | (with_reducible first | exact HB.out | apply lA1_ | apply lN_ | apply lD_) | exact HB.out)) hb); have n1_ := Aside0.mk (hbox); have n3_ := Aside0.mk ((by rw [hg]; exact (below_size (by repeat (first | (with_reducible first | exact HB.out | apply lA1_ | apply lN_ | apply lD_) | exact HB.out))) : w.heap.size ≤ a3)); clear HB; have HB := n0_; have a0 := n1_; have a5 := n3_; clear n0_ n1_ n3_ hb hbox hg) | ((with_reducible refine gate_dst (N := 3) rfl ?_); refine box_event ?hg (N := 3) ?hd (cs := #[.int .i64 a1_0, .int .i64 a1_1, .slice A1_2 l1_2.length c1_2]) (t := 26) ?hr ?_; (case hd => rfl); (case hg => rfl); (case hr => first | (go_simp; done) | (go_simp; rfl)); intro a4 hg w14 hbox hb; have n0_ := Aside0.mk (bB_ a0.out hb); have n1_ := Aside0.mk (lP_ HB.out hb); have n2_ := Aside0.mk (hbox); have n4_ := Aside0.mk ((by rw [hg]; exact (below_size HB.out) : w.heap.size ≤ a4)); have n5_ := Aside0.mk ((by rw [hg]; exact Nat.ne_of_lt (blk_lt a0.out) : a3 ≠ a4)); have n6_ := Aside0.mk n5_.out.symm; clear a0 HB; have a0 := n0_; have HB := n1_; have a7 := n2_; have a6 := n4_; have a1 := n5_; have a2 := n6_; clear n0_ n1_ n2_ n4_ n5_ n6_ hb hbox hg; have a9 := a1.out; have aa := a2.out; obtain ⟨_, _, _, _, _, _⟩ := bc3 a0.out; obtain ⟨_, _, _, _, _, _⟩ := bc3 a7.out) | ((with_reducible refine gate_callee (f := 9) rfl ?_); refine goesA_ (some 19) rfl rfl Try.func9 (by kernel_rfl) rfl #[.slice A0_2 l0_2.length c0_2, .slice A1_2 l1_2.length c1_2] rfl ?_; (with_reducible refine (laws_eqTermS.calls k _ _ l0_2 _ _ l1_2 false _ ?side1 ?side2 ?side3 ?side4 A5.out).mono ?_); (case side1 => repeat (first | exact (Kd.C_below HR0_2.out HB.out) | (with_reducible refine Kd.C_alloc ?_ _) | (with_reducible refine Kd.C_drewN ?_ _) | (with_reducible refine Kd.C_drew ?_))); (case side2 => exact HC0_2.out); (case side3 => repeat (first | exact (Kd.C_below HR1_2.out HB.out) | (with_reducible refine Kd.C_alloc ?_ _) | (with_reducible refine Kd.C_drewN ?_ _) | (with_reducible refine Kd.C_drew ?_))); (case side4 => exact HC1_2.out); rintro e w18 ⟨rfl, hb⟩; refine ⟨_, rfl, ?_⟩; have n2_ := Aside0.mk (lP_ (by repeat (first | (with_reducible first | exact HB.out | refine lS1_ ?_ a5.out | refine lS1_ ?_ a6.out) | exact HB.out)) hb); clear HB; have HB := n2_; clear n2_; (try clear hb); (try clear hb2); (try clear hk); (try clear hi)))
    go_ret
    exact ⟨by first | rfl | (simp [errW_none, errW_some] <;> rfl) | (simp [*, errW_none, errW_some] <;> rfl), by repeat (first | (with_reducible first | exact HB.out | apply lA1_ | apply lN_ | apply lD_ | refine lS1_ ?_ a5.out | refine lS1_ ?_ a6.out) | exact HB.out)⟩
  ·rw [if_neg c4] at H
   have c4b0 : (a0_1 == a1_1) = false := beq_eq_false_iff_ne.mpr c4
   have c4b1 : (a0_1 != a1_1) = true := bne_iff_ne.mpr c4
   obtain rfl := Option.some.inj H
   go_enter Try.func8, Try.ntmps8
   go_wp2_with (first | ((with_reducible refine gate_dst (N := 2) rfl ?_); refine box_event ?hg (N := 2) ?hd (cs := #[.int .i64 a0_0, .int .i64 a0_1, .slice A0_2 l0_2.length c0_2]) (t := 26) ?hr ?_; (case hd => rfl); (case hg => rfl); (case hr => first | (go_simp; done) | (go_simp; rfl)); intro a3 hg w19 hbox hb; have n0_ := Aside0.mk (lP_ (by repeat (first | (with_reducible first | exact HB.out | apply lA1_ | apply lN_ | apply lD_) | exact HB.out)) hb); have n1_ := Aside0.mk (hbox); have n3_ := Aside0.mk ((by rw [hg]; exact (below_size (by repeat (first | (with_reducible first | exact HB.out | apply lA1_ | apply lN_ | apply lD_) | exact HB.out))) : w.heap.size ≤ a3)); clear HB; have HB := n0_; have a0 := n1_; have a5 := n3_; clear n0_ n1_ n3_ hb hbox hg) | ((with_reducible refine gate_dst (N := 3) rfl ?_); refine box_event ?hg (N := 3) ?hd (cs := #[.int .i64 a1_0, .int .i64 a1_1, .slice A1_2 l1_2.length c1_2]) (t := 26) ?hr ?_; (case hd => rfl); (case hg => rfl); (case hr => first | (go_simp; done) | (go_simp; rfl)); intro a4 hg w20 hbox hb; have n0_ := Aside0.mk (bB_ a0.out hb); have n1_ := Aside0.mk (lP_ HB.out hb); have n2_ := Aside0.mk (hbox); have n4_ := Aside0.mk ((by rw [hg]; exact (below_size HB.out) : w.heap.size ≤ a4)); have n5_ := Aside0.mk ((by rw [hg]; exact Nat.ne_of_lt (blk_lt a0.out) : a3 ≠ a4)); have n6_ := Aside0.mk n5_.out.symm; clear a0 HB; have a0 := n0_; have HB := n1_; have a7 := n2_; have a6 := n4_; have a1 := n5_; have a2 := n6_; clear n0_ n1_ n2_ n4_ n5_ n6_ hb hbox hg; have ab := a1.out; have ac := a2.out; obtain ⟨_, _, _, _, _, _⟩ := bc3 a0.out; obtain ⟨_, _, _, _, _, _⟩ := bc3 a7.out))
   go_ret
   exact ⟨by first | rfl | (simp [errW_none, errW_some] <;> rfl) | (simp [*, errW_none, errW_some] <;> rfl), by repeat (first | (with_reducible first | exact HB.out | apply lA1_ | apply lN_ | apply lD_ | refine lS1_ ?_ a5.out | refine lS1_ ?_ a6.out) | exact HB.out)⟩
 ·rw [if_neg c3] at H
  have c3b0 : (a0_0 == a1_0) = false := beq_eq_false_iff_ne.mpr c3
  have c3b1 : (a0_0 != a1_0) = true := bne_iff_ne.mpr c3
  obtain rfl := Option.some.inj H
  go_enter Try.func8, Try.ntmps8
  go_wp2_with (first | ((with_reducible refine gate_dst (N := 2) rfl ?_); refine box_event ?hg (N := 2) ?hd (cs := #[.int .i64 a0_0, .int .i64 a0_1, .slice A0_2 l0_2.length c0_2]) (t := 26) ?hr ?_; (case hd => rfl); (case hg => rfl); (case hr => first | (go_simp; done) | (go_simp; rfl)); intro a3 hg w24 hbox hb; have n0_ := Aside0.mk (lP_ (by repeat (first | (with_reducible first | exact HB.out | apply lA1_ | apply lN_ | apply lD_) | exact HB.out)) hb); have n1_ := Aside0.mk (hbox); have n3_ := Aside0.mk ((by rw [hg]; exact (below_size (by repeat (first | (with_reducible first | exact HB.out | apply lA1_ | apply lN_ | apply lD_) | exact HB.out))) : w.heap.size ≤ a3)); clear HB; have HB := n0_; have a0 := n1_; have a5 := n3_; clear n0_ n1_ n3_ hb hbox hg) | ((with_reducible refine gate_dst (N := 3) rfl ?_); refine box_event ?hg (N := 3) ?hd (cs := #[.int .i64 a1_0, .int .i64 a1_1, .slice A1_2 l1_2.length c1_2]) (t := 26) ?hr ?_; (case hd => rfl); (case hg => rfl); (case hr => first | (go_simp; done) | (go_simp; rfl)); intro a4 hg w25 hbox hb; have n0_ := Aside0.mk (bB_ a0.out hb); have n1_ := Aside0.mk (lP_ HB.out hb); have n2_ := Aside0.mk (hbox); have n4_ := Aside0.mk ((by rw [hg]; exact (below_size HB.out) : w.heap.size ≤ a4)); have n5_ := Aside0.mk ((by rw [hg]; exact Nat.ne_of_lt (blk_lt a0.out) : a3 ≠ a4)); have n6_ := Aside0.mk n5_.out.symm; clear a0 HB; have a0 := n0_; have HB := n1_; have a7 := n2_; have a6 := n4_; have a1 := n5_; have a2 := n6_; clear n0_ n1_ n2_ n4_ n5_ n6_ hb hbox hg; have ad := a1.out; have ae := a2.out; obtain ⟨_, _, _, _, _, _⟩ := bc3 a0.out; obtain ⟨_, _, _, _, _, _⟩ := bc3 a7.out))
  go_ret
  exact ⟨by first | rfl | (simp [errW_none, errW_some] <;> rfl) | (simp [*, errW_none, errW_some] <;> rfl), by repeat (first | (with_reducible first | exact HB.out | apply lA1_ | apply lN_ | apply lD_ | refine lS1_ ?_ a5.out | refine lS1_ ?_ a6.out) | exact HB.out)⟩
def laws_markTermS.l0 : Nat → List (S37) → Int → Int → Option (Int × (List (S37)))
 | 0, _, _, _ => none
 | k + 1, x0, x1, x5 => if x5 < (x0.length : Int) then (if 0 ≤ x5 then ((some (x0.set (x5 : Int).toNat (⟨x1, (rd_T37 x0 x5).f1, (rd_T37 x0 x5).f2, (rd_T37 x0 x5).f3⟩ : S37) : List (S37))).bind fun y276 => ((some (y276.set (x5 : Int).toNat (⟨(rd_T37 y276 x5).f0, wrap64 (x1 + 1), (rd_T37 y276 x5).f2, (rd_T37 y276 x5).f3⟩ : S37) : List (S37))).bind fun y277 => ((some (y277.set (x5 : Int).toNat (⟨(rd_T37 y277 x5).f0, (rd_T37 y277 x5).f1, wrap64 ((wrap64 (x1 + 1)) + 1), (rd_T37 y277 x5).f3⟩ : S37) : List (S37))).bind fun y278 => (laws_markTermS.l0 k (y278.set (x5 : Int).toNat (⟨(rd_T37 y278 x5).f0, (rd_T37 y278 x5).f1, (rd_T37 y278 x5).f2, wrap64 ((wrap64 ((wrap64 (x1 + 1)) + 1)) + 1)⟩ : S37)) (wrap64 ((wrap64 ((wrap64 ((wrap64 (x1 + 1)) + 1)) + 1)) + 1)) (wrap64 (x5 + 1)))))) else (none)) else (some (x1, x0))
def laws_markTermS.f (k : Nat) (l0 : List (S37)) (a1 : Int) : Option (Int × (List (S37))) := laws_markTermS.l0 k l0 a1 0
set_option maxHeartbeats 8000000 in
set_option maxRecDepth 100000 in
theorem laws_markTermS.calls (k : Nat) (P0_ : Nat → Prop) (u9000_ : Value) (l0 : List (S37)) (a1 : Int) (r1 : Int) (r2 : List (S37)) (w0 w : World) (hB : Below w0.heap.size w0 w) (ho0 : Kd.R k37 37 w w0.heap.size P0_ u9000_ l0) (h : laws_markTermS.f k l0 a1 = some (r1, r2)) :
  Calls Try.prog 10 #[u9000_, .int .i64 a1] w fun e w' => e = .returned (.int .i64 r1) ∧ Kd.R k37 37 w' w0.heap.size (fun k_ => (P0_ k_ ∨ w.heap.size ≤ k_)) u9000_ r2 ∧ Below w0.heap.size w0 w' ∧ Kept w w' (fun k_ => P0_ k_) := by
 have a9 := Aside0.mk (show Kd.R k37 37 w w0.heap.size (fun k_ => (P0_ k_ ∨ w.heap.size ≤ k_)) u9000_ l0 from Kd.R_mono ho0 (fun k_ hk => (.inl hk)))
 have HK := Aside0.mk (Kept.refl w (fun k_ => P0_ k_))
 have HW0 := Aside0.mk hB.size
 have HB := Aside0.mk hB
 clear hB
 have H : (laws_markTermS.l0 k l0 a1 0) = some (r1, r2) := h
 clear h
 have H' := Aside0.mk H
 clear H
 go_enter Try.func10, Try.ntmps10
 go_wp2
 go_loopg [1, 5] k (fun kq v1 v5 w' => ∃ (x0_1 : List (S37)) (x1_1 : Int) (x5_1 : Int), v1 = .int .i64 x1_1 ∧ v5 = .int .i64 x5_1 ∧ Aside0 (laws_markTermS.l0 kq x0_1 x1_1 x5_1 = some (r1, r2)) ∧ Aside0 (kq ≤ k) ∧ Aside0 (Kd.R k37 37 w' w0.heap.size (fun k_ => (P0_ k_ ∨ w.heap.size ≤ k_)) u9000_ x0_1) ∧ Aside0 (Kept w w' (fun k_ => P0_ k_)) ∧ Aside0 (Below w0.heap.size w0 w'))
 case atStart => exact ⟨(l0), (a1), (0), (by first | rfl | (simp; done) | (simp [*]; done)), (by first | rfl | (simp; done) | (simp [*]; done)), H', ⟨Nat.le_refl _⟩, ⟨by (with_reducible repeat first | apply rA_ | apply rN_ | apply rD_); exact a9.out⟩, ⟨by repeat (first | (with_reducible first | exact HK.out | apply Kept.alloc | apply Kept.drewN | apply Kept.drew) | exact HK.out)⟩, ⟨by repeat (first | (with_reducible first | exact HB.out | apply lA1_ | apply lN_ | apply lD_) | exact HB.out)⟩⟩
 case round =>
  clear H'
  try clear c1
  try clear p2
  obtain ⟨x0_1, x1_1, x5_1, rfl, rfl, HA, HK1, a0, HK, HB⟩ := hrel
  cases gk with
  | zero => exact absurd HA.out (by simp [laws_markTermS.l0])
  | succ k1 =>
   have H := HA.out
   clear HA
   simp only [laws_markTermS.l0] at H
   by_cases c3 : x5_1 < (x0_1.length : Int)
   ·rw [if_pos c3] at H
    have c3b0 : decide (x5_1 < (x0_1.length : Int)) = true := decide_eq_true c3
    clear c3
    by_cases c4 : 0 ≤ x5_1
    ·rw [if_pos c4] at H
     have c4b0 : decide (0 ≤ x5_1) = true := decide_eq_true c4
     clear c4
     obtain ⟨y276, hy276⟩ : ∃ y_ : List (S37), y_ = (x0_1.set (x5_1 : Int).toNat (⟨x1_1, (rd_T37 x0_1 x5_1).f1, (rd_T37 x0_1 x5_1).f2, (rd_T37 x0_1 x5_1).f3⟩ : S37)) := ⟨_, rfl⟩
     replace H : ((some (y276.set (x5_1 : Int).toNat (⟨(rd_T37 y276 x5_1).f0, wrap64 (x1_1 + 1), (rd_T37 y276 x5_1).f2, (rd_T37 y276 x5_1).f3⟩ : S37) : List (S37))).bind fun y277 => ((some (y277.set (x5_1 : Int).toNat (⟨(rd_T37 y277 x5_1).f0, (rd_T37 y277 x5_1).f1, wrap64 ((wrap64 (x1_1 + 1)) + 1), (rd_T37 y277 x5_1).f3⟩ : S37) : List (S37))).bind fun y278 => (laws_markTermS.l0 k1 (y278.set (x5_1 : Int).toNat (⟨(rd_T37 y278 x5_1).f0, (rd_T37 y278 x5_1).f1, (rd_T37 y278 x5_1).f2, wrap64 ((wrap64 ((wrap64 (x1_1 + 1)) + 1)) + 1)⟩ : S37)) (wrap64 ((wrap64 ((wrap64 ((wrap64 (x1_1 + 1)) + 1)) + 1)) + 1)) (wrap64 (x5_1 + 1))))) = some (r1, r2) := by first | (rw [hy276]; with_reducible exact H) | (have H2_ := (Option.bind_some _ _).symm.trans H; rw [hy276]; with_reducible exact H2_) | (have H2_ := (Option.bind_some _ _).symm.trans H; with_reducible exact H2_) | with_reducible exact H | (rw [hy276]; exact H) | exact H
     have a4 := Aside0.mk hy276
     clear hy276
     obtain ⟨y277, hy277⟩ : ∃ y_ : List (S37), y_ = (y276.set (x5_1 : Int).toNat (⟨(rd_T37 y276 x5_1).f0, wrap64 (x1_1 + 1), (rd_T37 y276 x5_1).f2, (rd_T37 y276 x5_1).f3⟩ : S37)) := ⟨_, rfl⟩
     replace H : ((some (y277.set (x5_1 : Int).toNat (⟨(rd_T37 y277 x5_1).f0, (rd_T37 y277 x5_1).f1, wrap64 ((wrap64 (x1_1 + 1)) + 1), (rd_T37 y277 x5_1).f3⟩ : S37) : List (S37))).bind fun y278 => (laws_markTermS.l0 k1 (y278.set (x5_1 : Int).toNat (⟨(rd_T37 y278 x5_1).f0, (rd_T37 y278 x5_1).f1, (rd_T37 y278 x5_1).f2, wrap64 ((wrap64 ((wrap64 (x1_1 + 1)) + 1)) + 1)⟩ : S37)) (wrap64 ((wrap64 ((wrap64 ((wrap64 (x1_1 + 1)) + 1)) + 1)) + 1)) (wrap64 (x5_1 + 1)))) = some (r1, r2) := by first | (rw [hy277]; with_reducible exact H) | (have H2_ := (Option.bind_some _ _).symm.trans H; rw [hy277]; with_reducible exact H2_) | (have H2_ := (Option.bind_some _ _).symm.trans H; with_reducible exact H2_) | with_reducible exact H | (rw [hy277]; exact H) | exact H
     have a5 := Aside0.mk hy277
     clear hy277
     obtain ⟨y278, hy278⟩ : ∃ y_ : List (S37), y_ = (y277.set (x5_1 : Int).toNat (⟨(rd_T37 y277 x5_1).f0, (rd_T37 y277 x5_1).f1, wrap64 ((wrap64 (x1_1 + 1)) + 1), (rd_T37 y277 x5_1).f3⟩ : S37)) := ⟨_, rfl⟩
     replace H : (laws_markTermS.l0 k1 (y278.set (x5_1 : Int).toNat (⟨(rd_T37 y278 x5_1).f0, (rd_T37 y278 x5_1).f1, (rd_T37 y278 x5_1).f2, wrap64 ((wrap64 ((wrap64 (x1_1 + 1)) + 1)) + 1)⟩ : S37)) (wrap64 ((wrap64 ((wrap64 ((wrap64 (x1_1 + 1)) + 1)) + 1)) + 1)) (wrap64 (x5_1 + 1))) = some (r1, r2) := by first | (rw [hy278]; with_reducible exact H) | (have H2_ := (Option.bind_some _ _).symm.trans H; rw [hy278]; with_reducible exact H2_) | (have H2_ := (Option.bind_some _ _).symm.trans H; with_reducible exact H2_) | with_reducible exact H | (rw [hy278]; exact H) | exact H
     have a6 := Aside0.mk hy278
     clear hy278
     obtain ⟨y279, hy279⟩ : ∃ y_ : List (S37), y_ = (y278.set (x5_1 : Int).toNat (⟨(rd_T37 y278 x5_1).f0, (rd_T37 y278 x5_1).f1, (rd_T37 y278 x5_1).f2, wrap64 ((wrap64 ((wrap64 (x1_1 + 1)) + 1)) + 1)⟩ : S37)) := ⟨_, rfl⟩
     replace H : (laws_markTermS.l0 k1 y279 (wrap64 ((wrap64 ((wrap64 ((wrap64 (x1_1 + 1)) + 1)) + 1)) + 1)) (wrap64 (x5_1 + 1))) = some (r1, r2) := by first | (rw [hy279]; with_reducible exact H) | (have H2_ := (Option.bind_some _ _).symm.trans H; rw [hy279]; with_reducible exact H2_) | (have H2_ := (Option.bind_some _ _).symm.trans H; with_reducible exact H2_) | with_reducible exact H | (rw [hy279]; exact H) | exact H
     have a7 := Aside0.mk hy279
     clear hy279
     have H' := Aside0.mk H
     clear H
     obtain ⟨ac, a2, eo9⟩ := Kd.R_slice a0.out
     subst eo9
     have p5 : 0 ≤ (x5_1 : Int) := of_decide_eq_true (by first | (with_reducible assumption) | assumption)
     have q5 : (x5_1 : Int) < ((x0_1.length : Int) : Int) := of_decide_eq_true (by first | (with_reducible assumption) | assumption)
     obtain ⟨go5, ad, eo5, a8, gl5, cl5, HG5⟩ := Kd.R_form a0.out (by omega)
     (first | cases eo5 | (injection eo5 with ea_ en_ ec_; (first | subst ea_ | (injection ea_ with ea_; subst ea_)); subst ec_; clear en_))
     have a3 := Aside0.mk a8
     have GG5 := Aside0.mk HG5
     clear a8 gl5 HG5
     have HMgo5 := Aside0.mk (show (P0_ go5 ∨ w.heap.size ≤ go5) from (a0.out.1 _ rfl))
     obtain ⟨ce5, hcl5, hM5, hcc5, hfr5⟩ := Kd.R_elem a0.out z37 (x5_1 : Int) p5 q5
     obtain rfl := k37_openM hM5
     have hx5_0 : wr.cell? ⟨go5, (x5_1 : Int).toNat * 4, none⟩ = some (.int .i64 ((rd_T37 x0_1 x5_1).f0)) := hcc5 0 _ rfl
     have hx5_1 : wr.cell? ⟨go5, (x5_1 : Int).toNat * 4 + 1, none⟩ = some (.int .i64 ((rd_T37 x0_1 x5_1).f1)) := hcc5 1 _ rfl
     have hx5_2 : wr.cell? ⟨go5, (x5_1 : Int).toNat * 4 + 2, none⟩ = some (.int .i64 ((rd_T37 x0_1 x5_1).f2)) := hcc5 2 _ rfl
     have hx5_3 : wr.cell? ⟨go5, (x5_1 : Int).toNat * 4 + 3, none⟩ = some (.int .i64 ((rd_T37 x0_1 x5_1).f3)) := hcc5 3 _ rfl
     have hf5_0 : wr.frozen? ⟨go5, (x5_1 : Int).toNat * 4, none⟩ = false := hfr5 0
     have hf5_1 : wr.frozen? ⟨go5, (x5_1 : Int).toNat * 4 + 1, none⟩ = false := hfr5 1
     have hf5_2 : wr.frozen? ⟨go5, (x5_1 : Int).toNat * 4 + 2, none⟩ = false := hfr5 2
     have hf5_3 : wr.frozen? ⟨go5, (x5_1 : Int).toNat * 4 + 3, none⟩ = false := hfr5 3
     clear hcl5 hcc5 hfr5 hM5
     replace p5 := eq_true p5
     replace q5 := eq_true q5
     have HX10 := Aside0.mk (show Kd.R k37 37 wr w0.heap.size (fun k_ => (P0_ k_ ∨ w.heap.size ≤ k_)) (.slice (some ⟨go5, 0, none⟩) x0_1.length a2) x0_1 from (by (with_reducible repeat first | apply rA_ | apply rN_ | apply rD_); exact a0.out))
     obtain ⟨ce10, hcl10, hM10, hcc10, hfr10⟩ := Kd.R_elem HX10.out z37 (x5_1 : Int) (of_decide_eq_true (by first | (with_reducible assumption) | assumption)) (by have h_ : (x5_1 : Int) < ((x0_1.length : Int) : Int) := of_decide_eq_true (by first | (with_reducible assumption) | assumption); first | exact h_ | (have e_ := (Kd.R_reads' a0.out).1; omega) | simpa using h_)
     obtain rfl := k37_openM hM10
     have HP10 := Kd.R_seg HX10.out (x5_1 : Int) (of_decide_eq_true (by first | (with_reducible assumption) | assumption)) (by have h_ : (x5_1 : Int) < ((x0_1.length : Int) : Int) := of_decide_eq_true (by first | (with_reducible assumption) | assumption); first | exact h_ | (have e_ := (Kd.R_reads' a0.out).1; omega) | simpa using h_) (seg := [.int .i64 x1_1]) (j := 0) hcl10 hcc10 (show 1 ≤ 4 from by decide) (x' := (⟨x1_1, (rd_T37 x0_1 x5_1).f1, (rd_T37 x0_1 x5_1).f2, (rd_T37 x0_1 x5_1).f3⟩ : S37)) (k37_mkM _ _ _ (⟨x1_1, (rd_T37 x0_1 x5_1).f1, (rd_T37 x0_1 x5_1).f2, (rd_T37 x0_1 x5_1).f3⟩ : S37) ) (fun _ hk => hk)
     have hx10_0 := hcc10 0 _ rfl
     (try simp only [show (k37).sz = 4 from rfl, Nat.mul_one, Nat.add_zero] at hx10_0)
     have hf10_0 := hfr10 0
     (try simp only [show (k37).sz = 4 from rfl, Nat.mul_one, Nat.add_zero] at hf10_0)
     clear hcl10 hcc10 hfr10 hM10
     go_wp2_with (first | ((with_reducible refine gate_store (t := 2) (p := 16) rfl ?_); refine store_event (t := 2) (p := 16) (v := ?vo_w11) (w1 := (wr.setCell ⟨go5, (x5_1 : Int).toNat * 4, none⟩ (.int .i64 x1_1))) ?hg ?ho ?hn ?hr ?_; (case ho => rfl); (case hg => rfl); (case hn => rfl); (case hr => first | (go_simp; done) | (go_simp; rfl)); intro w11 hw; have hg : wr.grownBy w11 (some go5) := (by rw [hw]; exact HP10.2); have hp_ : Kd.R k37 37 w11 w0.heap.size (fun k_ => (P0_ k_ ∨ w.heap.size ≤ k_)) (.slice (some ⟨go5, 0, none⟩) x0_1.length a2) y276 := (by rw [hw, a4.out]; exact HP10.1); clear HP10; have n0_ := Aside0.mk (hp_); have n1_ := Aside0.mk ((by rw [hw]; exact lS1_ (HB.out) a3.out : Below w0.heap.size w0 w11)); have n2_ := Aside0.mk (Kept.of_grown (S := (fun k_ => P0_ k_)) hg (by repeat (first | (with_reducible first | exact HK.out | apply Kept.alloc | apply Kept.drewN | apply Kept.drew) | exact HK.out)) (fun k_ e_ => (a0.out.1 k_ e_))); clear a0 HB HK; have a0 := n0_; have HB := n1_; have HK := n2_; clear n0_ n1_ n2_ hg hw hp_; have p6 : 0 ≤ (x5_1 : Int) := of_decide_eq_true (by first | (with_reducible assumption) | assumption); have q6 : (x5_1 : Int) < ((x0_1.length : Int) : Int) := of_decide_eq_true (by first | (with_reducible assumption) | assumption); obtain ⟨ce6, hcl6, hM6, hcc6, hfr6⟩ := Kd.R_elem a0.out z37 (x5_1 : Int) p6 q6; obtain rfl := k37_openM hM6; have hx6_0 : w11.cell? ⟨go5, (x5_1 : Int).toNat * 4, none⟩ = some (.int .i64 ((rd_T37 y276 x5_1).f0)) := hcc6 0 _ rfl; have hx6_1 : w11.cell? ⟨go5, (x5_1 : Int).toNat * 4 + 1, none⟩ = some (.int .i64 ((rd_T37 y276 x5_1).f1)) := hcc6 1 _ rfl; have hx6_2 : w11.cell? ⟨go5, (x5_1 : Int).toNat * 4 + 2, none⟩ = some (.int .i64 ((rd_T37 y276 x5_1).f2)) := hcc6 2 _ rfl; have hx6_3 : w11.cell? ⟨go5, (x5_1 : Int).toNat * 4 + 3, none⟩ = some (.int .i64 ((rd_T37 y276 x5_1).f3)) := hcc6 3 _ rfl; have hf6_0 : w11.frozen? ⟨go5, (x5_1 : Int).toNat * 4, none⟩ = false := hfr6 0; have hf6_1 : w11.frozen? ⟨go5, (x5_1 : Int).toNat * 4 + 1, none⟩ = false := hfr6 1; have hf6_2 : w11.frozen? ⟨go5, (x5_1 : Int).toNat * 4 + 2, none⟩ = false := hfr6 2; have hf6_3 : w11.frozen? ⟨go5, (x5_1 : Int).toNat * 4 + 3, none⟩ = false := hfr6 3; clear hcl6 hcc6 hfr6 hM6; replace p6 := eq_true p6; replace q6 := eq_true q6; have HX12 := Aside0.mk (show Kd.R k37 37 w11 w0.heap.size (fun k_ => (P0_ k_ ∨ w.heap.size ≤ k_)) (.slice (some ⟨go5, 0, none⟩) x0_1.length a2) y276 from (by (with_reducible repeat first | apply rA_ | apply rN_ | apply rD_); exact a0.out)); obtain ⟨ce12, hcl12, hM12, hcc12, hfr12⟩ := Kd.R_elem HX12.out z37 (x5_1 : Int) (of_decide_eq_true (by first | (with_reducible assumption) | assumption)) (by have h_ : (x5_1 : Int) < ((x0_1.length : Int) : Int) := of_decide_eq_true (by first | (with_reducible assumption) | assumption); first | exact h_ | (have e_ := (Kd.R_reads' a0.out).1; omega) | simpa using h_); obtain rfl := k37_openM hM12; have HP12 := Kd.R_seg HX12.out (x5_1 : Int) (of_decide_eq_true (by first | (with_reducible assumption) | assumption)) (by have h_ : (x5_1 : Int) < ((x0_1.length : Int) : Int) := of_decide_eq_true (by first | (with_reducible assumption) | assumption); first | exact h_ | (have e_ := (Kd.R_reads' a0.out).1; omega) | simpa using h_) (seg := [.int .i64 (wrap64 (x1_1 + 1))]) (j := 1) hcl12 hcc12 (show 2 ≤ 4 from by decide) (x' := (⟨(rd_T37 y276 x5_1).f0, wrap64 (x1_1 + 1), (rd_T37 y276 x5_1).f2, (rd_T37 y276 x5_1).f3⟩ : S37)) (k37_mkM _ _ _ (⟨(rd_T37 y276 x5_1).f0, wrap64 (x1_1 + 1), (rd_T37 y276 x5_1).f2, (rd_T37 y276 x5_1).f3⟩ : S37) ) (fun _ hk => hk); have hx12_1 := hcc12 1 _ rfl; (try simp only [show (k37).sz = 4 from rfl, Nat.mul_one, Nat.add_zero] at hx12_1); have hf12_1 := hfr12 1; (try simp only [show (k37).sz = 4 from rfl, Nat.mul_one, Nat.add_zero] at hf12_1); clear hcl12 hcc12 hfr12 hM12) | ((with_reducible refine gate_store (t := 2) (p := 23) rfl ?_); refine store_event (t := 2) (p := 23) (v := ?vo_w13) (w1 := (w11.setCell ⟨go5, (x5_1 : Int).toNat * 4 + 1, none⟩ (.int .i64 (wrap64 (x1_1 + 1))))) ?hg ?ho ?hn ?hr ?_; (case ho => rfl); (case hg => rfl); (case hn => rfl); (case hr => first | (go_simp; done) | (go_simp; rfl)); intro w13 hw; have hg : w11.grownBy w13 (some go5) := (by rw [hw]; exact HP12.2); have hp_ : Kd.R k37 37 w13 w0.heap.size (fun k_ => (P0_ k_ ∨ w.heap.size ≤ k_)) (.slice (some ⟨go5, 0, none⟩) x0_1.length a2) y277 := (by rw [hw, a5.out]; exact HP12.1); clear HP12; have n0_ := Aside0.mk (hp_); have n1_ := Aside0.mk ((by rw [hw]; exact lS1_ (HB.out) a3.out : Below w0.heap.size w0 w13)); have n2_ := Aside0.mk (Kept.of_grown (S := (fun k_ => P0_ k_)) hg (by repeat (first | (with_reducible first | exact HK.out | apply Kept.alloc | apply Kept.drewN | apply Kept.drew) | exact HK.out)) (fun k_ e_ => (a0.out.1 k_ e_))); clear a0 HB HK; have a0 := n0_; have HB := n1_; have HK := n2_; clear n0_ n1_ n2_ hg hw hp_; have p7 : 0 ≤ (x5_1 : Int) := of_decide_eq_true (by first | (with_reducible assumption) | assumption); have q7 : (x5_1 : Int) < ((x0_1.length : Int) : Int) := of_decide_eq_true (by first | (with_reducible assumption) | assumption); obtain ⟨ce7, hcl7, hM7, hcc7, hfr7⟩ := Kd.R_elem a0.out z37 (x5_1 : Int) p7 q7; obtain rfl := k37_openM hM7; have hx7_0 : w13.cell? ⟨go5, (x5_1 : Int).toNat * 4, none⟩ = some (.int .i64 ((rd_T37 y277 x5_1).f0)) := hcc7 0 _ rfl; have hx7_1 : w13.cell? ⟨go5, (x5_1 : Int).toNat * 4 + 1, none⟩ = some (.int .i64 ((rd_T37 y277 x5_1).f1)) := hcc7 1 _ rfl; have hx7_2 : w13.cell? ⟨go5, (x5_1 : Int).toNat * 4 + 2, none⟩ = some (.int .i64 ((rd_T37 y277 x5_1).f2)) := hcc7 2 _ rfl; have hx7_3 : w13.cell? ⟨go5, (x5_1 : Int).toNat * 4 + 3, none⟩ = some (.int .i64 ((rd_T37 y277 x5_1).f3)) := hcc7 3 _ rfl; have hf7_0 : w13.frozen? ⟨go5, (x5_1 : Int).toNat * 4, none⟩ = false := hfr7 0; have hf7_1 : w13.frozen? ⟨go5, (x5_1 : Int).toNat * 4 + 1, none⟩ = false := hfr7 1; have hf7_2 : w13.frozen? ⟨go5, (x5_1 : Int).toNat * 4 + 2, none⟩ = false := hfr7 2; have hf7_3 : w13.frozen? ⟨go5, (x5_1 : Int).toNat * 4 + 3, none⟩ = false := hfr7 3; clear hcl7 hcc7 hfr7 hM7; replace p7 := eq_true p7; replace q7 := eq_true q7; have HX14 := Aside0.mk (show Kd.R k37 37 w13 w0.heap.size (fun k_ => (P0_ k_ ∨ w.heap.size ≤ k_)) (.slice (some ⟨go5, 0, none⟩) x0_1.length a2) y277 from a0.out); obtain ⟨ce14, hcl14, hM14, hcc14, hfr14⟩ := Kd.R_elem HX14.out z37 (x5_1 : Int) (of_decide_eq_true (by first | (with_reducible assumption) | assumption)) (by have h_ : (x5_1 : Int) < ((x0_1.length : Int) : Int) := of_decide_eq_true (by first | (with_reducible assumption) | assumption); first | exact h_ | (have e_ := (Kd.R_reads' a0.out).1; omega) | simpa using h_); obtain rfl := k37_openM hM14; have HP14 := Kd.R_seg HX14.out (x5_1 : Int) (of_decide_eq_true (by first | (with_reducible assumption) | assumption)) (by have h_ : (x5_1 : Int) < ((x0_1.length : Int) : Int) := of_decide_eq_true (by first | (with_reducible assumption) | assumption); first | exact h_ | (have e_ := (Kd.R_reads' a0.out).1; omega) | simpa using h_) (seg := [.int .i64 (wrap64 ((wrap64 (x1_1 + 1)) + 1))]) (j := 2) hcl14 hcc14 (show 3 ≤ 4 from by decide) (x' := (⟨(rd_T37 y277 x5_1).f0, (rd_T37 y277 x5_1).f1, wrap64 ((wrap64 (x1_1 + 1)) + 1), (rd_T37 y277 x5_1).f3⟩ : S37)) (k37_mkM _ _ _ (⟨(rd_T37 y277 x5_1).f0, (rd_T37 y277 x5_1).f1, wrap64 ((wrap64 (x1_1 + 1)) + 1), (rd_T37 y277 x5_1).f3⟩ : S37) ) (fun _ hk => hk); have hx14_2 := hcc14 2 _ rfl; (try simp only [show (k37).sz = 4 from rfl, Nat.mul_one, Nat.add_zero] at hx14_2); have hf14_2 := hfr14 2; (try simp only [show (k37).sz = 4 from rfl, Nat.mul_one, Nat.add_zero] at hf14_2); clear hcl14 hcc14 hfr14 hM14) | ((with_reducible refine gate_store (t := 2) (p := 30) rfl ?_); refine store_event (t := 2) (p := 30) (v := ?vo_w15) (w1 := (w13.setCell ⟨go5, (x5_1 : Int).toNat * 4 + 2, none⟩ (.int .i64 (wrap64 ((wrap64 (x1_1 + 1)) + 1))))) ?hg ?ho ?hn ?hr ?_; (case ho => rfl); (case hg => rfl); (case hn => rfl); (case hr => first | (go_simp; done) | (go_simp; rfl)); intro w15 hw; have hg : w13.grownBy w15 (some go5) := (by rw [hw]; exact HP14.2); have hp_ : Kd.R k37 37 w15 w0.heap.size (fun k_ => (P0_ k_ ∨ w.heap.size ≤ k_)) (.slice (some ⟨go5, 0, none⟩) x0_1.length a2) y278 := (by rw [hw, a6.out]; exact HP14.1); clear HP14; have n0_ := Aside0.mk (hp_); have n1_ := Aside0.mk ((by rw [hw]; exact lS1_ (HB.out) a3.out : Below w0.heap.size w0 w15)); have n2_ := Aside0.mk (Kept.of_grown (S := (fun k_ => P0_ k_)) hg (by repeat (first | (with_reducible first | exact HK.out | apply Kept.alloc | apply Kept.drewN | apply Kept.drew) | exact HK.out)) (fun k_ e_ => (a0.out.1 k_ e_))); clear a0 HB HK; have a0 := n0_; have HB := n1_; have HK := n2_; clear n0_ n1_ n2_ hg hw hp_; have p8 : 0 ≤ (x5_1 : Int) := of_decide_eq_true (by first | (with_reducible assumption) | assumption); have q8 : (x5_1 : Int) < ((x0_1.length : Int) : Int) := of_decide_eq_true (by first | (with_reducible assumption) | assumption); obtain ⟨ce8, hcl8, hM8, hcc8, hfr8⟩ := Kd.R_elem a0.out z37 (x5_1 : Int) p8 q8; obtain rfl := k37_openM hM8; have hx8_0 : w15.cell? ⟨go5, (x5_1 : Int).toNat * 4, none⟩ = some (.int .i64 ((rd_T37 y278 x5_1).f0)) := hcc8 0 _ rfl; have hx8_1 : w15.cell? ⟨go5, (x5_1 : Int).toNat * 4 + 1, none⟩ = some (.int .i64 ((rd_T37 y278 x5_1).f1)) := hcc8 1 _ rfl; have hx8_2 : w15.cell? ⟨go5, (x5_1 : Int).toNat * 4 + 2, none⟩ = some (.int .i64 ((rd_T37 y278 x5_1).f2)) := hcc8 2 _ rfl; have hx8_3 : w15.cell? ⟨go5, (x5_1 : Int).toNat * 4 + 3, none⟩ = some (.int .i64 ((rd_T37 y278 x5_1).f3)) := hcc8 3 _ rfl; have hf8_0 : w15.frozen? ⟨go5, (x5_1 : Int).toNat * 4, none⟩ = false := hfr8 0; have hf8_1 : w15.frozen? ⟨go5, (x5_1 : Int).toNat * 4 + 1, none⟩ = false := hfr8 1; have hf8_2 : w15.frozen? ⟨go5, (x5_1 : Int).toNat * 4 + 2, none⟩ = false := hfr8 2; have hf8_3 : w15.frozen? ⟨go5, (x5_1 : Int).toNat * 4 + 3, none⟩ = false := hfr8 3; clear hcl8 hcc8 hfr8 hM8; replace p8 := eq_true p8; replace q8 := eq_true q8; have HX16 := Aside0.mk (show Kd.R k37 37 w15 w0.heap.size (fun k_ => (P0_ k_ ∨ w.heap.size ≤ k_)) (.slice (some ⟨go5, 0, none⟩) x0_1.length a2) y278 from a0.out); obtain ⟨ce16, hcl16, hM16, hcc16, hfr16⟩ := Kd.R_elem HX16.out z37 (x5_1 : Int) (of_decide_eq_true (by first | (with_reducible assumption) | assumption)) (by have h_ : (x5_1 : Int) < ((x0_1.length : Int) : Int) := of_decide_eq_true (by first | (with_reducible assumption) | assumption); first | exact h_ | (have e_ := (Kd.R_reads' a0.out).1; omega) | simpa using h_); obtain rfl := k37_openM hM16; have HP16 := Kd.R_seg HX16.out (x5_1 : Int) (of_decide_eq_true (by first | (with_reducible assumption) | assumption)) (by have h_ : (x5_1 : Int) < ((x0_1.length : Int) : Int) := of_decide_eq_true (by first | (with_reducible assumption) | assumption); first | exact h_ | (have e_ := (Kd.R_reads' a0.out).1; omega) | simpa using h_) (seg := [.int .i64 (wrap64 ((wrap64 ((wrap64 (x1_1 + 1)) + 1)) + 1))]) (j := 3) hcl16 hcc16 (show 4 ≤ 4 from by decide) (x' := (⟨(rd_T37 y278 x5_1).f0, (rd_T37 y278 x5_1).f1, (rd_T37 y278 x5_1).f2, wrap64 ((wrap64 ((wrap64 (x1_1 + 1)) + 1)) + 1)⟩ : S37)) (k37_mkM _ _ _ (⟨(rd_T37 y278 x5_1).f0, (rd_T37 y278 x5_1).f1, (rd_T37 y278 x5_1).f2, wrap64 ((wrap64 ((wrap64 (x1_1 + 1)) + 1)) + 1)⟩ : S37) ) (fun _ hk => hk); have hx16_3 := hcc16 3 _ rfl; (try simp only [show (k37).sz = 4 from rfl, Nat.mul_one, Nat.add_zero] at hx16_3); have hf16_3 := hfr16 3; (try simp only [show (k37).sz = 4 from rfl, Nat.mul_one, Nat.add_zero] at hf16_3); clear hcl16 hcc16 hfr16 hM16) | ((with_reducible refine gate_store (t := 2) (p := 37) rfl ?_); refine store_event (t := 2) (p := 37) (v := ?vo_w17) (w1 := (w15.setCell ⟨go5, (x5_1 : Int).toNat * 4 + 3, none⟩ (.int .i64 (wrap64 ((wrap64 ((wrap64 (x1_1 + 1)) + 1)) + 1))))) ?hg ?ho ?hn ?hr ?_; (case ho => rfl); (case hg => rfl); (case hn => rfl); (case hr => first | (go_simp; done) | (go_simp; rfl)); intro w17 hw; have hg : w15.grownBy w17 (some go5) := (by rw [hw]; exact HP16.2); have hp_ : Kd.R k37 37 w17 w0.heap.size (fun k_ => (P0_ k_ ∨ w.heap.size ≤ k_)) (.slice (some ⟨go5, 0, none⟩) x0_1.length a2) y279 := (by rw [hw, a7.out]; exact HP16.1); clear HP16; have n0_ := Aside0.mk (hp_); have n1_ := Aside0.mk ((by rw [hw]; exact lS1_ (HB.out) a3.out : Below w0.heap.size w0 w17)); have n2_ := Aside0.mk (Kept.of_grown (S := (fun k_ => P0_ k_)) hg (by repeat (first | (with_reducible first | exact HK.out | apply Kept.alloc | apply Kept.drewN | apply Kept.drew) | exact HK.out)) (fun k_ e_ => (a0.out.1 k_ e_))); clear a0 HB HK; have a0 := n0_; have HB := n1_; have HK := n2_; clear n0_ n1_ n2_ hg hw hp_))
     go_roundg k1
     case measure => have := HK1.out; omega
     case rel => exact ⟨(y279), (wrap64 ((wrap64 ((wrap64 ((wrap64 (x1_1 + 1)) + 1)) + 1)) + 1)), (wrap64 (x5_1 + 1)), (by first | rfl | (simp; done) | (simp [*]; done)), (by first | rfl | (simp; done) | (simp [*]; done)), H', ⟨by have := HK1.out; omega⟩, ⟨by (with_reducible repeat first | apply rA_ | apply rN_ | apply rD_); exact a0.out⟩, ⟨by repeat (first | (with_reducible first | exact HK.out | apply Kept.alloc | apply Kept.drewN | apply Kept.drew) | exact HK.out)⟩, ⟨by repeat (first | (with_reducible first | exact HB.out | apply lA1_ | apply lN_ | apply lD_) | exact HB.out)⟩⟩
    ·rw [if_neg c4] at H
     exact absurd H (by simp)
   ·rw [if_neg c3] at H
    have c3b0 : decide (x5_1 < (x0_1.length : Int)) = false := decide_eq_false c3
    clear c3
    simp only [Option.some.injEq, Prod.mk.injEq] at H
    obtain ⟨rfl, rfl⟩ := H
    obtain ⟨aa, ab, eo18⟩ := Kd.R_slice a0.out
    subst eo18
    go_wp2
    go_ret
    exact ⟨by first | rfl | (simp [errW_none, errW_some] <;> rfl) | (simp [*, errW_none, errW_some] <;> rfl), by (with_reducible repeat first | apply rA_ | apply rN_ | apply rD_); exact a0.out, by repeat (first | (with_reducible first | exact HB.out | apply lA1_ | apply lN_ | apply lD_) | exact HB.out), by repeat (first | (with_reducible first | exact HK.out | apply Kept.alloc | apply Kept.drewN | apply Kept.drew) | exact HK.out)⟩
def laws_markTermResult.f (k : Nat) (a0_0 : Int) (a0_1 : Int) (l0_2 : List (S37)) (a1 : Int) : Option (Int × (List (S37))) := (laws_markTermS.f k l0_2 a1).bind fun bt281 => (some (bt281.1, bt281.2))
set_option maxHeartbeats 8000000 in
set_option maxRecDepth 100000 in
theorem laws_markTermResult.calls (k : Nat) (a0_0 : Int) (a0_1 : Int) (P0_2_ : Nat → Prop) (u9000_ : Value) (l0_2 : List (S37)) (a1 : Int) (r1 : Int) (r2 : List (S37)) (w0 w : World) (hB : Below w0.heap.size w0 w) (ho0_2 : Kd.R k37 37 w w0.heap.size P0_2_ u9000_ l0_2) (h : laws_markTermResult.f k a0_0 a0_1 l0_2 a1 = some (r1, r2)) :
  Calls Try.prog 11 #[.agg #[.int .i64 a0_0, .int .i64 a0_1, u9000_], .int .i64 a1] w fun e w' => e = .returned (.int .i64 r1) ∧ Kd.R k37 37 w' w0.heap.size (fun k_ => (P0_2_ k_ ∨ w.heap.size ≤ k_)) u9000_ r2 ∧ Below w0.heap.size w0 w' ∧ Kept w w' (fun k_ => P0_2_ k_) := by
 have hu26 := Try.underlying26
 have HO0_2 := Aside0.mk (show Kd.R k37 37 w w0.heap.size (fun k_ => (P0_2_ k_ ∨ w.heap.size ≤ k_)) u9000_ l0_2 from Kd.R_mono ho0_2 (fun k_ hk => (.inl hk)))
 have HK := Aside0.mk (Kept.refl w (fun k_ => P0_2_ k_))
 have HW0 := Aside0.mk hB.size
 have HB := Aside0.mk hB
 clear hB
 have H : ((laws_markTermS.f k l0_2 a1).bind fun bt281 => (some (bt281.1, bt281.2))) = some (r1, r2) := h
 clear h
 replace H := Option.bind_eq_some_iff.mp H
 obtain ⟨⟨t281, t282⟩, A30, H⟩ := H
 try dsimp only at H
 have A3 := Aside0.mk A30
 clear A30
 simp only [Option.some.injEq, Prod.mk.injEq] at H
 obtain ⟨rfl, rfl⟩ := H
 obtain ⟨Ao4, co4, eo4⟩ := Kd.R_slice HO0_2.out
 subst eo4
 go_enter Try.func11, Try.ntmps11
 go_wp2_with (first | ((with_reducible refine gate_dst (N := 2) rfl ?_); refine box_event ?hg (N := 2) ?hd (cs := #[.int .i64 a0_0, .int .i64 a0_1, .slice Ao4 l0_2.length co4]) (t := 26) ?hr ?_; (case hd => rfl); (case hg => rfl); (case hr => first | (go_simp; done) | (go_simp; rfl)); intro gb280 hg w5 hbox hb; have n0_ := Aside0.mk (Kd.R_below HO0_2.out hb); have n1_ := Aside0.mk (Kept.below (S := (fun k_ => P0_2_ k_)) (by repeat (first | (with_reducible first | exact HK.out | apply Kept.alloc | apply Kept.drewN | apply Kept.drew) | exact HK.out)) hb); have n2_ := Aside0.mk (lP_ HB.out hb); have n3_ := Aside0.mk (hbox); have n4_ := Aside0.mk ((by rw [hg]; exact (by first | exact HK.out.1 | exact (show Kept w _ (fun k_ => P0_2_ k_) from by repeat (first | (with_reducible first | exact HK.out | apply Kept.alloc | apply Kept.drewN | apply Kept.drew) | exact HK.out)).1) : w.heap.size ≤ gb280)); have n5_ := Aside0.mk ((by rw [hg]; exact (below_size HB.out) : w0.heap.size ≤ gb280)); clear HO0_2 HK HB; have HO0_2 := n0_; have HK := n1_; have HB := n2_; have BK280 := n3_; have GW280 := n4_; have GE280 := n5_; clear n0_ n1_ n2_ n3_ n4_ n5_ hb hbox hg; obtain ⟨_, _, _, _, _, _⟩ := bc3 BK280.out) | ((with_reducible refine gate_callee (f := 10) rfl ?_); refine goesA_ (some 8) rfl rfl Try.func10 (by kernel_rfl) rfl #[.slice Ao4 l0_2.length co4, .int .i64 a1] rfl ?_; (with_reducible refine (laws_markTermS.calls k (fun k_ => some k_ = (.slice Ao4 l0_2.length co4 : Value).ownBlock) (.slice Ao4 l0_2.length co4) l0_2 a1 t281 t282 w0 _ ?side1 ?side2 A3.out).mono ?_); (case side1 => repeat (first | (with_reducible first | exact HB.out | refine lS1_ ?_ GE280.out) | exact HB.out)); (case side2 => exact Kd.R_tight rfl HO0_2.out); rintro e w7 ⟨rfl, hy0, hb, hkp⟩; refine ⟨_, rfl, ?_⟩; have n0_ := Aside0.mk (Kd.R_reok rfl hy0 (fun k_ e_ => HO0_2.out.1 k_ e_)); have n2_ := Aside0.mk (Kept.then_ (S := (fun k_ => P0_2_ k_)) (by repeat (first | (with_reducible first | exact HK.out | apply Kept.alloc | apply Kept.drewN | apply Kept.drew | refine Kept.setCell ?_ (.inr GW280.out) _) | exact HK.out)) hkp (fun k_ hs_ => (fun e_ => (HO0_2.out.1 k_ e_.symm)) hs_)); have n3_ := Aside0.mk (hb); clear HO0_2 HK HB; have HO0_2 := n0_; have HK := n2_; have HB := n3_; clear n0_ n2_ n3_; (try clear hb); (try clear hkp); (try clear hy0)))
 go_ret
 exact ⟨by first | rfl | (simp [errW_none, errW_some] <;> rfl) | (simp [*, errW_none, errW_some] <;> rfl), by (with_reducible repeat first | apply rA_ | apply rN_ | apply rD_); exact HO0_2.out, by repeat (first | (with_reducible first | exact HB.out | apply lA1_ | apply lN_ | apply lD_ | refine lS1_ ?_ GE280.out) | exact HB.out), by repeat (first | (with_reducible first | exact HK.out | apply Kept.alloc | apply Kept.drewN | apply Kept.drew | refine Kept.setCell ?_ (.inr GW280.out) _) | exact HK.out)⟩
def laws_heldTermS.l0 : Nat → List (S37) → Int → Int → Option (Int)
 | 0, _, _, _ => none
 | k + 1, x0, x1, x5 => if x5 < (x0.length : Int) then (if 0 ≤ x5 then (if ((rd_T37 x0 x5).f0) = x1 then (if ((rd_T37 x0 x5).f1) = (wrap64 (x1 + 1)) then (if ((rd_T37 x0 x5).f2) = (wrap64 ((wrap64 (x1 + 1)) + 1)) then (if ((rd_T37 x0 x5).f3) = (wrap64 ((wrap64 ((wrap64 (x1 + 1)) + 1)) + 1)) then (laws_heldTermS.l0 k x0 (wrap64 ((wrap64 ((wrap64 ((wrap64 (x1 + 1)) + 1)) + 1)) + 1)) (wrap64 (x5 + 1))) else (some (-1))) else (some (-1))) else (some (-1))) else (some (-1))) else (none)) else (some x1)
def laws_heldTermS.f (k : Nat) (l0 : List (S37)) (a1 : Int) : Option (Int) := laws_heldTermS.l0 k l0 a1 0
set_option maxHeartbeats 8000000 in
set_option maxRecDepth 100000 in
theorem laws_heldTermS.calls (k : Nat) (A0 : Option Addr) (c0 : Nat) (l0 : List (S37)) (a1 : Int) (r : Int) (w : World) (hr0 : Kd.C k37 w A0 l0.length l0) (hc0 : l0.length ≤ c0) (h : laws_heldTermS.f k l0 a1 = some r) :
  Calls Try.prog 27 #[.slice A0 l0.length c0, .int .i64 a1] w fun e w' => e = .returned (.int .i64 r) ∧ Drawn0 w w' := by
 have a0 := Aside0.mk hr0
 have a2 := Aside0.mk hc0
 clear hr0 hc0
 have H : (laws_heldTermS.l0 k l0 a1 0) = some r := h
 clear h
 have H' := Aside0.mk H
 clear H
 go_enter Try.func27, Try.ntmps27
 go_wp2
 go_loopg [1, 5] k (fun kq v1 v5 w' => ∃ (x1_1 : Int) (x5_1 : Int), v1 = .int .i64 x1_1 ∧ v5 = .int .i64 x5_1 ∧ Aside0 (laws_heldTermS.l0 kq l0 x1_1 x5_1 = some r) ∧ Aside0 (kq ≤ k) ∧ Drawn0 w w')
 case atStart => exact ⟨(a1), (0), (by first | rfl | (simp; done) | (simp [*]; done)), (by first | rfl | (simp; done) | (simp [*]; done)), H', ⟨Nat.le_refl _⟩, by repeat (first | exact Drawn0.refl _ | apply Drawn0.step)⟩
 case round =>
  clear H'
  try clear c2
  try clear p2
  obtain ⟨x1_1, x5_1, rfl, rfl, HA, HK1, ⟨m1, rfl⟩⟩ := hrel
  cases gk with
  | zero => exact absurd HA.out (by simp [laws_heldTermS.l0])
  | succ k1 =>
   have H := HA.out
   clear HA
   simp only [laws_heldTermS.l0] at H
   by_cases c3 : x5_1 < (l0.length : Int)
   ·rw [if_pos c3] at H
    have c3b0 : decide (x5_1 < (l0.length : Int)) = true := decide_eq_true c3
    clear c3
    by_cases c4 : 0 ≤ x5_1
    ·rw [if_pos c4] at H
     have c4b0 : decide (0 ≤ x5_1) = true := decide_eq_true c4
     clear c4
     by_cases c5 : ((rd_T37 l0 x5_1).f0) = x1_1
     ·rw [if_pos c5] at H
      have c5b0 : (((rd_T37 l0 x5_1).f0) == x1_1) = true := beq_iff_eq.mpr c5
      have c5b1 : (((rd_T37 l0 x5_1).f0) != x1_1) = false := bne_eq_false_iff_eq.mpr c5
      clear c5
      by_cases c6 : ((rd_T37 l0 x5_1).f1) = (wrap64 (x1_1 + 1))
      ·rw [if_pos c6] at H
       have c6b0 : (((rd_T37 l0 x5_1).f1) == (wrap64 (x1_1 + 1))) = true := beq_iff_eq.mpr c6
       have c6b1 : (((rd_T37 l0 x5_1).f1) != (wrap64 (x1_1 + 1))) = false := bne_eq_false_iff_eq.mpr c6
       clear c6
       by_cases c7 : ((rd_T37 l0 x5_1).f2) = (wrap64 ((wrap64 (x1_1 + 1)) + 1))
       ·rw [if_pos c7] at H
        have c7b0 : (((rd_T37 l0 x5_1).f2) == (wrap64 ((wrap64 (x1_1 + 1)) + 1))) = true := beq_iff_eq.mpr c7
        have c7b1 : (((rd_T37 l0 x5_1).f2) != (wrap64 ((wrap64 (x1_1 + 1)) + 1))) = false := bne_eq_false_iff_eq.mpr c7
        clear c7
        by_cases c8 : ((rd_T37 l0 x5_1).f3) = (wrap64 ((wrap64 ((wrap64 (x1_1 + 1)) + 1)) + 1))
        ·rw [if_pos c8] at H
         have c8b0 : (((rd_T37 l0 x5_1).f3) == (wrap64 ((wrap64 ((wrap64 (x1_1 + 1)) + 1)) + 1))) = true := beq_iff_eq.mpr c8
         have c8b1 : (((rd_T37 l0 x5_1).f3) != (wrap64 ((wrap64 ((wrap64 (x1_1 + 1)) + 1)) + 1))) = false := bne_eq_false_iff_eq.mpr c8
         clear c8
         have H' := Aside0.mk H
         clear H
         have p283 : 0 ≤ (x5_1 : Int) := of_decide_eq_true (by first | (with_reducible assumption) | assumption)
         have q283 : x5_1 < (l0.length : Int) := of_decide_eq_true (by first | (with_reducible assumption) | assumption)
         obtain ⟨ad283, e283, hx283_0, hx283_1, hx283_2, hx283_3⟩ := at_T37 a0.out x5_1 p283 q283
         cases e283
         replace p283 := eq_true p283
         replace q283 := eq_true q283
         have p284 : 0 ≤ (x5_1 : Int) := of_decide_eq_true (by first | (with_reducible assumption) | assumption)
         have q284 : x5_1 < (l0.length : Int) := of_decide_eq_true (by first | (with_reducible assumption) | assumption)
         obtain ⟨ad284, e284, hx284_0, hx284_1, hx284_2, hx284_3⟩ := at_T37 a0.out x5_1 p284 q284
         obtain rfl : ad283 = ad284 := (by injection e284)
         replace p284 := eq_true p284
         replace q284 := eq_true q284
         have p285 : 0 ≤ (x5_1 : Int) := of_decide_eq_true (by first | (with_reducible assumption) | assumption)
         have q285 : x5_1 < (l0.length : Int) := of_decide_eq_true (by first | (with_reducible assumption) | assumption)
         obtain ⟨ad285, e285, hx285_0, hx285_1, hx285_2, hx285_3⟩ := at_T37 a0.out x5_1 p285 q285
         obtain rfl : ad283 = ad285 := (by injection e285)
         replace p285 := eq_true p285
         replace q285 := eq_true q285
         have p286 : 0 ≤ (x5_1 : Int) := of_decide_eq_true (by first | (with_reducible assumption) | assumption)
         have q286 : x5_1 < (l0.length : Int) := of_decide_eq_true (by first | (with_reducible assumption) | assumption)
         obtain ⟨ad286, e286, hx286_0, hx286_1, hx286_2, hx286_3⟩ := at_T37 a0.out x5_1 p286 q286
         obtain rfl : ad283 = ad286 := (by injection e286)
         replace p286 := eq_true p286
         replace q286 := eq_true q286
         go_wp2
         go_roundg k1
         case measure => have := HK1.out; omega
         case rel => exact ⟨(wrap64 ((wrap64 ((wrap64 ((wrap64 (x1_1 + 1)) + 1)) + 1)) + 1)), (wrap64 (x5_1 + 1)), (by first | rfl | (simp; done) | (simp [*]; done)), (by first | rfl | (simp; done) | (simp [*]; done)), H', ⟨by have := HK1.out; omega⟩, by repeat (first | exact Drawn0.refl _ | apply Drawn0.step)⟩
        ·rw [if_neg c8] at H
         have c8b0 : (((rd_T37 l0 x5_1).f3) == (wrap64 ((wrap64 ((wrap64 (x1_1 + 1)) + 1)) + 1))) = false := beq_eq_false_iff_ne.mpr c8
         have c8b1 : (((rd_T37 l0 x5_1).f3) != (wrap64 ((wrap64 ((wrap64 (x1_1 + 1)) + 1)) + 1))) = true := bne_iff_ne.mpr c8
         obtain rfl := Option.some.inj H
         have p283 : 0 ≤ (x5_1 : Int) := of_decide_eq_true (by first | (with_reducible assumption) | assumption)
         have q283 : x5_1 < (l0.length : Int) := of_decide_eq_true (by first | (with_reducible assumption) | assumption)
         obtain ⟨ad283, e283, hx283_0, hx283_1, hx283_2, hx283_3⟩ := at_T37 a0.out x5_1 p283 q283
         cases e283
         replace p283 := eq_true p283
         replace q283 := eq_true q283
         have p284 : 0 ≤ (x5_1 : Int) := of_decide_eq_true (by first | (with_reducible assumption) | assumption)
         have q284 : x5_1 < (l0.length : Int) := of_decide_eq_true (by first | (with_reducible assumption) | assumption)
         obtain ⟨ad284, e284, hx284_0, hx284_1, hx284_2, hx284_3⟩ := at_T37 a0.out x5_1 p284 q284
         obtain rfl : ad283 = ad284 := (by injection e284)
         replace p284 := eq_true p284
         replace q284 := eq_true q284
         have p285 : 0 ≤ (x5_1 : Int) := of_decide_eq_true (by first | (with_reducible assumption) | assumption)
         have q285 : x5_1 < (l0.length : Int) := of_decide_eq_true (by first | (with_reducible assumption) | assumption)
         obtain ⟨ad285, e285, hx285_0, hx285_1, hx285_2, hx285_3⟩ := at_T37 a0.out x5_1 p285 q285
         obtain rfl : ad283 = ad285 := (by injection e285)
         replace p285 := eq_true p285
         replace q285 := eq_true q285
         have p286 : 0 ≤ (x5_1 : Int) := of_decide_eq_true (by first | (with_reducible assumption) | assumption)
         have q286 : x5_1 < (l0.length : Int) := of_decide_eq_true (by first | (with_reducible assumption) | assumption)
         obtain ⟨ad286, e286, hx286_0, hx286_1, hx286_2, hx286_3⟩ := at_T37 a0.out x5_1 p286 q286
         obtain rfl : ad283 = ad286 := (by injection e286)
         replace p286 := eq_true p286
         replace q286 := eq_true q286
         go_wp2
         go_ret
         exact ⟨by first | rfl | (simp; done) | (simp [*]; done), by repeat (first | exact Drawn0.refl _ | apply Drawn0.step)⟩
       ·rw [if_neg c7] at H
        have c7b0 : (((rd_T37 l0 x5_1).f2) == (wrap64 ((wrap64 (x1_1 + 1)) + 1))) = false := beq_eq_false_iff_ne.mpr c7
        have c7b1 : (((rd_T37 l0 x5_1).f2) != (wrap64 ((wrap64 (x1_1 + 1)) + 1))) = true := bne_iff_ne.mpr c7
        obtain rfl := Option.some.inj H
        have p283 : 0 ≤ (x5_1 : Int) := of_decide_eq_true (by first | (with_reducible assumption) | assumption)
        have q283 : x5_1 < (l0.length : Int) := of_decide_eq_true (by first | (with_reducible assumption) | assumption)
        obtain ⟨ad283, e283, hx283_0, hx283_1, hx283_2, hx283_3⟩ := at_T37 a0.out x5_1 p283 q283
        cases e283
        replace p283 := eq_true p283
        replace q283 := eq_true q283
        have p284 : 0 ≤ (x5_1 : Int) := of_decide_eq_true (by first | (with_reducible assumption) | assumption)
        have q284 : x5_1 < (l0.length : Int) := of_decide_eq_true (by first | (with_reducible assumption) | assumption)
        obtain ⟨ad284, e284, hx284_0, hx284_1, hx284_2, hx284_3⟩ := at_T37 a0.out x5_1 p284 q284
        obtain rfl : ad283 = ad284 := (by injection e284)
        replace p284 := eq_true p284
        replace q284 := eq_true q284
        have p285 : 0 ≤ (x5_1 : Int) := of_decide_eq_true (by first | (with_reducible assumption) | assumption)
        have q285 : x5_1 < (l0.length : Int) := of_decide_eq_true (by first | (with_reducible assumption) | assumption)
        obtain ⟨ad285, e285, hx285_0, hx285_1, hx285_2, hx285_3⟩ := at_T37 a0.out x5_1 p285 q285
        obtain rfl : ad283 = ad285 := (by injection e285)
        replace p285 := eq_true p285
        replace q285 := eq_true q285
        go_wp2
        go_ret
        exact ⟨by first | rfl | (simp; done) | (simp [*]; done), by repeat (first | exact Drawn0.refl _ | apply Drawn0.step)⟩
      ·rw [if_neg c6] at H
       have c6b0 : (((rd_T37 l0 x5_1).f1) == (wrap64 (x1_1 + 1))) = false := beq_eq_false_iff_ne.mpr c6
       have c6b1 : (((rd_T37 l0 x5_1).f1) != (wrap64 (x1_1 + 1))) = true := bne_iff_ne.mpr c6
       obtain rfl := Option.some.inj H
       have p283 : 0 ≤ (x5_1 : Int) := of_decide_eq_true (by first | (with_reducible assumption) | assumption)
       have q283 : x5_1 < (l0.length : Int) := of_decide_eq_true (by first | (with_reducible assumption) | assumption)
       obtain ⟨ad283, e283, hx283_0, hx283_1, hx283_2, hx283_3⟩ := at_T37 a0.out x5_1 p283 q283
       cases e283
       replace p283 := eq_true p283
       replace q283 := eq_true q283
       have p284 : 0 ≤ (x5_1 : Int) := of_decide_eq_true (by first | (with_reducible assumption) | assumption)
       have q284 : x5_1 < (l0.length : Int) := of_decide_eq_true (by first | (with_reducible assumption) | assumption)
       obtain ⟨ad284, e284, hx284_0, hx284_1, hx284_2, hx284_3⟩ := at_T37 a0.out x5_1 p284 q284
       obtain rfl : ad283 = ad284 := (by injection e284)
       replace p284 := eq_true p284
       replace q284 := eq_true q284
       go_wp2
       go_ret
       exact ⟨by first | rfl | (simp; done) | (simp [*]; done), by repeat (first | exact Drawn0.refl _ | apply Drawn0.step)⟩
     ·rw [if_neg c5] at H
      have c5b0 : (((rd_T37 l0 x5_1).f0) == x1_1) = false := beq_eq_false_iff_ne.mpr c5
      have c5b1 : (((rd_T37 l0 x5_1).f0) != x1_1) = true := bne_iff_ne.mpr c5
      obtain rfl := Option.some.inj H
      have p283 : 0 ≤ (x5_1 : Int) := of_decide_eq_true (by first | (with_reducible assumption) | assumption)
      have q283 : x5_1 < (l0.length : Int) := of_decide_eq_true (by first | (with_reducible assumption) | assumption)
      obtain ⟨ad283, e283, hx283_0, hx283_1, hx283_2, hx283_3⟩ := at_T37 a0.out x5_1 p283 q283
      cases e283
      replace p283 := eq_true p283
      replace q283 := eq_true q283
      go_wp2
      go_ret
      exact ⟨by first | rfl | (simp; done) | (simp [*]; done), by repeat (first | exact Drawn0.refl _ | apply Drawn0.step)⟩
    ·rw [if_neg c4] at H
     exact absurd H (by simp)
   ·rw [if_neg c3] at H
    have c3b0 : decide (x5_1 < (l0.length : Int)) = false := decide_eq_false c3
    clear c3
    obtain rfl := Option.some.inj H
    go_wp2
    go_ret
    exact ⟨by first | rfl | (simp; done) | (simp [*]; done), by repeat (first | exact Drawn0.refl _ | apply Drawn0.step)⟩
def laws_heldTermResult.f (k : Nat) (a0_0 : Int) (a0_1 : Int) (l0_2 : List (S37)) (a1 : Int) : Option (Int) := (laws_heldTermS.f k l0_2 a1).bind fun t288 => (if t288 < 0 then (some (-1)) else (some t288))
set_option maxHeartbeats 8000000 in
set_option maxRecDepth 100000 in
theorem laws_heldTermResult.calls (k : Nat) (a0_0 : Int) (a0_1 : Int) (A0_2 : Option Addr) (c0_2 : Nat) (l0_2 : List (S37)) (a1 : Int) (r : Int) (w : World) (hr0_2 : Kd.C k37 w A0_2 l0_2.length l0_2) (hc0_2 : l0_2.length ≤ c0_2) (h : laws_heldTermResult.f k a0_0 a0_1 l0_2 a1 = some r) :
  Calls Try.prog 12 #[.agg #[.int .i64 a0_0, .int .i64 a0_1, .slice A0_2 l0_2.length c0_2], .int .i64 a1] w fun e w' => e = .returned (.int .i64 r) ∧ Below w.heap.size w w' := by
 have hu26 := Try.underlying26
 have HR0_2 := Aside0.mk hr0_2
 have HC0_2 := Aside0.mk hc0_2
 clear hr0_2 hc0_2
 have HB := Aside0.mk (Below.refl w.heap.size w)
 have H : ((laws_heldTermS.f k l0_2 a1).bind fun t288 => (if t288 < 0 then (some (-1)) else (some t288))) = some r := h
 clear h
 replace H := Option.bind_eq_some_iff.mp H
 obtain ⟨t288, A30, H⟩ := H
 try dsimp only at H
 have A3 := Aside0.mk A30
 clear A30
 by_cases c4 : t288 < 0
 ·rw [if_pos c4] at H
  have c4b0 : decide (t288 < 0) = true := decide_eq_true c4
  clear c4
  obtain rfl := Option.some.inj H
  go_enter Try.func12, Try.ntmps12
  go_wp2_with (first | ((with_reducible refine gate_dst (N := 2) rfl ?_); refine box_event ?hg (N := 2) ?hd (cs := #[.int .i64 a0_0, .int .i64 a0_1, .slice A0_2 l0_2.length c0_2]) (t := 26) ?hr ?_; (case hd => rfl); (case hg => rfl); (case hr => first | (go_simp; done) | (go_simp; rfl)); intro gb287 hg w5 hbox hb; have n0_ := Aside0.mk (lP_ HB.out hb); have n1_ := Aside0.mk (hbox); have n3_ := Aside0.mk ((by rw [hg]; exact (below_size HB.out) : w.heap.size ≤ gb287)); clear HB; have HB := n0_; have BK287 := n1_; have GE287 := n3_; clear n0_ n1_ n3_ hb hbox hg; obtain ⟨_, _, _, _, _, _⟩ := bc3 BK287.out) | ((with_reducible refine gate_callee (f := 27) rfl ?_); refine goesA_ (some 8) rfl rfl Try.func27 (by kernel_rfl) rfl #[.slice A0_2 l0_2.length c0_2, .int .i64 a1] rfl ?_; (with_reducible refine (laws_heldTermS.calls k _ _ l0_2 a1 t288 _ ?side1 ?side2 A3.out).mono ?_); (case side1 => repeat (first | exact (Kd.C_below HR0_2.out HB.out) | (with_reducible refine Kd.C_alloc ?_ _) | (with_reducible refine Kd.C_drewN ?_ _) | (with_reducible refine Kd.C_drew ?_))); (case side2 => exact HC0_2.out); rintro e w' ⟨rfl, ⟨nd, rfl⟩⟩; refine ⟨_, rfl, ?_⟩))
  go_ret
  exact ⟨by first | rfl | (simp [errW_none, errW_some] <;> rfl) | (simp [*, errW_none, errW_some] <;> rfl), by repeat (first | (with_reducible first | exact HB.out | apply lA1_ | apply lN_ | apply lD_ | refine lS1_ ?_ GE287.out) | exact HB.out)⟩
 ·rw [if_neg c4] at H
  have c4b0 : decide (t288 < 0) = false := decide_eq_false c4
  clear c4
  obtain rfl := Option.some.inj H
  go_enter Try.func12, Try.ntmps12
  go_wp2_with (first | ((with_reducible refine gate_dst (N := 2) rfl ?_); refine box_event ?hg (N := 2) ?hd (cs := #[.int .i64 a0_0, .int .i64 a0_1, .slice A0_2 l0_2.length c0_2]) (t := 26) ?hr ?_; (case hd => rfl); (case hg => rfl); (case hr => first | (go_simp; done) | (go_simp; rfl)); intro gb287 hg w7 hbox hb; have n0_ := Aside0.mk (lP_ (by repeat (first | (with_reducible first | exact HB.out | apply lA1_ | apply lN_ | apply lD_) | exact HB.out)) hb); have n1_ := Aside0.mk (hbox); have n3_ := Aside0.mk ((by rw [hg]; exact (below_size (by repeat (first | (with_reducible first | exact HB.out | apply lA1_ | apply lN_ | apply lD_) | exact HB.out))) : w.heap.size ≤ gb287)); clear HB; have HB := n0_; have BK287 := n1_; have GE287 := n3_; clear n0_ n1_ n3_ hb hbox hg; obtain ⟨_, _, _, _, _, _⟩ := bc3 BK287.out) | ((with_reducible refine gate_callee (f := 27) rfl ?_); refine goesA_ (some 8) rfl rfl Try.func27 (by kernel_rfl) rfl #[.slice A0_2 l0_2.length c0_2, .int .i64 a1] rfl ?_; (with_reducible refine (laws_heldTermS.calls k _ _ l0_2 a1 t288 _ ?side1 ?side2 A3.out).mono ?_); (case side1 => repeat (first | exact (Kd.C_below HR0_2.out HB.out) | (with_reducible refine Kd.C_alloc ?_ _) | (with_reducible refine Kd.C_drewN ?_ _) | (with_reducible refine Kd.C_drew ?_))); (case side2 => exact HC0_2.out); rintro e w' ⟨rfl, ⟨nd, rfl⟩⟩; refine ⟨_, rfl, ?_⟩))
  go_ret
  exact ⟨by first | rfl | (simp [errW_none, errW_some] <;> rfl) | (simp [*, errW_none, errW_some] <;> rfl), by repeat (first | (with_reducible first | exact HB.out | apply lA1_ | apply lN_ | apply lD_ | refine lS1_ ?_ GE287.out) | exact HB.out)⟩
end Go.Proofs.Ytpagejjjfpkmcaa.G
