/- FnExactMissingIn: for every input the law returns true and its arguments read afterwards as they read before. No condition. -/
import Derived.Test.YtalkfdedbacidaaCFnExactMissingIn3
import Derived.Test.YtalkfdedbacidaaRows
import Derived.WalkKit
import Derived.ProofKit
import Derived.OpenShut
import Derived.ShutString
import Derived.ChangeOld
import Derived.Below
import Derived.SizedLaws
/- Gx90 -/
namespace Go.Proofs.Ytalkfdedbacidaa.G
open Go.RowKit Go.Proofs.YtalkfdedbacidaaW.PrintWords Go.Proofs.YtalkfdedbacidaaW.PrintLast Go.Proofs.YtalkfdedbacidaaW.PrintMore
attribute [local go_sem] max2_int min2_int max_two min_two max_three min_three max_four min_four   -- for this text's walks alone
set_option linter.unusedVariables false
set_option linter.unusedSimpArgs false

/-! ### spec_TakeAll: function 55 -/
def spec_TakeAll.l0 : Nat → List Int → Int → Int → Int → Int → List Int → Option (Int × List Int)
  | 0, _, _, _, _, _, _ => none
  | k + 1, x1, x7, x586000, x586001, x589000, x589001 => if x7 < (x1.length : Int) then (if 0 ≤ x7 then ((spec_l10Take.f x586000 x586001 (rd x1 x7)).bind fun bt590 => (if bt590.1 = 0 then (if x589001.length < 17592186044416 then (spec_TakeAll.l0 k x1 (wrap64 (x7 + 1)) bt590.2.2.1 bt590.2.2.2 x589000 (x589001 ++ [rd x1 x7])) else (none)) else (spec_TakeAll.l0 k x1 (wrap64 (x7 + 1)) x586000 x586001 x589000 x589001))) else (none)) else (some (x589000, x589001))
def spec_TakeAll.f (k : Nat) (a0_0 : Int) (a0_1 : Int) (l1 : List Int) : Option (Int × List Int) := (spec_WindowFault.f k a0_0 a0_1).bind fun t587 => (if t587 = 0 then (if (l1.length : Int) > 100 then (some (2, ([] : List Int))) else (spec_TakeAll.l0 k l1 0 a0_0 a0_1 0 ([] : List Int))) else (some (t587, ([] : List Int))))
theorem spec_TakeAll.mono_l : ∀ k, (∀ y0 y1 y2 y3 y4 y5, LeO (spec_TakeAll.l0 k y0 y1 y2 y3 y4 y5) (spec_TakeAll.l0 (k + 1) y0 y1 y2 y3 y4 y5))
  | 0 => fun _ _ _ _ _ _ r h => by simp [spec_TakeAll.l0] at h
  | k + 1 => by
    have ih0 := spec_TakeAll.mono_l k
    · intro y0 y1 y2 y3 y4 y5
      unfold spec_TakeAll.l0
      repeat' first
      | (with_reducible exact ih0 _ _ _ _ _ _)
      | (with_reducible exact spec_WindowFault.mono _ _ _)
      | (with_reducible exact LeO.refl _)
      | (with_reducible exact LeO.none _)
      | (with_reducible refine LeO.ite ?_ ?_)
      | (with_reducible refine LeO.bind ?_ (fun _ => ?_))
      | exact ih0 _ _ _ _ _ _
      | exact spec_WindowFault.mono _ _ _
      | exact LeO.none _
      | refine LeO.ite ?_ ?_
      | refine LeO.bind ?_ (fun _ => ?_)
theorem spec_TakeAll.mono : ∀ a0 a1 a2 k, LeO (spec_TakeAll.f k a0 a1 a2) (spec_TakeAll.f (k + 1) a0 a1 a2) := by
  intro a0 a1 a2 k
  have ih0 := spec_TakeAll.mono_l k
  unfold spec_TakeAll.f
  repeat' first
      | (with_reducible exact ih0 _ _ _ _ _ _)
      | (with_reducible exact spec_WindowFault.mono _ _ _)
      | (with_reducible exact LeO.refl _)
      | (with_reducible exact LeO.none _)
      | (with_reducible refine LeO.ite ?_ ?_)
      | (with_reducible refine LeO.bind ?_ (fun _ => ?_))
      | exact ih0 _ _ _ _ _ _
      | exact spec_WindowFault.mono _ _ _
      | exact LeO.none _
      | refine LeO.ite ?_ ?_
      | refine LeO.bind ?_ (fun _ => ?_)
def spec_TakeAll.T10 : Bool × List (List Nat × List Nat) := (true, [([], []), ([], []), ([], []), ([1, 2], [1, 2]), ([3], [3]), ([0, 4], [0, 4]), ([], []), ([6, 5, 5, 0, 1, 2, 3, 4, 5, 6], [5, 6])])
def spec_TakeAll.B10 : List Nat := [0, 0, 0, 6, 14, 31, 0, 127]
theorem spec_TakeAll.tab10 : rtab .any (opsOf Try.f55 10) = spec_TakeAll.T10 := by kernel_rfl
theorem spec_TakeAll.bits10 : waitsOk spec_TakeAll.T10.2 spec_TakeAll.B10 = true := by kernel_rfl
def spec_TakeAll.T13 : Bool × List (List Nat × List Nat) := (true, [([], []), ([0], [0]), ([], []), ([], []), ([2, 3], [2, 3]), ([4], [4]), ([5], [5]), ([1, 6], [1, 6]), ([0, 1, 2, 3, 4, 5, 6, 7], []), ([8, 7, 7, 0, 1, 2, 3, 4, 5, 6, 7], [7, 8])])
def spec_TakeAll.B13 : List Nat := [0, 1, 0, 0, 12, 28, 60, 127, 255, 511]
theorem spec_TakeAll.tab13 : rtab .any (opsOf Try.f55 13) = spec_TakeAll.T13 := by kernel_rfl
theorem spec_TakeAll.bits13 : waitsOk spec_TakeAll.T13.2 spec_TakeAll.B13 = true := by kernel_rfl
set_option maxHeartbeats 8000000 in
set_option maxRecDepth 100000 in
theorem spec_TakeAll.calls (k : Nat) (a0_0 : Int) (a0_1 : Int) (A1 : Option Addr) (c1 : Nat) (l1 : List Int) (r1 : Int) (r2 : List Int) (w : World) (hr1 : Kd.C (Kd.int .i64) w A1 l1.length l1) (hc1 : l1.length ≤ c1) (h : spec_TakeAll.f k a0_0 a0_1 l1 = some (r1, r2)) :
    Calls Try.prog 55 #[.agg #[.int .i64 a0_0, .int .i64 a0_1], .slice A1 l1.length c1] w fun e w' => ∃ v1_ : Value, e = .returned (.agg #[.int .i64 r1, v1_]) ∧ Kd.R (Kd.int .i64) 2 w' w.heap.size (fun _ => True) v1_ r2 ∧ Below w.heap.size w w' := by
  have hu25 := Try.underlying25
  have hu60 := Try.underlying60
  have hu65 := Try.underlying65
  have HR1 := Aside0.mk hr1
  have HC1 := Aside0.mk hc1
  clear hr1 hc1
  have HB := Aside0.mk (Below.refl w.heap.size w)
  have H : ((spec_WindowFault.f k a0_0 a0_1).bind fun t587 => (if t587 = 0 then (if (l1.length : Int) > 100 then (some (2, ([] : List Int))) else (spec_TakeAll.l0 k l1 0 a0_0 a0_1 0 ([] : List Int))) else (some (t587, ([] : List Int))))) = some (r1, r2) := h
  clear h
  replace H := Option.bind_eq_some_iff.mp H
  obtain ⟨t587, A30, H⟩ := H
  replace H : (if t587 = 0 then (if (l1.length : Int) > 100 then (some (2, ([] : List Int))) else (spec_TakeAll.l0 k l1 0 a0_0 a0_1 0 ([] : List Int))) else (some (t587, ([] : List Int)))) = some (r1, r2) := H
  have A3 := Aside0.mk A30
  clear A30
  by_cases c4 : t587 = 0
  · rw [if_pos c4] at H
    have c4b0 : (t587 == 0) = true := beq_iff_eq.mpr c4
    have c4b1 : (t587 != 0) = false := bne_eq_false_iff_eq.mpr c4
    clear c4
    by_cases c5 : (l1.length : Int) > 100
    · rw [if_pos c5] at H
      have c5b0 : decide (100 < (l1.length : Int)) = true := decide_eq_true c5
      have c5b1 : decide (100 < l1.length) = true := decide_eq_true (by omega)
      clear c5
      simp only [Option.some.injEq, Prod.mk.injEq] at H
      obtain ⟨rfl, rfl⟩ := H
      go_enter Try.func55, Try.ntmps55
      go_wp2_with (first | ((with_reducible refine gate_dst (N := 2) rfl ?_); refine box_event ?hg (N := 2) ?hd (cs := #[.int .i64 a0_0, .int .i64 a0_1]) (t := 25) ?hr ?_; (case hd => rfl); (case hg => rfl); (case hr => first | (go_simp; done) | (go_simp; rfl)); intro gb585 hg w6 hbox hb; have n0_ := Aside0.mk (below_step (by repeat (first | (with_reducible first | exact HB.out | apply below_alloc | apply pw_below_drewN | apply below_drew1) | exact HB.out)) hb); have n1_ := Aside0.mk (hbox); have n2_ := Aside0.mk ((by rw [hg]; exact (below_size (by repeat (first | (with_reducible first | exact HB.out | apply below_alloc | apply pw_below_drewN | apply below_drew1) | exact HB.out))) : w.heap.size ≤ gb585)); have n3_ := Aside0.mk ((by rw [hg]; exact (below_size (by repeat (first | (with_reducible first | exact HB.out | apply below_alloc | apply pw_below_drewN | apply below_drew1) | exact HB.out))) : w.heap.size ≤ gb585)); clear HB; have HB := n0_; have BK585 := n1_; have GW585 := n2_; have GE585 := n3_; clear n0_ n1_ n2_ n3_; clear hb hbox hg) | ((with_reducible refine gate_dst (N := 4) rfl ?_); refine box_event ?hg (N := 4) ?hd (cs := #[.int .i64 0, .slice none 0 0]) (t := 60) ?hr ?_; (case hd => rfl); (case hg => rfl); (case hr => first | (go_simp; done) | (go_simp; rfl)); intro gb586 hg w7 hbox hb; have n0_ := Aside0.mk (blk_below (g := gb585) (o := .cells #[.int .i64 a0_0, .int .i64 a0_1] 25 (0, 0)) (by (with_reducible repeat (first | refine blk_drewN ?_ _ | refine blk_drew ?_ | refine blk_alloc ?_ _)); exact BK585.out) hb); have n1_ := Aside0.mk (below_step (by repeat (first | (with_reducible first | exact HB.out | apply below_alloc | apply pw_below_drewN | apply below_drew1 | refine below_set ?_ GE585.out) | exact HB.out)) hb); have n2_ := Aside0.mk (hbox); have n3_ := Aside0.mk ((by rw [hg]; exact (below_size (by repeat (first | (with_reducible first | exact HB.out | apply below_alloc | apply pw_below_drewN | apply below_drew1 | refine below_set ?_ GE585.out) | exact HB.out))) : w.heap.size ≤ gb586)); have n4_ := Aside0.mk ((by rw [hg]; exact (below_size (by repeat (first | (with_reducible first | exact HB.out | apply below_alloc | apply pw_below_drewN | apply below_drew1 | refine below_set ?_ GE585.out) | exact HB.out))) : w.heap.size ≤ gb586)); have n5_ := Aside0.mk ((by rw [hg]; exact Nat.ne_of_lt (blk_lt (g := gb585) (o := .cells #[.int .i64 a0_0, .int .i64 a0_1] 25 (0, 0)) (by (with_reducible repeat (first | refine blk_drewN ?_ _ | refine blk_drew ?_ | refine blk_alloc ?_ _)); exact BK585.out)) : gb585 ≠ gb586)); have n6_ := Aside0.mk ((by rw [hg]; exact Nat.ne_of_gt (blk_lt (g := gb585) (o := .cells #[.int .i64 a0_0, .int .i64 a0_1] 25 (0, 0)) (by (with_reducible repeat (first | refine blk_drewN ?_ _ | refine blk_drew ?_ | refine blk_alloc ?_ _)); exact BK585.out)) : gb586 ≠ gb585)); clear BK585; clear HB; have BK585 := n0_; have HB := n1_; have BK586 := n2_; have GW586 := n3_; have GE586 := n4_; have NB585_586 := n5_; have NB586_585 := n6_; clear n0_ n1_ n2_ n3_ n4_ n5_ n6_; clear hb hbox hg; have hnb8 := NB585_586.out; have hnc8 := NB586_585.out; have hcz9_0 : w7.cell? ⟨gb585, 0, none⟩ = some (.int .i64 a0_0) := (blk_cell BK585.out 0).trans rfl; have hcz9_1 : w7.cell? ⟨gb585, 1, none⟩ = some (.int .i64 a0_1) := (blk_cell BK585.out 1).trans rfl; have hfz9_0 := blk_frozen BK585.out 0; have hfz9_1 := blk_frozen BK585.out 1) | ((with_reducible refine gate_callee (f := 15) rfl ?_); refine goesL_ (some 10) rfl rfl Try.func15 (by kernel_rfl) rfl #[.agg #[.int .i64 a0_0, .int .i64 a0_1]] rfl (by (try simp only [List.map_toArray, List.map_cons, List.map_nil]); first | done | rfl | (simp only [List.length_drop, List.length_take]; rfl)) ?_; (with_reducible refine (spec_WindowFault.calls k a0_0 a0_1 t587 _ A3.out).mono ?_); rintro e w10 ⟨rfl, hb⟩; refine ⟨_, rfl, ?_⟩; have n0_ := Aside0.mk (blk_below (g := gb585) (o := .cells #[.int .i64 a0_0, .int .i64 a0_1] 25 (0, 0)) (by (with_reducible repeat (first | refine blk_drewN ?_ _ | refine blk_drew ?_ | refine blk_alloc ?_ _)); exact BK585.out) hb); have n1_ := Aside0.mk (blk_below (g := gb586) (o := .cells #[.int .i64 0, .slice none 0 0] 60 (0, 0)) (by (with_reducible repeat (first | refine blk_drewN ?_ _ | refine blk_drew ?_ | refine blk_alloc ?_ _)); exact BK586.out) hb); have n2_ := Aside0.mk (below_step (by repeat (first | (with_reducible first | exact HB.out | apply below_alloc | apply pw_below_drewN | apply below_drew1 | refine below_set ?_ GE585.out | refine below_set ?_ GE586.out) | exact HB.out)) hb); clear BK585; clear BK586; clear HB; have BK585 := n0_; have BK586 := n1_; have HB := n2_; clear n0_ n1_ n2_; (try clear hb); (try clear hb2); (try clear hk); (try clear hi); have hcz11_0 : w10.cell? ⟨gb586, 0, none⟩ = some (.int .i64 0) := (blk_cell BK586.out 0).trans rfl; have hcz11_1 : w10.cell? ⟨gb586, 1, none⟩ = some (.slice none 0 0) := (blk_cell BK586.out 1).trans rfl; have hfz11_0 := blk_frozen BK586.out 0; have hfz11_1 := blk_frozen BK586.out 1))
      refine bodyPost_ret (results_cell_row rfl _ _ gb586 60 #[.int .i64 2, .slice none 0 0] (0, 0) _ rfl (by (with_reducible repeat (first | refine blk_drewN ?_ _ | refine blk_drew ?_ | refine blk_alloc ?_ _)); refine blk_put (cs := #[.int .i64 2, .slice none 0 0]) ?_ 1 _ rfl; (with_reducible repeat (first | refine blk_drewN ?_ _ | refine blk_drew ?_ | refine blk_alloc ?_ _)); refine blk_put (cs := #[.int .i64 0, .slice none 0 0]) ?_ 0 _ rfl; (with_reducible repeat (first | refine blk_drewN ?_ _ | refine blk_drew ?_ | refine blk_alloc ?_ _)); exact BK586.out) Try.underlying60 rfl (by kernel_rfl)) rfl ?_
      exact ⟨_, by first | rfl | (simp [errW_none, errW_some] <;> rfl) | (simp [*, errW_none, errW_some] <;> rfl), by first | exact Kd.R_nil _ _ _ _ _ | exact Kd.N_nil _ _ _ _ _ | exact Kd.V_nil _ _ _ _ _ | exact Kd.Q_nil _ _ _ _ _ | exact Kd.S_nil _ _ _ _ _, by repeat (first | (with_reducible first | exact HB.out | apply below_alloc | apply pw_below_drewN | apply below_drew1 | refine below_set ?_ GE585.out | refine below_set ?_ GE586.out) | exact HB.out)⟩
    · rw [if_neg c5] at H
      have c5b0 : decide (100 < (l1.length : Int)) = false := decide_eq_false c5
      have c5b1 : decide (100 < l1.length) = false := decide_eq_false (by omega)
      clear c5
      have H' := Aside0.mk H
      clear H
      go_enter Try.func55, Try.ntmps55
      go_wp2_with (first | ((with_reducible refine gate_dst (N := 2) rfl ?_); refine box_event ?hg (N := 2) ?hd (cs := #[.int .i64 a0_0, .int .i64 a0_1]) (t := 25) ?hr ?_; (case hd => rfl); (case hg => rfl); (case hr => first | (go_simp; done) | (go_simp; rfl)); intro gb585 hg w12 hbox hb; have n0_ := Aside0.mk (below_step (by repeat (first | (with_reducible first | exact HB.out | apply below_alloc | apply pw_below_drewN | apply below_drew1) | exact HB.out)) hb); have n1_ := Aside0.mk (hbox); have n2_ := Aside0.mk ((by rw [hg]; exact (below_size (by repeat (first | (with_reducible first | exact HB.out | apply below_alloc | apply pw_below_drewN | apply below_drew1) | exact HB.out))) : w.heap.size ≤ gb585)); have n3_ := Aside0.mk ((by rw [hg]; exact (below_size (by repeat (first | (with_reducible first | exact HB.out | apply below_alloc | apply pw_below_drewN | apply below_drew1) | exact HB.out))) : w.heap.size ≤ gb585)); clear HB; have HB := n0_; have BK585 := n1_; have GW585 := n2_; have GE585 := n3_; clear n0_ n1_ n2_ n3_; clear hb hbox hg) | ((with_reducible refine gate_dst (N := 4) rfl ?_); refine box_event ?hg (N := 4) ?hd (cs := #[.int .i64 0, .slice none 0 0]) (t := 60) ?hr ?_; (case hd => rfl); (case hg => rfl); (case hr => first | (go_simp; done) | (go_simp; rfl)); intro gb586 hg w13 hbox hb; have n0_ := Aside0.mk (blk_below (g := gb585) (o := .cells #[.int .i64 a0_0, .int .i64 a0_1] 25 (0, 0)) (by (with_reducible repeat (first | refine blk_drewN ?_ _ | refine blk_drew ?_ | refine blk_alloc ?_ _)); exact BK585.out) hb); have n1_ := Aside0.mk (below_step (by repeat (first | (with_reducible first | exact HB.out | apply below_alloc | apply pw_below_drewN | apply below_drew1 | refine below_set ?_ GE585.out) | exact HB.out)) hb); have n2_ := Aside0.mk (hbox); have n3_ := Aside0.mk ((by rw [hg]; exact (below_size (by repeat (first | (with_reducible first | exact HB.out | apply below_alloc | apply pw_below_drewN | apply below_drew1 | refine below_set ?_ GE585.out) | exact HB.out))) : w.heap.size ≤ gb586)); have n4_ := Aside0.mk ((by rw [hg]; exact (below_size (by repeat (first | (with_reducible first | exact HB.out | apply below_alloc | apply pw_below_drewN | apply below_drew1 | refine below_set ?_ GE585.out) | exact HB.out))) : w.heap.size ≤ gb586)); have n5_ := Aside0.mk ((by rw [hg]; exact Nat.ne_of_lt (blk_lt (g := gb585) (o := .cells #[.int .i64 a0_0, .int .i64 a0_1] 25 (0, 0)) (by (with_reducible repeat (first | refine blk_drewN ?_ _ | refine blk_drew ?_ | refine blk_alloc ?_ _)); exact BK585.out)) : gb585 ≠ gb586)); have n6_ := Aside0.mk ((by rw [hg]; exact Nat.ne_of_gt (blk_lt (g := gb585) (o := .cells #[.int .i64 a0_0, .int .i64 a0_1] 25 (0, 0)) (by (with_reducible repeat (first | refine blk_drewN ?_ _ | refine blk_drew ?_ | refine blk_alloc ?_ _)); exact BK585.out)) : gb586 ≠ gb585)); clear BK585; clear HB; have BK585 := n0_; have HB := n1_; have BK586 := n2_; have GW586 := n3_; have GE586 := n4_; have NB585_586 := n5_; have NB586_585 := n6_; clear n0_ n1_ n2_ n3_ n4_ n5_ n6_; clear hb hbox hg; have hnb14 := NB585_586.out; have hnc14 := NB586_585.out; have hcz15_0 : w13.cell? ⟨gb585, 0, none⟩ = some (.int .i64 a0_0) := (blk_cell BK585.out 0).trans rfl; have hcz15_1 : w13.cell? ⟨gb585, 1, none⟩ = some (.int .i64 a0_1) := (blk_cell BK585.out 1).trans rfl; have hfz15_0 := blk_frozen BK585.out 0; have hfz15_1 := blk_frozen BK585.out 1) | ((with_reducible refine gate_callee (f := 15) rfl ?_); refine goesL_ (some 10) rfl rfl Try.func15 (by kernel_rfl) rfl #[.agg #[.int .i64 a0_0, .int .i64 a0_1]] rfl (by (try simp only [List.map_toArray, List.map_cons, List.map_nil]); first | done | rfl | (simp only [List.length_drop, List.length_take]; rfl)) ?_; (with_reducible refine (spec_WindowFault.calls k a0_0 a0_1 t587 _ A3.out).mono ?_); rintro e w16 ⟨rfl, hb⟩; refine ⟨_, rfl, ?_⟩; have n0_ := Aside0.mk (blk_below (g := gb585) (o := .cells #[.int .i64 a0_0, .int .i64 a0_1] 25 (0, 0)) (by (with_reducible repeat (first | refine blk_drewN ?_ _ | refine blk_drew ?_ | refine blk_alloc ?_ _)); exact BK585.out) hb); have n1_ := Aside0.mk (blk_below (g := gb586) (o := .cells #[.int .i64 0, .slice none 0 0] 60 (0, 0)) (by (with_reducible repeat (first | refine blk_drewN ?_ _ | refine blk_drew ?_ | refine blk_alloc ?_ _)); exact BK586.out) hb); have n2_ := Aside0.mk (below_step (by repeat (first | (with_reducible first | exact HB.out | apply below_alloc | apply pw_below_drewN | apply below_drew1 | refine below_set ?_ GE585.out | refine below_set ?_ GE586.out) | exact HB.out)) hb); clear BK585; clear BK586; clear HB; have BK585 := n0_; have BK586 := n1_; have HB := n2_; clear n0_ n1_ n2_; (try clear hb); (try clear hb2); (try clear hk); (try clear hi)) | ((with_reducible refine gate_dst (N := 6) rfl ?_); refine box_event ?hg (N := 6) ?hd (cs := #[.int .i64 0, .slice none 0 0]) (t := 60) ?hr ?_; (case hd => rfl); (case hg => rfl); (case hr => first | (go_simp; done) | (go_simp; rfl)); intro gb588 hg w17 hbox hb; have n0_ := Aside0.mk (blk_below (g := gb585) (o := .cells #[.int .i64 a0_0, .int .i64 a0_1] 25 (0, 0)) (by (with_reducible repeat (first | refine blk_drewN ?_ _ | refine blk_drew ?_ | refine blk_alloc ?_ _)); exact BK585.out) hb); have n1_ := Aside0.mk (blk_below (g := gb586) (o := .cells #[.int .i64 0, .slice none 0 0] 60 (0, 0)) (by (with_reducible repeat (first | refine blk_drewN ?_ _ | refine blk_drew ?_ | refine blk_alloc ?_ _)); exact BK586.out) hb); have n2_ := Aside0.mk (below_step (by repeat (first | (with_reducible first | exact HB.out | apply below_alloc | apply pw_below_drewN | apply below_drew1 | refine below_set ?_ GE585.out | refine below_set ?_ GE586.out) | exact HB.out)) hb); have n3_ := Aside0.mk (hbox); have n4_ := Aside0.mk ((by rw [hg]; exact (below_size (by repeat (first | (with_reducible first | exact HB.out | apply below_alloc | apply pw_below_drewN | apply below_drew1 | refine below_set ?_ GE585.out | refine below_set ?_ GE586.out) | exact HB.out))) : w.heap.size ≤ gb588)); have n5_ := Aside0.mk ((by rw [hg]; exact (below_size (by repeat (first | (with_reducible first | exact HB.out | apply below_alloc | apply pw_below_drewN | apply below_drew1 | refine below_set ?_ GE585.out | refine below_set ?_ GE586.out) | exact HB.out))) : w.heap.size ≤ gb588)); have n6_ := Aside0.mk ((by rw [hg]; exact Nat.ne_of_lt (blk_lt (g := gb585) (o := .cells #[.int .i64 a0_0, .int .i64 a0_1] 25 (0, 0)) (by (with_reducible repeat (first | refine blk_drewN ?_ _ | refine blk_drew ?_ | refine blk_alloc ?_ _)); exact BK585.out)) : gb585 ≠ gb588)); have n7_ := Aside0.mk ((by rw [hg]; exact Nat.ne_of_gt (blk_lt (g := gb585) (o := .cells #[.int .i64 a0_0, .int .i64 a0_1] 25 (0, 0)) (by (with_reducible repeat (first | refine blk_drewN ?_ _ | refine blk_drew ?_ | refine blk_alloc ?_ _)); exact BK585.out)) : gb588 ≠ gb585)); have n8_ := Aside0.mk ((by rw [hg]; exact Nat.ne_of_lt (blk_lt (g := gb586) (o := .cells #[.int .i64 0, .slice none 0 0] 60 (0, 0)) (by (with_reducible repeat (first | refine blk_drewN ?_ _ | refine blk_drew ?_ | refine blk_alloc ?_ _)); exact BK586.out)) : gb586 ≠ gb588)); have n9_ := Aside0.mk ((by rw [hg]; exact Nat.ne_of_gt (blk_lt (g := gb586) (o := .cells #[.int .i64 0, .slice none 0 0] 60 (0, 0)) (by (with_reducible repeat (first | refine blk_drewN ?_ _ | refine blk_drew ?_ | refine blk_alloc ?_ _)); exact BK586.out)) : gb588 ≠ gb586)); clear BK585; clear BK586; clear HB; have BK585 := n0_; have BK586 := n1_; have HB := n2_; have BK588 := n3_; have GW588 := n4_; have GE588 := n5_; have NB585_588 := n6_; have NB588_585 := n7_; have NB586_588 := n8_; have NB588_586 := n9_; clear n0_ n1_ n2_ n3_ n4_ n5_ n6_ n7_ n8_ n9_; clear hb hbox hg; have hnb18 := NB588_585.out; have hnc18 := NB585_588.out; have hnb19 := NB588_586.out; have hnc19 := NB586_588.out; have hcz20_0 : w17.cell? ⟨gb588, 0, none⟩ = some (.int .i64 0) := (blk_cell BK588.out 0).trans rfl; have hcz20_1 : w17.cell? ⟨gb588, 1, none⟩ = some (.slice none 0 0) := (blk_cell BK588.out 1).trans rfl; have hfz20_0 := blk_frozen BK588.out 0; have hfz20_1 := blk_frozen BK588.out 1))
      go_loopg [7] k (fun kq v7 w' => ∃ (x7_1 : Int) (x586000_1 : Int) (x586001_1 : Int) (x589001_1 : List Int) (u589001 : Value), v7 = .int .i64 x7_1 ∧ Aside0 (spec_TakeAll.l0 kq l1 x7_1 x586000_1 x586001_1 0 x589001_1 = some (r1, r2)) ∧ Aside0 (kq ≤ k) ∧ Aside0 (Kd.R (Kd.int .i64) 2 w' w.heap.size (fun _ => True) u589001 x589001_1) ∧ Aside0 (w'.heap[gb585]? = some (.cells #[.int .i64 x586000_1, .int .i64 x586001_1] 25 (0, 0))) ∧ Aside0 (w'.heap[gb586]? = some (.cells #[.int .i64 0, (.slice none 0 0)] 60 (0, 0))) ∧ Aside0 (w'.heap[gb588]? = some (.cells #[.int .i64 0, u589001] 60 (0, 0))) ∧ Aside0 (Below w.heap.size w w'))
      case atStart => exact ⟨(0), (a0_0), (a0_1), (([] : List Int)), (.slice none 0 0), (by first | rfl | (simp; done) | (simp [*]; done)), H', ⟨Nat.le_refl _⟩, ⟨by first | exact Kd.R_nil _ _ _ _ _ | exact Kd.N_nil _ _ _ _ _ | exact Kd.V_nil _ _ _ _ _ | exact Kd.Q_nil _ _ _ _ _ | exact Kd.S_nil _ _ _ _ _⟩, ⟨by (with_reducible repeat (first | refine blk_drewN ?_ _ | refine blk_drew ?_ | refine blk_alloc ?_ _)); refine blk_far ?_ NB585_588.out _; (with_reducible repeat (first | refine blk_drewN ?_ _ | refine blk_drew ?_ | refine blk_alloc ?_ _)); refine blk_far ?_ NB585_588.out _; (with_reducible repeat (first | refine blk_drewN ?_ _ | refine blk_drew ?_ | refine blk_alloc ?_ _)); exact BK585.out⟩, ⟨by (with_reducible repeat (first | refine blk_drewN ?_ _ | refine blk_drew ?_ | refine blk_alloc ?_ _)); refine blk_far ?_ NB586_588.out _; (with_reducible repeat (first | refine blk_drewN ?_ _ | refine blk_drew ?_ | refine blk_alloc ?_ _)); refine blk_far ?_ NB586_588.out _; (with_reducible repeat (first | refine blk_drewN ?_ _ | refine blk_drew ?_ | refine blk_alloc ?_ _)); exact BK586.out⟩, ⟨by (with_reducible repeat (first | refine blk_drewN ?_ _ | refine blk_drew ?_ | refine blk_alloc ?_ _)); refine blk_put (cs := #[.int .i64 0, .slice none 0 0]) ?_ 1 _ rfl; (with_reducible repeat (first | refine blk_drewN ?_ _ | refine blk_drew ?_ | refine blk_alloc ?_ _)); refine blk_put (cs := #[.int .i64 0, .slice none 0 0]) ?_ 0 _ rfl; (with_reducible repeat (first | refine blk_drewN ?_ _ | refine blk_drew ?_ | refine blk_alloc ?_ _)); exact BK588.out⟩, ⟨by repeat (first | (with_reducible first | exact HB.out | apply below_alloc | apply pw_below_drewN | apply below_drew1 | refine below_set ?_ GE585.out | refine below_set ?_ GE586.out | refine below_set ?_ GE588.out) | exact HB.out)⟩⟩
      case round =>
        clear H'
        try clear c1
        try clear p2
        try clear c4
        try clear c4b0
        try clear c4b1
        try clear c5
        try clear c5b0
        try clear c5b1
        try clear c8
        try clear c14
        try clear c15
        try clear c18
        try clear c19
        try clear hcz11_0
        try clear hcz11_1
        try clear hcz15_0
        try clear hcz15_1
        try clear hcz20_0
        try clear hcz20_1
        try clear hcz9_0
        try clear hcz9_1
        try clear hfz11_0
        try clear hfz11_1
        try clear hfz15_0
        try clear hfz15_1
        try clear hfz20_0
        try clear hfz20_1
        try clear hfz9_0
        try clear hfz9_1
        obtain ⟨x7_1, x586000_1, x586001_1, x589001_1, u589001, rfl, HA, HK1, HO_589001, BK585, BK586, BK588, HB⟩ := hrel
        cases gk with
        | zero => exact absurd HA.out (by simp [spec_TakeAll.l0])
        | succ k1 =>
          have H := HA.out
          clear HA
          simp only [spec_TakeAll.l0] at H
          by_cases c21 : x7_1 < (l1.length : Int)
          · rw [if_pos c21] at H
            have c21b0 : decide (x7_1 < (l1.length : Int)) = true := decide_eq_true c21
            clear c21
            by_cases c22 : 0 ≤ x7_1
            · rw [if_pos c22] at H
              have c22b0 : decide (0 ≤ x7_1) = true := decide_eq_true c22
              clear c22
              replace H := Option.bind_eq_some_iff.mp H
              obtain ⟨⟨t590, t591, t592, t593⟩, A230, H⟩ := H
              replace H : (if t590 = 0 then (if x589001_1.length < 17592186044416 then (spec_TakeAll.l0 k1 l1 (wrap64 (x7_1 + 1)) t592 t593 0 (x589001_1 ++ [rd l1 x7_1])) else (none)) else (spec_TakeAll.l0 k1 l1 (wrap64 (x7_1 + 1)) x586000_1 x586001_1 0 x589001_1)) = some (r1, r2) := H
              have A23 := Aside0.mk A230
              clear A230
              by_cases c24 : t590 = 0
              · rw [if_pos c24] at H
                have c24b0 : (t590 == 0) = true := beq_iff_eq.mpr c24
                have c24b1 : (t590 != 0) = false := bne_eq_false_iff_eq.mpr c24
                clear c24
                by_cases c25 : x589001_1.length < 17592186044416
                · rw [if_pos c25] at H
                  have LMc25 := Aside0.mk c25
                  clear c25
                  obtain ⟨y596, hy596⟩ : ∃ y_ : List Int, y_ = (x589001_1 ++ [rd l1 x7_1]) := ⟨_, rfl⟩
                  replace H : (spec_TakeAll.l0 k1 l1 (wrap64 (x7_1 + 1)) t592 t593 0 y596) = some (r1, r2) := by first | (rw [hy596]; with_reducible exact H) | (have H2_ := (Option.bind_some _ _).symm.trans H; rw [hy596]; with_reducible exact H2_) | (have H2_ := (Option.bind_some _ _).symm.trans H; with_reducible exact H2_) | with_reducible exact H | (rw [hy596]; exact H) | exact H
                  have Ny596 := Aside0.mk hy596
                  clear hy596
                  have H' := Aside0.mk H
                  clear H
                  try go_wp2
                  have n0_ := Aside0.mk (Kd.R_drew HO_589001.out)
                  have n1_ := Aside0.mk (blk_drew BK585.out)
                  have n2_ := Aside0.mk (blk_drew BK586.out)
                  have n3_ := Aside0.mk (blk_drew BK588.out)
                  have n4_ := Aside0.mk (below_drew1 HB.out)
                  clear HO_589001
                  clear BK585
                  clear BK586
                  clear BK588
                  clear HB
                  have HO_589001 := n0_
                  have BK585 := n1_
                  have BK586 := n2_
                  have BK588 := n3_
                  have HB := n4_
                  clear n0_ n1_ n2_ n3_ n4_
                  have p589 : 0 ≤ (x7_1 : Int) := of_decide_eq_true (by first | (with_reducible assumption) | assumption)
                  have q589 : x7_1 < (l1.length : Int) := of_decide_eq_true (by first | (with_reducible assumption) | assumption)
                  obtain ⟨ad589, e589, hx589_0⟩ := Kd.at_int HR1.out x7_1 p589 q589
                  have hw589_0 := hx589_0
                  cases e589
                  replace hx589_0 := (HB.out.cell (World.block_lt_of_cell? w _ hx589_0)).trans hx589_0
                  replace p589 := eq_true p589
                  replace q589 := eq_true q589
                  refine start_ (n := 8) (S := fun w' => w'.cell? ⟨gb585, 0, none⟩ = some (.int .i64 x586000_1) ∧ w'.cell? ⟨gb585, 1, none⟩ = some (.int .i64 x586001_1) ∧ w'.cell? (ad589.add (x7_1).toNat) = some (.int .i64 (rd l1 x7_1))) (ds := []) #[false, false, false, false, false, false, false, false] (by kernel_rfl) rfl rfl ⟨(blk_cell BK585.out 0).trans rfl, (blk_cell BK585.out 1).trans rfl, ((HB.out.cell (World.block_lt_of_cell? w _ hw589_0)).trans hw589_0)⟩ (fun hHeld => ?_); refine with_tabW spec_TakeAll.tab10 spec_TakeAll.bits10 (fun HT_ HW_ => ?_)
                  generalize wr.drew = w26 at HO_589001 BK585 BK586 BK588 HB hx589_0 hHeld ⊢
                  refine pure_ (i := 1) (N := some 27) (v := ?_) (a' := ?_) #[false, true, false, false, false, false, false, false] rfl rfl (any_of HT_.out (by kernel_rfl)) (fun _ _ _ h => h) (Or.inl ⟨by rfl, ?_⟩) ?_ ?_
                  rotate_left
                  · intro w'
                    go_simp
                    with_reducible rfl
                  rotate_left
                  · simp only [Act.put, List.setIfInBounds_toArray, List.set_cons_zero, List.set_cons_succ, i64_w, i32_w]
                    rfl
                  refine pure_ (i := 2) (N := some 28) (v := ?_) (a' := ?_) #[false, true, true, false, false, false, false, false] rfl rfl (any_of HT_.out (by kernel_rfl)) (fun _ _ _ h => h) (Or.inl ⟨by rfl, ?_⟩) ?_ ?_
                  rotate_left
                  · intro w'
                    go_simp
                    with_reducible rfl
                  rotate_left
                  · simp only [Act.put, List.setIfInBounds_toArray, List.set_cons_zero, List.set_cons_succ, i64_w, i32_w]
                    rfl
                  refine pure_ (i := 3) (N := some 29) (v := ?_) (a' := ?_) #[false, true, true, true, false, false, false, false] rfl rfl (any_of HT_.out (by kernel_rfl)) (fun _ _ _ h => h) (Or.inl ⟨by rfl, ?_⟩) ?_ ?_
                  rotate_left
                  · intro w'
                    go_simp
                    with_reducible rfl
                  rotate_left
                  · simp only [Act.put, List.setIfInBounds_toArray, List.set_cons_zero, List.set_cons_succ, i64_w, i32_w]
                    rfl
                  refine take_ (i := 0) (N := some 26) (v := ?_) (a' := ?_) #[true, true, true, true, false, false, false, false] rfl rfl (take_ofW HT_.out HW_.out (by kernel_rfl)) (fun _ _ _ h => h) (Or.inl ⟨by rfl, ?_⟩) hHeld ?_ ?_
                  rotate_left
                  · rintro w' ⟨s0, s1, s2⟩
                    go_simp
                    with_reducible rfl
                  rotate_left
                  · simp only [Act.put, List.setIfInBounds_toArray, List.set_cons_zero, List.set_cons_succ, i64_w, i32_w]
                    rfl
                  refine take_ (i := 4) (N := some 30) (v := ?_) (a' := ?_) #[true, true, true, true, true, false, false, false] rfl rfl (take_ofW HT_.out HW_.out (by kernel_rfl)) (fun _ _ _ h => h) (Or.inl ⟨by rfl, ?_⟩) hHeld ?_ ?_
                  rotate_left
                  · rintro w' ⟨s0, s1, s2⟩
                    go_simp
                    with_reducible rfl
                  rotate_left
                  · simp only [Act.put, List.setIfInBounds_toArray, List.set_cons_zero, List.set_cons_succ, i64_w, i32_w]
                    rfl
                  refine join_ (σ := Nat) 1 #[true, true, true, true, true, true, true, false] (fun s_ => [(31, .agg #[.int .i64 t590, .int .i64 t591, .int .i64 t592, .int .i64 t593]), (8, .pointer (some ⟨s_, 0, none⟩))]) (fun s_ w' => (w'.cell? ⟨gb585, 0, none⟩ = some (.int .i64 x586000_1) ∧ w'.cell? ⟨gb585, 1, none⟩ = some (.int .i64 x586001_1) ∧ w'.cell? (ad589.add (x7_1).toNat) = some (.int .i64 (rd l1 x7_1))) ∧ (Kd.R (Kd.int .i64) 2 w' w.heap.size (fun _ => True) u589001 x589001_1) ∧ (w'.heap[gb585]? = some (.cells #[.int .i64 x586000_1, .int .i64 x586001_1] 25 (0, 0))) ∧ (w'.heap[gb586]? = some (.cells #[.int .i64 0, .slice none 0 0] 60 (0, 0))) ∧ (w'.heap[gb588]? = some (.cells #[.int .i64 0, u589001] 60 (0, 0))) ∧ (w'.heap[s_]? = some (.cells #[.int .i64 0, .int .i64 0, .int .i64 0, .int .i64 0] 65 (0, 0))) ∧ (w.heap.size ≤ s_) ∧ (w.heap.size ≤ s_) ∧ (gb585 ≠ s_) ∧ (s_ ≠ gb585) ∧ (gb586 ≠ s_) ∧ (s_ ≠ gb586) ∧ (gb588 ≠ s_) ∧ (s_ ≠ gb588) ∧ (Below w.heap.size w w')) ?_ ?_
                  rotate_left
                  · intro hCont
                    refine two_ (i := 5) (j := 6) (Ni := some 31) (Nj := some 8) #[true, true, true, true, true, true, false, false] #[true, true, true, true, true, false, true, false] rfl rfl rfl rfl (two_of HT_.out (by kernel_rfl)) (by decide) (by decide) (fun K hK => ?_) (fun K hK => ?_)
                    · skip
                      refine goes_ Try.func81 (by kernel_rfl) rfl #[.agg #[.int .i64 x586000_1, .int .i64 x586001_1], .int .i64 (rd l1 x7_1)] (by rfl) rfl rfl (by (try simp only [List.map_toArray, List.map_cons, List.map_nil]); first | done | rfl | (simp only [List.length_drop, List.length_take]; rfl)) ?_
                      with_reducible refine (spec_l10Take.calls x586000_1 x586001_1 (rd l1 x7_1) t590 t591 t592 t593 _ A23.out).mono ?_
                      rintro e w27 ⟨rfl, hb⟩
                      refine ⟨_, rfl, ?_⟩
                      have n0_ := Aside0.mk (Kd.R_below (by (with_reducible repeat (first | apply Kd.R_alloc | apply Kd.R_drewN | apply Kd.R_drew)); exact HO_589001.out) hb)
                      have n1_ := Aside0.mk (blk_below (g := gb585) (o := .cells #[.int .i64 x586000_1, .int .i64 x586001_1] 25 (0, 0)) (by (with_reducible repeat (first | refine blk_drewN ?_ _ | refine blk_drew ?_ | refine blk_alloc ?_ _)); exact BK585.out) hb)
                      have n2_ := Aside0.mk (blk_below (g := gb586) (o := .cells #[.int .i64 0, .slice none 0 0] 60 (0, 0)) (by (with_reducible repeat (first | refine blk_drewN ?_ _ | refine blk_drew ?_ | refine blk_alloc ?_ _)); exact BK586.out) hb)
                      have n3_ := Aside0.mk (blk_below (g := gb588) (o := .cells #[.int .i64 0, u589001] 60 (0, 0)) (by (with_reducible repeat (first | refine blk_drewN ?_ _ | refine blk_drew ?_ | refine blk_alloc ?_ _)); exact BK588.out) hb)
                      have n4_ := Aside0.mk (below_step (by repeat (first | (with_reducible first | exact HB.out | apply below_alloc | apply pw_below_drewN | apply below_drew1 | refine below_set ?_ GE585.out | refine below_set ?_ GE586.out | refine below_set ?_ GE588.out) | exact HB.out)) hb)
                      clear HO_589001
                      clear BK585
                      clear BK586
                      clear BK588
                      clear HB
                      have HO_589001 := n0_
                      have BK585 := n1_
                      have BK586 := n2_
                      have BK588 := n3_
                      have HB := n4_
                      clear n0_ n1_ n2_ n3_ n4_
                      (try clear hb)
                      (try clear hb2)
                      (try clear hk)
                      (try clear hi)
                      refine hK.out _ _ ⟨(blk_cell BK585.out 0).trans rfl, (blk_cell BK585.out 1).trans rfl, ((HB.out.cell (World.block_lt_of_cell? w _ hw589_0)).trans hw589_0)⟩ (fun hHeld => ?_)
                      clear hK K
                      refine norm_ (a' := ?_) ?_ ?_
                      rotate_left
                      · show Act.put _ (some 31) _ = _
                        simp only [Act.put, List.setIfInBounds_toArray, List.set_cons_zero, List.set_cons_succ, i64_w, i32_w]
                        rfl
                      refine one_ (i := 6) (N := some 8) #[true, true, true, true, true, true, true, false] rfl rfl (one_of HT_.out (by kernel_rfl)) (by decide) (fun K hK => ?_)
                      refine box_step ?hg (N := 8) ?hd (cs := #[.int .i64 0, .int .i64 0, .int .i64 0, .int .i64 0]) (t := 65) ?hr ?_; (case hd => rfl); (case hg => rfl); (case hr => first | (go_simp; done) | (go_simp; rfl))
                      intro gb594 hg w28 hbox hb
                      have n0_ := Aside0.mk (Kd.R_below (by (with_reducible repeat (first | apply Kd.R_alloc | apply Kd.R_drewN | apply Kd.R_drew)); exact HO_589001.out) hb)
                      have n1_ := Aside0.mk (blk_below (g := gb585) (o := .cells #[.int .i64 x586000_1, .int .i64 x586001_1] 25 (0, 0)) (by (with_reducible repeat (first | refine blk_drewN ?_ _ | refine blk_drew ?_ | refine blk_alloc ?_ _)); exact BK585.out) hb)
                      have n2_ := Aside0.mk (blk_below (g := gb586) (o := .cells #[.int .i64 0, .slice none 0 0] 60 (0, 0)) (by (with_reducible repeat (first | refine blk_drewN ?_ _ | refine blk_drew ?_ | refine blk_alloc ?_ _)); exact BK586.out) hb)
                      have n3_ := Aside0.mk (blk_below (g := gb588) (o := .cells #[.int .i64 0, u589001] 60 (0, 0)) (by (with_reducible repeat (first | refine blk_drewN ?_ _ | refine blk_drew ?_ | refine blk_alloc ?_ _)); exact BK588.out) hb)
                      have n4_ := Aside0.mk (below_step (by repeat (first | (with_reducible first | exact HB.out | apply below_alloc | apply pw_below_drewN | apply below_drew1 | refine below_set ?_ GE585.out | refine below_set ?_ GE586.out | refine below_set ?_ GE588.out) | exact HB.out)) hb)
                      have n5_ := Aside0.mk (hbox)
                      have n6_ := Aside0.mk ((by rw [hg]; exact (below_size (by repeat (first | (with_reducible first | exact HB.out | apply below_alloc | apply pw_below_drewN | apply below_drew1 | refine below_set ?_ GE585.out | refine below_set ?_ GE586.out | refine below_set ?_ GE588.out) | exact HB.out))) : w.heap.size ≤ gb594))
                      have n7_ := Aside0.mk ((by rw [hg]; exact (below_size (by repeat (first | (with_reducible first | exact HB.out | apply below_alloc | apply pw_below_drewN | apply below_drew1 | refine below_set ?_ GE585.out | refine below_set ?_ GE586.out | refine below_set ?_ GE588.out) | exact HB.out))) : w.heap.size ≤ gb594))
                      have n8_ := Aside0.mk ((by rw [hg]; exact Nat.ne_of_lt (blk_lt (g := gb585) (o := .cells #[.int .i64 x586000_1, .int .i64 x586001_1] 25 (0, 0)) (by (with_reducible repeat (first | refine blk_drewN ?_ _ | refine blk_drew ?_ | refine blk_alloc ?_ _)); exact BK585.out)) : gb585 ≠ gb594))
                      have n9_ := Aside0.mk ((by rw [hg]; exact Nat.ne_of_gt (blk_lt (g := gb585) (o := .cells #[.int .i64 x586000_1, .int .i64 x586001_1] 25 (0, 0)) (by (with_reducible repeat (first | refine blk_drewN ?_ _ | refine blk_drew ?_ | refine blk_alloc ?_ _)); exact BK585.out)) : gb594 ≠ gb585))
                      have n10_ := Aside0.mk ((by rw [hg]; exact Nat.ne_of_lt (blk_lt (g := gb586) (o := .cells #[.int .i64 0, .slice none 0 0] 60 (0, 0)) (by (with_reducible repeat (first | refine blk_drewN ?_ _ | refine blk_drew ?_ | refine blk_alloc ?_ _)); exact BK586.out)) : gb586 ≠ gb594))
                      have n11_ := Aside0.mk ((by rw [hg]; exact Nat.ne_of_gt (blk_lt (g := gb586) (o := .cells #[.int .i64 0, .slice none 0 0] 60 (0, 0)) (by (with_reducible repeat (first | refine blk_drewN ?_ _ | refine blk_drew ?_ | refine blk_alloc ?_ _)); exact BK586.out)) : gb594 ≠ gb586))
                      have n12_ := Aside0.mk ((by rw [hg]; exact Nat.ne_of_lt (blk_lt (g := gb588) (o := .cells #[.int .i64 0, u589001] 60 (0, 0)) (by (with_reducible repeat (first | refine blk_drewN ?_ _ | refine blk_drew ?_ | refine blk_alloc ?_ _)); exact BK588.out)) : gb588 ≠ gb594))
                      have n13_ := Aside0.mk ((by rw [hg]; exact Nat.ne_of_gt (blk_lt (g := gb588) (o := .cells #[.int .i64 0, u589001] 60 (0, 0)) (by (with_reducible repeat (first | refine blk_drewN ?_ _ | refine blk_drew ?_ | refine blk_alloc ?_ _)); exact BK588.out)) : gb594 ≠ gb588))
                      clear HO_589001
                      clear BK585
                      clear BK586
                      clear BK588
                      clear HB
                      have HO_589001 := n0_
                      have BK585 := n1_
                      have BK586 := n2_
                      have BK588 := n3_
                      have HB := n4_
                      have BK594 := n5_
                      have GW594 := n6_
                      have GE594 := n7_
                      have NB585_594 := n8_
                      have NB594_585 := n9_
                      have NB586_594 := n10_
                      have NB594_586 := n11_
                      have NB588_594 := n12_
                      have NB594_588 := n13_
                      clear n0_ n1_ n2_ n3_ n4_ n5_ n6_ n7_ n8_ n9_ n10_ n11_ n12_ n13_
                      clear hb hbox hg
                      refine hK.out _ _ ⟨(blk_cell BK585.out 0).trans rfl, (blk_cell BK585.out 1).trans rfl, ((HB.out.cell (World.block_lt_of_cell? w _ hw589_0)).trans hw589_0)⟩ (fun hHeld => ?_)
                      clear hK K
                      refine norm_ (a' := ?_) ?_ ?_
                      rotate_left
                      · show Act.put _ (some 8) _ = _
                        simp only [Act.put, List.setIfInBounds_toArray, List.set_cons_zero, List.set_cons_succ, i64_w, i32_w]
                        rfl
                      exact norm_ (by simp only [putAll, Act.put, List.setIfInBounds_toArray, List.set_cons_zero, List.set_cons_succ]) (hCont (gb594) _ ⟨hHeld, (by (with_reducible repeat (first | apply Kd.R_alloc | apply Kd.R_drewN | apply Kd.R_drew)); exact HO_589001.out), (by (with_reducible repeat (first | refine blk_drewN ?_ _ | refine blk_drew ?_ | refine blk_alloc ?_ _)); exact BK585.out), (by (with_reducible repeat (first | refine blk_drewN ?_ _ | refine blk_drew ?_ | refine blk_alloc ?_ _)); exact BK586.out), (by (with_reducible repeat (first | refine blk_drewN ?_ _ | refine blk_drew ?_ | refine blk_alloc ?_ _)); exact BK588.out), (by (with_reducible repeat (first | refine blk_drewN ?_ _ | refine blk_drew ?_ | refine blk_alloc ?_ _)); exact BK594.out), GW594.out, GE594.out, NB585_594.out, NB594_585.out, NB586_594.out, NB594_586.out, NB588_594.out, NB594_588.out, (by repeat (first | (with_reducible first | exact HB.out | apply below_alloc | apply pw_below_drewN | apply below_drew1 | refine below_set ?_ GE585.out | refine below_set ?_ GE586.out | refine below_set ?_ GE588.out | refine below_set ?_ GE594.out) | exact HB.out))⟩)
                    · skip
                      refine box_step ?hg (N := 8) ?hd (cs := #[.int .i64 0, .int .i64 0, .int .i64 0, .int .i64 0]) (t := 65) ?hr ?_; (case hd => rfl); (case hg => rfl); (case hr => first | (go_simp; done) | (go_simp; rfl))
                      intro gb594 hg w27 hbox hb
                      have n0_ := Aside0.mk (Kd.R_below (by (with_reducible repeat (first | apply Kd.R_alloc | apply Kd.R_drewN | apply Kd.R_drew)); exact HO_589001.out) hb)
                      have n1_ := Aside0.mk (blk_below (g := gb585) (o := .cells #[.int .i64 x586000_1, .int .i64 x586001_1] 25 (0, 0)) (by (with_reducible repeat (first | refine blk_drewN ?_ _ | refine blk_drew ?_ | refine blk_alloc ?_ _)); exact BK585.out) hb)
                      have n2_ := Aside0.mk (blk_below (g := gb586) (o := .cells #[.int .i64 0, .slice none 0 0] 60 (0, 0)) (by (with_reducible repeat (first | refine blk_drewN ?_ _ | refine blk_drew ?_ | refine blk_alloc ?_ _)); exact BK586.out) hb)
                      have n3_ := Aside0.mk (blk_below (g := gb588) (o := .cells #[.int .i64 0, u589001] 60 (0, 0)) (by (with_reducible repeat (first | refine blk_drewN ?_ _ | refine blk_drew ?_ | refine blk_alloc ?_ _)); exact BK588.out) hb)
                      have n4_ := Aside0.mk (below_step (by repeat (first | (with_reducible first | exact HB.out | apply below_alloc | apply pw_below_drewN | apply below_drew1 | refine below_set ?_ GE585.out | refine below_set ?_ GE586.out | refine below_set ?_ GE588.out) | exact HB.out)) hb)
                      have n5_ := Aside0.mk (hbox)
                      have n6_ := Aside0.mk ((by rw [hg]; exact (below_size (by repeat (first | (with_reducible first | exact HB.out | apply below_alloc | apply pw_below_drewN | apply below_drew1 | refine below_set ?_ GE585.out | refine below_set ?_ GE586.out | refine below_set ?_ GE588.out) | exact HB.out))) : w.heap.size ≤ gb594))
                      have n7_ := Aside0.mk ((by rw [hg]; exact (below_size (by repeat (first | (with_reducible first | exact HB.out | apply below_alloc | apply pw_below_drewN | apply below_drew1 | refine below_set ?_ GE585.out | refine below_set ?_ GE586.out | refine below_set ?_ GE588.out) | exact HB.out))) : w.heap.size ≤ gb594))
                      have n8_ := Aside0.mk ((by rw [hg]; exact Nat.ne_of_lt (blk_lt (g := gb585) (o := .cells #[.int .i64 x586000_1, .int .i64 x586001_1] 25 (0, 0)) (by (with_reducible repeat (first | refine blk_drewN ?_ _ | refine blk_drew ?_ | refine blk_alloc ?_ _)); exact BK585.out)) : gb585 ≠ gb594))
                      have n9_ := Aside0.mk ((by rw [hg]; exact Nat.ne_of_gt (blk_lt (g := gb585) (o := .cells #[.int .i64 x586000_1, .int .i64 x586001_1] 25 (0, 0)) (by (with_reducible repeat (first | refine blk_drewN ?_ _ | refine blk_drew ?_ | refine blk_alloc ?_ _)); exact BK585.out)) : gb594 ≠ gb585))
                      have n10_ := Aside0.mk ((by rw [hg]; exact Nat.ne_of_lt (blk_lt (g := gb586) (o := .cells #[.int .i64 0, .slice none 0 0] 60 (0, 0)) (by (with_reducible repeat (first | refine blk_drewN ?_ _ | refine blk_drew ?_ | refine blk_alloc ?_ _)); exact BK586.out)) : gb586 ≠ gb594))
                      have n11_ := Aside0.mk ((by rw [hg]; exact Nat.ne_of_gt (blk_lt (g := gb586) (o := .cells #[.int .i64 0, .slice none 0 0] 60 (0, 0)) (by (with_reducible repeat (first | refine blk_drewN ?_ _ | refine blk_drew ?_ | refine blk_alloc ?_ _)); exact BK586.out)) : gb594 ≠ gb586))
                      have n12_ := Aside0.mk ((by rw [hg]; exact Nat.ne_of_lt (blk_lt (g := gb588) (o := .cells #[.int .i64 0, u589001] 60 (0, 0)) (by (with_reducible repeat (first | refine blk_drewN ?_ _ | refine blk_drew ?_ | refine blk_alloc ?_ _)); exact BK588.out)) : gb588 ≠ gb594))
                      have n13_ := Aside0.mk ((by rw [hg]; exact Nat.ne_of_gt (blk_lt (g := gb588) (o := .cells #[.int .i64 0, u589001] 60 (0, 0)) (by (with_reducible repeat (first | refine blk_drewN ?_ _ | refine blk_drew ?_ | refine blk_alloc ?_ _)); exact BK588.out)) : gb594 ≠ gb588))
                      clear HO_589001
                      clear BK585
                      clear BK586
                      clear BK588
                      clear HB
                      have HO_589001 := n0_
                      have BK585 := n1_
                      have BK586 := n2_
                      have BK588 := n3_
                      have HB := n4_
                      have BK594 := n5_
                      have GW594 := n6_
                      have GE594 := n7_
                      have NB585_594 := n8_
                      have NB594_585 := n9_
                      have NB586_594 := n10_
                      have NB594_586 := n11_
                      have NB588_594 := n12_
                      have NB594_588 := n13_
                      clear n0_ n1_ n2_ n3_ n4_ n5_ n6_ n7_ n8_ n9_ n10_ n11_ n12_ n13_
                      clear hb hbox hg
                      refine hK.out _ _ ⟨(blk_cell BK585.out 0).trans rfl, (blk_cell BK585.out 1).trans rfl, ((HB.out.cell (World.block_lt_of_cell? w _ hw589_0)).trans hw589_0)⟩ (fun hHeld => ?_)
                      clear hK K
                      refine norm_ (a' := ?_) ?_ ?_
                      rotate_left
                      · show Act.put _ (some 8) _ = _
                        simp only [Act.put, List.setIfInBounds_toArray, List.set_cons_zero, List.set_cons_succ, i64_w, i32_w]
                        rfl
                      refine one_ (i := 5) (N := some 31) #[true, true, true, true, true, true, true, false] rfl rfl (one_of HT_.out (by kernel_rfl)) (by decide) (fun K hK => ?_)
                      refine goes_ Try.func81 (by kernel_rfl) rfl #[.agg #[.int .i64 x586000_1, .int .i64 x586001_1], .int .i64 (rd l1 x7_1)] (by rfl) rfl rfl (by (try simp only [List.map_toArray, List.map_cons, List.map_nil]); first | done | rfl | (simp only [List.length_drop, List.length_take]; rfl)) ?_
                      with_reducible refine (spec_l10Take.calls x586000_1 x586001_1 (rd l1 x7_1) t590 t591 t592 t593 _ A23.out).mono ?_
                      rintro e w28 ⟨rfl, hb⟩
                      refine ⟨_, rfl, ?_⟩
                      have n0_ := Aside0.mk (Kd.R_below (by (with_reducible repeat (first | apply Kd.R_alloc | apply Kd.R_drewN | apply Kd.R_drew)); exact HO_589001.out) hb)
                      have n1_ := Aside0.mk (blk_below (g := gb585) (o := .cells #[.int .i64 x586000_1, .int .i64 x586001_1] 25 (0, 0)) (by (with_reducible repeat (first | refine blk_drewN ?_ _ | refine blk_drew ?_ | refine blk_alloc ?_ _)); exact BK585.out) hb)
                      have n2_ := Aside0.mk (blk_below (g := gb586) (o := .cells #[.int .i64 0, .slice none 0 0] 60 (0, 0)) (by (with_reducible repeat (first | refine blk_drewN ?_ _ | refine blk_drew ?_ | refine blk_alloc ?_ _)); exact BK586.out) hb)
                      have n3_ := Aside0.mk (blk_below (g := gb588) (o := .cells #[.int .i64 0, u589001] 60 (0, 0)) (by (with_reducible repeat (first | refine blk_drewN ?_ _ | refine blk_drew ?_ | refine blk_alloc ?_ _)); exact BK588.out) hb)
                      have n4_ := Aside0.mk (blk_below (g := gb594) (o := .cells #[.int .i64 0, .int .i64 0, .int .i64 0, .int .i64 0] 65 (0, 0)) (by (with_reducible repeat (first | refine blk_drewN ?_ _ | refine blk_drew ?_ | refine blk_alloc ?_ _)); exact BK594.out) hb)
                      have n5_ := Aside0.mk (below_step (by repeat (first | (with_reducible first | exact HB.out | apply below_alloc | apply pw_below_drewN | apply below_drew1 | refine below_set ?_ GE585.out | refine below_set ?_ GE586.out | refine below_set ?_ GE588.out | refine below_set ?_ GE594.out) | exact HB.out)) hb)
                      clear HO_589001
                      clear BK585
                      clear BK586
                      clear BK588
                      clear BK594
                      clear HB
                      have HO_589001 := n0_
                      have BK585 := n1_
                      have BK586 := n2_
                      have BK588 := n3_
                      have BK594 := n4_
                      have HB := n5_
                      clear n0_ n1_ n2_ n3_ n4_ n5_
                      (try clear hb)
                      (try clear hb2)
                      (try clear hk)
                      (try clear hi)
                      refine hK.out _ _ ⟨(blk_cell BK585.out 0).trans rfl, (blk_cell BK585.out 1).trans rfl, ((HB.out.cell (World.block_lt_of_cell? w _ hw589_0)).trans hw589_0)⟩ (fun hHeld => ?_)
                      clear hK K
                      refine norm_ (a' := ?_) ?_ ?_
                      rotate_left
                      · show Act.put _ (some 31) _ = _
                        simp only [Act.put, List.setIfInBounds_toArray, List.set_cons_zero, List.set_cons_succ, i64_w, i32_w]
                        rfl
                      exact norm_ (by simp only [putAll, Act.put, List.setIfInBounds_toArray, List.set_cons_zero, List.set_cons_succ]) (hCont (gb594) _ ⟨hHeld, (by (with_reducible repeat (first | apply Kd.R_alloc | apply Kd.R_drewN | apply Kd.R_drew)); exact HO_589001.out), (by (with_reducible repeat (first | refine blk_drewN ?_ _ | refine blk_drew ?_ | refine blk_alloc ?_ _)); exact BK585.out), (by (with_reducible repeat (first | refine blk_drewN ?_ _ | refine blk_drew ?_ | refine blk_alloc ?_ _)); exact BK586.out), (by (with_reducible repeat (first | refine blk_drewN ?_ _ | refine blk_drew ?_ | refine blk_alloc ?_ _)); exact BK588.out), (by (with_reducible repeat (first | refine blk_drewN ?_ _ | refine blk_drew ?_ | refine blk_alloc ?_ _)); exact BK594.out), GW594.out, GE594.out, NB585_594.out, NB594_585.out, NB586_594.out, NB594_586.out, NB588_594.out, NB594_588.out, (by repeat (first | (with_reducible first | exact HB.out | apply below_alloc | apply pw_below_drewN | apply below_drew1 | refine below_set ?_ GE585.out | refine below_set ?_ GE586.out | refine below_set ?_ GE588.out | refine below_set ?_ GE594.out) | exact HB.out))⟩)
                  rintro gb594 w29 ⟨hS_, h0_, h1_, h2_, h3_, h4_, h5_, h6_, h7_, h8_, h9_, h10_, h11_, h12_, h13_⟩
                  have n0_ : Aside0 (Kd.R (Kd.int .i64) 2 w29 w.heap.size (fun _ => True) u589001 x589001_1) := ⟨h0_⟩
                  have n1_ : Aside0 (w29.heap[gb585]? = some (.cells #[.int .i64 x586000_1, .int .i64 x586001_1] 25 (0, 0))) := ⟨h1_⟩
                  have n2_ : Aside0 (w29.heap[gb586]? = some (.cells #[.int .i64 0, .slice none 0 0] 60 (0, 0))) := ⟨h2_⟩
                  have n3_ : Aside0 (w29.heap[gb588]? = some (.cells #[.int .i64 0, u589001] 60 (0, 0))) := ⟨h3_⟩
                  have n4_ : Aside0 (w29.heap[gb594]? = some (.cells #[.int .i64 0, .int .i64 0, .int .i64 0, .int .i64 0] 65 (0, 0))) := ⟨h4_⟩
                  have n5_ : Aside0 (w.heap.size ≤ gb594) := ⟨h5_⟩
                  have n6_ : Aside0 (w.heap.size ≤ gb594) := ⟨h6_⟩
                  have n7_ : Aside0 (gb585 ≠ gb594) := ⟨h7_⟩
                  have n8_ : Aside0 (gb594 ≠ gb585) := ⟨h8_⟩
                  have n9_ : Aside0 (gb586 ≠ gb594) := ⟨h9_⟩
                  have n10_ : Aside0 (gb594 ≠ gb586) := ⟨h10_⟩
                  have n11_ : Aside0 (gb588 ≠ gb594) := ⟨h11_⟩
                  have n12_ : Aside0 (gb594 ≠ gb588) := ⟨h12_⟩
                  have n13_ : Aside0 (Below w.heap.size w w29) := ⟨h13_⟩
                  clear HO_589001
                  clear BK585
                  clear BK586
                  clear BK588
                  clear HB
                  clear h0_ h1_ h2_ h3_ h4_ h5_ h6_ h7_ h8_ h9_ h10_ h11_ h12_ h13_
                  have HO_589001 := n0_
                  have BK585 := n1_
                  have BK586 := n2_
                  have BK588 := n3_
                  have BK594 := n4_
                  have GW594 := n5_
                  have GE594 := n6_
                  have NB585_594 := n7_
                  have NB594_585 := n8_
                  have NB586_594 := n9_
                  have NB594_586 := n10_
                  have NB588_594 := n11_
                  have NB594_588 := n12_
                  have HB := n13_
                  clear n0_ n1_ n2_ n3_ n4_ n5_ n6_ n7_ n8_ n9_ n10_ n11_ n12_ n13_
                  have hHeld : w29.cell? ⟨gb585, 0, none⟩ = some (.int .i64 x586000_1) ∧ w29.cell? ⟨gb585, 1, none⟩ = some (.int .i64 x586001_1) ∧ w29.cell? (ad589.add (x7_1).toNat) = some (.int .i64 (rd l1 x7_1)) := hS_
                  refine norm_ (a' := ?_) ?_ ?_
                  rotate_left
                  · simp only [putAll, Act.put, List.setIfInBounds_toArray, List.set_cons_zero, List.set_cons_succ]
                    rfl
                  refine one_ (i := 7) (N := none) #[true, true, true, true, true, true, true, true] rfl rfl (one_of HT_.out (by kernel_rfl)) (by decide) (fun K hK => ?_)
                  have hs30 : w29.cell? ⟨gb594, 0, none⟩ = some (.int .i64 0) := (blk_cell BK594.out 0).trans rfl
                  have hfs30 := blk_frozen BK594.out 0
                  have hns30_0 := NB585_594.out
                  have hns30_1 := NB586_594.out
                  have hns30_2 := NB588_594.out
                  have hms30_0 := NB594_585.out
                  have hms30_1 := NB594_586.out
                  have hms30_2 := NB594_588.out
                  have hs31 : w29.cell? ⟨gb594, 1, none⟩ = some (.int .i64 0) := (blk_cell BK594.out 1).trans rfl
                  have hfs31 := blk_frozen BK594.out 1
                  have hns31_0 := NB585_594.out
                  have hns31_1 := NB586_594.out
                  have hns31_2 := NB588_594.out
                  have hms31_0 := NB594_585.out
                  have hms31_1 := NB594_586.out
                  have hms31_2 := NB594_588.out
                  have hs32 : w29.cell? ⟨gb594, 2, none⟩ = some (.int .i64 0) := (blk_cell BK594.out 2).trans rfl
                  have hfs32 := blk_frozen BK594.out 2
                  have hns32_0 := NB585_594.out
                  have hns32_1 := NB586_594.out
                  have hns32_2 := NB588_594.out
                  have hms32_0 := NB594_585.out
                  have hms32_1 := NB594_586.out
                  have hms32_2 := NB594_588.out
                  have hs33 : w29.cell? ⟨gb594, 3, none⟩ = some (.int .i64 0) := (blk_cell BK594.out 3).trans rfl
                  have hfs33 := blk_frozen BK594.out 3
                  have hns33_0 := NB585_594.out
                  have hns33_1 := NB586_594.out
                  have hns33_2 := NB588_594.out
                  have hms33_0 := NB594_585.out
                  have hms33_1 := NB594_586.out
                  have hms33_2 := NB594_588.out
                  refine skip_ (w1 := ?_) (by rfl) rfl ?_ ?_
                  rotate_left
                  · go_simp
                    rfl
                  refine hK.out _ _ ⟨((cell_far (p := ⟨gb594, _, none⟩) NB585_594.out _).trans (((cell_far (p := ⟨gb594, _, none⟩) NB585_594.out _).trans (((cell_far (p := ⟨gb594, _, none⟩) NB585_594.out _).trans (((cell_far (p := ⟨gb594, _, none⟩) NB585_594.out _).trans (hHeld.1)))))))), ((cell_far (p := ⟨gb594, _, none⟩) NB585_594.out _).trans (((cell_far (p := ⟨gb594, _, none⟩) NB585_594.out _).trans (((cell_far (p := ⟨gb594, _, none⟩) NB585_594.out _).trans (((cell_far (p := ⟨gb594, _, none⟩) NB585_594.out _).trans (hHeld.2.1)))))))), ((cell_far (p := ⟨gb594, _, none⟩) (by first | exact Nat.ne_of_lt (Nat.lt_of_lt_of_le (by have := World.block_lt_of_cell? _ _ hw589_0; first | rwa [add_block] at this | exact this) GW594.out) | (rw [add_block]; exact Nat.ne_of_lt (Nat.lt_of_lt_of_le (by have := World.block_lt_of_cell? _ _ hw589_0; first | rwa [add_block] at this | exact this) GW594.out)) | (show (Addr.add _ _).block ≠ _; rw [add_block]; exact Nat.ne_of_lt (Nat.lt_of_lt_of_le (by have := World.block_lt_of_cell? _ _ hw589_0; first | rwa [add_block] at this | exact this) GW594.out)) | (dsimp only; exact Nat.ne_of_lt (Nat.lt_of_lt_of_le (by have := World.block_lt_of_cell? _ _ hw589_0; first | rwa [add_block] at this | exact this) GW594.out))) _).trans (((cell_far (p := ⟨gb594, _, none⟩) (by first | exact Nat.ne_of_lt (Nat.lt_of_lt_of_le (by have := World.block_lt_of_cell? _ _ hw589_0; first | rwa [add_block] at this | exact this) GW594.out) | (rw [add_block]; exact Nat.ne_of_lt (Nat.lt_of_lt_of_le (by have := World.block_lt_of_cell? _ _ hw589_0; first | rwa [add_block] at this | exact this) GW594.out)) | (show (Addr.add _ _).block ≠ _; rw [add_block]; exact Nat.ne_of_lt (Nat.lt_of_lt_of_le (by have := World.block_lt_of_cell? _ _ hw589_0; first | rwa [add_block] at this | exact this) GW594.out)) | (dsimp only; exact Nat.ne_of_lt (Nat.lt_of_lt_of_le (by have := World.block_lt_of_cell? _ _ hw589_0; first | rwa [add_block] at this | exact this) GW594.out))) _).trans (((cell_far (p := ⟨gb594, _, none⟩) (by first | exact Nat.ne_of_lt (Nat.lt_of_lt_of_le (by have := World.block_lt_of_cell? _ _ hw589_0; first | rwa [add_block] at this | exact this) GW594.out) | (rw [add_block]; exact Nat.ne_of_lt (Nat.lt_of_lt_of_le (by have := World.block_lt_of_cell? _ _ hw589_0; first | rwa [add_block] at this | exact this) GW594.out)) | (show (Addr.add _ _).block ≠ _; rw [add_block]; exact Nat.ne_of_lt (Nat.lt_of_lt_of_le (by have := World.block_lt_of_cell? _ _ hw589_0; first | rwa [add_block] at this | exact this) GW594.out)) | (dsimp only; exact Nat.ne_of_lt (Nat.lt_of_lt_of_le (by have := World.block_lt_of_cell? _ _ hw589_0; first | rwa [add_block] at this | exact this) GW594.out))) _).trans (((cell_far (p := ⟨gb594, _, none⟩) (by first | exact Nat.ne_of_lt (Nat.lt_of_lt_of_le (by have := World.block_lt_of_cell? _ _ hw589_0; first | rwa [add_block] at this | exact this) GW594.out) | (rw [add_block]; exact Nat.ne_of_lt (Nat.lt_of_lt_of_le (by have := World.block_lt_of_cell? _ _ hw589_0; first | rwa [add_block] at this | exact this) GW594.out)) | (show (Addr.add _ _).block ≠ _; rw [add_block]; exact Nat.ne_of_lt (Nat.lt_of_lt_of_le (by have := World.block_lt_of_cell? _ _ hw589_0; first | rwa [add_block] at this | exact this) GW594.out)) | (dsimp only; exact Nat.ne_of_lt (Nat.lt_of_lt_of_le (by have := World.block_lt_of_cell? _ _ hw589_0; first | rwa [add_block] at this | exact this) GW594.out))) _).trans (hHeld.2.2))))))))⟩ (fun hHeld => ?_)
                  clear hK K
                  refine done_ (done_of HT_.out (by kernel_rfl)) ?_
                  have hnb34 := NB594_585.out
                  have hnc34 := NB585_594.out
                  have hnb35 := NB594_586.out
                  have hnc35 := NB586_594.out
                  have hnb36 := NB594_588.out
                  have hnc36 := NB588_594.out
                  have hcz37_0 : w29.cell? ⟨gb594, 0, none⟩ = some (.int .i64 0) := (blk_cell BK594.out 0).trans rfl
                  have hcz37_1 : w29.cell? ⟨gb594, 1, none⟩ = some (.int .i64 0) := (blk_cell BK594.out 1).trans rfl
                  have hcz37_2 : w29.cell? ⟨gb594, 2, none⟩ = some (.int .i64 0) := (blk_cell BK594.out 2).trans rfl
                  have hcz37_3 : w29.cell? ⟨gb594, 3, none⟩ = some (.int .i64 0) := (blk_cell BK594.out 3).trans rfl
                  have hfz37_0 := blk_frozen BK594.out 0
                  have hfz37_1 := blk_frozen BK594.out 1
                  have hfz37_2 := blk_frozen BK594.out 2
                  have hfz37_3 := blk_frozen BK594.out 3
                  have hnb38 := NB585_586.out
                  have hnc38 := NB586_585.out
                  have hnb39 := NB585_588.out
                  have hnc39 := NB588_585.out
                  have hcz40_0 : w29.cell? ⟨gb585, 0, none⟩ = some (.int .i64 x586000_1) := (blk_cell BK585.out 0).trans rfl
                  have hcz40_1 : w29.cell? ⟨gb585, 1, none⟩ = some (.int .i64 x586001_1) := (blk_cell BK585.out 1).trans rfl
                  have hfz40_0 := blk_frozen BK585.out 0
                  have hfz40_1 := blk_frozen BK585.out 1
                  try go_wp2
                  have n0_ : Aside0 (Kd.R (Kd.int .i64) 2 ((((((w29.setCell ⟨gb594, 0, none⟩ (.int .i64 t590)).setCell ⟨gb594, 1, none⟩ (.int .i64 t591)).setCell ⟨gb594, 2, none⟩ (.int .i64 t592)).setCell ⟨gb594, 3, none⟩ (.int .i64 t593)).setCell ⟨gb585, 0, none⟩ (.int .i64 t592)).setCell ⟨gb585, 1, none⟩ (.int .i64 t593)) w.heap.size (fun _ => True) u589001 x589001_1) := ⟨by (with_reducible repeat (first | apply Kd.R_alloc | apply Kd.R_drewN | apply Kd.R_drew)); exact Kd.R_mono (Kd.R_far (p := ⟨gb585, 1, none⟩) (Kd.R_far (p := ⟨gb585, 0, none⟩) (Kd.R_far (p := ⟨gb594, 3, none⟩) (Kd.R_far (p := ⟨gb594, 2, none⟩) (Kd.R_far (p := ⟨gb594, 1, none⟩) (Kd.R_far (p := ⟨gb594, 0, none⟩) (Kd.R_types (Kd.R_types HO_589001.out BK594.out (by decide)) BK585.out (by decide)) (fun _ hk => hk.1.2) (.int .i64 t590)) (fun _ hk => hk.1.2) (.int .i64 t591)) (fun _ hk => hk.1.2) (.int .i64 t592)) (fun _ hk => hk.1.2) (.int .i64 t593)) (fun _ hk => hk.2) (.int .i64 t592)) (fun _ hk => hk.2) (.int .i64 t593)) (fun _ hk => trivial)⟩
                  have n1_ : Aside0 (((((((w29.setCell ⟨gb594, 0, none⟩ (.int .i64 t590)).setCell ⟨gb594, 1, none⟩ (.int .i64 t591)).setCell ⟨gb594, 2, none⟩ (.int .i64 t592)).setCell ⟨gb594, 3, none⟩ (.int .i64 t593)).setCell ⟨gb585, 0, none⟩ (.int .i64 t592)).setCell ⟨gb585, 1, none⟩ (.int .i64 t593)).heap[gb585]? = some (.cells #[.int .i64 t592, .int .i64 t593] 25 (0, 0))) := ⟨by (with_reducible repeat (first | refine blk_drewN ?_ _ | refine blk_drew ?_ | refine blk_alloc ?_ _)); refine blk_put (cs := #[.int .i64 t592, .int .i64 x586001_1]) ?_ 1 _ rfl; (with_reducible repeat (first | refine blk_drewN ?_ _ | refine blk_drew ?_ | refine blk_alloc ?_ _)); refine blk_put (cs := #[.int .i64 x586000_1, .int .i64 x586001_1]) ?_ 0 _ rfl; (with_reducible repeat (first | refine blk_drewN ?_ _ | refine blk_drew ?_ | refine blk_alloc ?_ _)); refine blk_far ?_ NB585_594.out _; (with_reducible repeat (first | refine blk_drewN ?_ _ | refine blk_drew ?_ | refine blk_alloc ?_ _)); refine blk_far ?_ NB585_594.out _; (with_reducible repeat (first | refine blk_drewN ?_ _ | refine blk_drew ?_ | refine blk_alloc ?_ _)); refine blk_far ?_ NB585_594.out _; (with_reducible repeat (first | refine blk_drewN ?_ _ | refine blk_drew ?_ | refine blk_alloc ?_ _)); refine blk_far ?_ NB585_594.out _; (with_reducible repeat (first | refine blk_drewN ?_ _ | refine blk_drew ?_ | refine blk_alloc ?_ _)); exact BK585.out⟩
                  have n2_ : Aside0 (((((((w29.setCell ⟨gb594, 0, none⟩ (.int .i64 t590)).setCell ⟨gb594, 1, none⟩ (.int .i64 t591)).setCell ⟨gb594, 2, none⟩ (.int .i64 t592)).setCell ⟨gb594, 3, none⟩ (.int .i64 t593)).setCell ⟨gb585, 0, none⟩ (.int .i64 t592)).setCell ⟨gb585, 1, none⟩ (.int .i64 t593)).heap[gb586]? = some (.cells #[.int .i64 0, .slice none 0 0] 60 (0, 0))) := ⟨by (with_reducible repeat (first | refine blk_drewN ?_ _ | refine blk_drew ?_ | refine blk_alloc ?_ _)); refine blk_far ?_ NB586_585.out _; (with_reducible repeat (first | refine blk_drewN ?_ _ | refine blk_drew ?_ | refine blk_alloc ?_ _)); refine blk_far ?_ NB586_585.out _; (with_reducible repeat (first | refine blk_drewN ?_ _ | refine blk_drew ?_ | refine blk_alloc ?_ _)); refine blk_far ?_ NB586_594.out _; (with_reducible repeat (first | refine blk_drewN ?_ _ | refine blk_drew ?_ | refine blk_alloc ?_ _)); refine blk_far ?_ NB586_594.out _; (with_reducible repeat (first | refine blk_drewN ?_ _ | refine blk_drew ?_ | refine blk_alloc ?_ _)); refine blk_far ?_ NB586_594.out _; (with_reducible repeat (first | refine blk_drewN ?_ _ | refine blk_drew ?_ | refine blk_alloc ?_ _)); refine blk_far ?_ NB586_594.out _; (with_reducible repeat (first | refine blk_drewN ?_ _ | refine blk_drew ?_ | refine blk_alloc ?_ _)); exact BK586.out⟩
                  have n3_ : Aside0 (((((((w29.setCell ⟨gb594, 0, none⟩ (.int .i64 t590)).setCell ⟨gb594, 1, none⟩ (.int .i64 t591)).setCell ⟨gb594, 2, none⟩ (.int .i64 t592)).setCell ⟨gb594, 3, none⟩ (.int .i64 t593)).setCell ⟨gb585, 0, none⟩ (.int .i64 t592)).setCell ⟨gb585, 1, none⟩ (.int .i64 t593)).heap[gb588]? = some (.cells #[.int .i64 0, u589001] 60 (0, 0))) := ⟨by (with_reducible repeat (first | refine blk_drewN ?_ _ | refine blk_drew ?_ | refine blk_alloc ?_ _)); refine blk_far ?_ NB588_585.out _; (with_reducible repeat (first | refine blk_drewN ?_ _ | refine blk_drew ?_ | refine blk_alloc ?_ _)); refine blk_far ?_ NB588_585.out _; (with_reducible repeat (first | refine blk_drewN ?_ _ | refine blk_drew ?_ | refine blk_alloc ?_ _)); refine blk_far ?_ NB588_594.out _; (with_reducible repeat (first | refine blk_drewN ?_ _ | refine blk_drew ?_ | refine blk_alloc ?_ _)); refine blk_far ?_ NB588_594.out _; (with_reducible repeat (first | refine blk_drewN ?_ _ | refine blk_drew ?_ | refine blk_alloc ?_ _)); refine blk_far ?_ NB588_594.out _; (with_reducible repeat (first | refine blk_drewN ?_ _ | refine blk_drew ?_ | refine blk_alloc ?_ _)); refine blk_far ?_ NB588_594.out _; (with_reducible repeat (first | refine blk_drewN ?_ _ | refine blk_drew ?_ | refine blk_alloc ?_ _)); exact BK588.out⟩
                  have n4_ : Aside0 (((((((w29.setCell ⟨gb594, 0, none⟩ (.int .i64 t590)).setCell ⟨gb594, 1, none⟩ (.int .i64 t591)).setCell ⟨gb594, 2, none⟩ (.int .i64 t592)).setCell ⟨gb594, 3, none⟩ (.int .i64 t593)).setCell ⟨gb585, 0, none⟩ (.int .i64 t592)).setCell ⟨gb585, 1, none⟩ (.int .i64 t593)).heap[gb594]? = some (.cells #[.int .i64 t590, .int .i64 t591, .int .i64 t592, .int .i64 t593] 65 (0, 0))) := ⟨by (with_reducible repeat (first | refine blk_drewN ?_ _ | refine blk_drew ?_ | refine blk_alloc ?_ _)); refine blk_far ?_ NB594_585.out _; (with_reducible repeat (first | refine blk_drewN ?_ _ | refine blk_drew ?_ | refine blk_alloc ?_ _)); refine blk_far ?_ NB594_585.out _; (with_reducible repeat (first | refine blk_drewN ?_ _ | refine blk_drew ?_ | refine blk_alloc ?_ _)); refine blk_put (cs := #[.int .i64 t590, .int .i64 t591, .int .i64 t592, .int .i64 0]) ?_ 3 _ rfl; (with_reducible repeat (first | refine blk_drewN ?_ _ | refine blk_drew ?_ | refine blk_alloc ?_ _)); refine blk_put (cs := #[.int .i64 t590, .int .i64 t591, .int .i64 0, .int .i64 0]) ?_ 2 _ rfl; (with_reducible repeat (first | refine blk_drewN ?_ _ | refine blk_drew ?_ | refine blk_alloc ?_ _)); refine blk_put (cs := #[.int .i64 t590, .int .i64 0, .int .i64 0, .int .i64 0]) ?_ 1 _ rfl; (with_reducible repeat (first | refine blk_drewN ?_ _ | refine blk_drew ?_ | refine blk_alloc ?_ _)); refine blk_put (cs := #[.int .i64 0, .int .i64 0, .int .i64 0, .int .i64 0]) ?_ 0 _ rfl; (with_reducible repeat (first | refine blk_drewN ?_ _ | refine blk_drew ?_ | refine blk_alloc ?_ _)); exact BK594.out⟩
                  have n5_ : Aside0 (Below w.heap.size w ((((((w29.setCell ⟨gb594, 0, none⟩ (.int .i64 t590)).setCell ⟨gb594, 1, none⟩ (.int .i64 t591)).setCell ⟨gb594, 2, none⟩ (.int .i64 t592)).setCell ⟨gb594, 3, none⟩ (.int .i64 t593)).setCell ⟨gb585, 0, none⟩ (.int .i64 t592)).setCell ⟨gb585, 1, none⟩ (.int .i64 t593))) := ⟨by repeat (first | (with_reducible first | exact HB.out | apply below_alloc | apply pw_below_drewN | apply below_drew1 | refine below_set ?_ GE585.out | refine below_set ?_ GE586.out | refine below_set ?_ GE588.out | refine below_set ?_ GE594.out) | exact HB.out)⟩
                  (try clear HO_589001)
                  (try clear BK585)
                  (try clear BK586)
                  (try clear BK588)
                  (try clear BK594)
                  (try clear HB)
                  generalize ((((((w29.setCell ⟨gb594, 0, none⟩ (.int .i64 t590)).setCell ⟨gb594, 1, none⟩ (.int .i64 t591)).setCell ⟨gb594, 2, none⟩ (.int .i64 t592)).setCell ⟨gb594, 3, none⟩ (.int .i64 t593)).setCell ⟨gb585, 0, none⟩ (.int .i64 t592)).setCell ⟨gb585, 1, none⟩ (.int .i64 t593)) = w41 at n0_ n1_ n2_ n3_ n4_ n5_ ⊢
                  have HO_589001 := n0_
                  have BK585 := n1_
                  have BK586 := n2_
                  have BK588 := n3_
                  have BK594 := n4_
                  have HB := n5_
                  clear n0_ n1_ n2_ n3_ n4_ n5_
                  have n0_ := Aside0.mk (Kd.R_drew HO_589001.out)
                  have n1_ := Aside0.mk (blk_drew BK585.out)
                  have n2_ := Aside0.mk (blk_drew BK586.out)
                  have n3_ := Aside0.mk (blk_drew BK588.out)
                  have n4_ := Aside0.mk (blk_drew BK594.out)
                  have n5_ := Aside0.mk (below_drew1 HB.out)
                  clear HO_589001
                  clear BK585
                  clear BK586
                  clear BK588
                  clear BK594
                  clear HB
                  have HO_589001 := n0_
                  have BK585 := n1_
                  have BK586 := n2_
                  have BK588 := n3_
                  have BK594 := n4_
                  have HB := n5_
                  clear n0_ n1_ n2_ n3_ n4_ n5_
                  have p595 : 0 ≤ (x7_1 : Int) := of_decide_eq_true (by first | (with_reducible assumption) | assumption)
                  have q595 : x7_1 < (l1.length : Int) := of_decide_eq_true (by first | (with_reducible assumption) | assumption)
                  obtain ⟨ad595, e595, hx595_0⟩ := Kd.at_int HR1.out x7_1 p595 q595
                  have hw595_0 := hx595_0
                  obtain rfl : ad589 = ad595 := (by injection e595)
                  replace hx595_0 := (HB.out.cell (World.block_lt_of_cell? w _ hx595_0)).trans hx595_0
                  replace p595 := eq_true p595
                  replace q595 := eq_true q595
                  refine start_ (n := 10) (S := fun w' => w'.cell? ⟨gb588, 0, none⟩ = some (.int .i64 0) ∧ w'.cell? ⟨gb588, 1, none⟩ = some (u589001) ∧ w'.cell? (ad589.add (x7_1).toNat) = some (.int .i64 (rd l1 x7_1))) (ds := [9]) #[false, false, false, false, false, false, false, false, false, false] (by kernel_rfl) rfl rfl ⟨(blk_cell BK588.out 0).trans rfl, (blk_cell BK588.out 1).trans rfl, ((HB.out.cell (World.block_lt_of_cell? w _ hw595_0)).trans hw595_0)⟩ (fun hHeld => ?_); refine with_tabW spec_TakeAll.tab13 spec_TakeAll.bits13 (fun HT_ HW_ => ?_)
                  generalize w41.drew = w42 at HO_589001 BK585 BK586 BK588 BK594 HB hx595_0 hHeld ⊢
                  refine pure_ (i := 0) (N := some 37) (v := ?_) (a' := ?_) #[true, false, false, false, false, false, false, false, false, false] rfl rfl (any_of HT_.out (by kernel_rfl)) (fun _ _ _ h => h) (Or.inl ⟨by rfl, ?_⟩) ?_ ?_
                  rotate_left
                  · intro w'
                    go_simp
                    with_reducible rfl
                  rotate_left
                  · simp only [Act.put, List.setIfInBounds_toArray, List.set_cons_zero, List.set_cons_succ, i64_w, i32_w]
                    rfl
                  refine pure_ (i := 2) (N := some 39) (v := ?_) (a' := ?_) #[true, false, true, false, false, false, false, false, false, false] rfl rfl (any_of HT_.out (by kernel_rfl)) (fun _ _ _ h => h) (Or.inl ⟨by rfl, ?_⟩) ?_ ?_
                  rotate_left
                  · intro w'
                    go_simp
                    with_reducible rfl
                  rotate_left
                  · simp only [Act.put, List.setIfInBounds_toArray, List.set_cons_zero, List.set_cons_succ, i64_w, i32_w]
                    rfl
                  refine pure_ (i := 3) (N := some 40) (v := ?_) (a' := ?_) #[true, false, true, true, false, false, false, false, false, false] rfl rfl (any_of HT_.out (by kernel_rfl)) (fun _ _ _ h => h) (Or.inl ⟨by rfl, ?_⟩) ?_ ?_
                  rotate_left
                  · intro w'
                    go_simp
                    with_reducible rfl
                  rotate_left
                  · simp only [Act.put, List.setIfInBounds_toArray, List.set_cons_zero, List.set_cons_succ, i64_w, i32_w]
                    rfl
                  refine pure_ (i := 4) (N := some 41) (v := ?_) (a' := ?_) #[true, false, true, true, true, false, false, false, false, false] rfl rfl (any_of HT_.out (by kernel_rfl)) (fun _ _ _ h => h) (Or.inl ⟨by rfl, ?_⟩) ?_ ?_
                  rotate_left
                  · intro w'
                    go_simp
                    with_reducible rfl
                  rotate_left
                  · simp only [Act.put, List.setIfInBounds_toArray, List.set_cons_zero, List.set_cons_succ, i64_w, i32_w]
                    rfl
                  refine take_ (i := 1) (N := some 38) (v := ?_) (a' := ?_) #[true, true, true, true, true, false, false, false, false, false] rfl rfl (take_ofW HT_.out HW_.out (by kernel_rfl)) (fun _ _ _ h => h) (Or.inl ⟨by rfl, ?_⟩) hHeld ?_ ?_
                  rotate_left
                  · rintro w' ⟨s0, s1, s2⟩
                    go_simp
                    with_reducible rfl
                  rotate_left
                  · simp only [Act.put, List.setIfInBounds_toArray, List.set_cons_zero, List.set_cons_succ, i64_w, i32_w]
                    rfl
                  refine take_ (i := 5) (N := some 42) (v := ?_) (a' := ?_) #[true, true, true, true, true, true, false, false, false, false] rfl rfl (take_ofW HT_.out HW_.out (by kernel_rfl)) (fun _ _ _ h => h) (Or.inl ⟨by rfl, ?_⟩) hHeld ?_ ?_
                  rotate_left
                  · rintro w' ⟨s0, s1, s2⟩
                    go_simp
                    with_reducible rfl
                  rotate_left
                  · simp only [Act.put, List.setIfInBounds_toArray, List.set_cons_zero, List.set_cons_succ, i64_w, i32_w]
                    rfl
                  refine one_ (i := 6) (N := some 43) #[true, true, true, true, true, true, true, false, false, false] rfl rfl (one_of HT_.out (by kernel_rfl)) (by decide) (fun K hK => ?_)
                  refine value_ (w1 := ?_) (v := ?_) (by rfl) rfl ?_ ?_
                  rotate_left 2
                  · go_simp
                    constructor
                    · rfl
                    · rfl
                  refine hK.out _ _ ⟨(blk_cell (blk_alloc BK588.out _) 0).trans rfl, (blk_cell (blk_alloc BK588.out _) 1).trans rfl, (World.cell?_alloc_lt _ _ _ (World.block_lt_of_cell? _ _ (((HB.out.cell (World.block_lt_of_cell? w _ hw595_0)).trans hw595_0)))).trans (((HB.out.cell (World.block_lt_of_cell? w _ hw595_0)).trans hw595_0))⟩ (fun hHeld => ?_)
                  clear hK K
                  refine norm_ (a' := ?_) ?_ ?_
                  rotate_left
                  · show Act.put _ (some 43) _ = _
                    simp only [Act.put, List.setIfInBounds_toArray, List.set_cons_zero, List.set_cons_succ, i64_w, i32_w]
                    rfl
                  refine one_ (i := 7) (N := some 44) #[true, true, true, true, true, true, true, true, false, false] rfl rfl (one_of HT_.out (by kernel_rfl)) (by decide) (fun K hK => ?_)
                  refine Kd.R_append_step (Kd.int .i64) (w0 := w) w.heap.size (by rfl) (.tmp 38) (.tmp 43) 58 2 (.int .i64 0) 8 rfl Try.underlying58 info2 rfl (by decide) (by omega) u589001 x589001_1 (rd l1 x7_1) [.int .i64 (rd l1 x7_1)] (fun _ => True) (fun _ => False) rfl rfl ?aP (fun _ hk => hk.elim) ?aF ?aO ?aB ?aS ?aL ?_
                  (case aP => exact rfl)
                  (case aB => exact (by repeat (first | (with_reducible first | exact HB.out | apply below_alloc | apply pw_below_drewN | apply below_drew1 | refine below_set ?_ GE585.out | refine below_set ?_ GE586.out | refine below_set ?_ GE588.out | refine below_set ?_ GE594.out) | exact HB.out)))
                  (case aF => exact (fun _ _ => trivial))
                  (case aO => exact (by (with_reducible repeat (first | apply Kd.R_alloc | apply Kd.R_drewN | apply Kd.R_drew)); exact HO_589001.out))
                  (case aS => exact (below_size (by repeat (first | (with_reducible first | exact HB.out | apply below_alloc | apply pw_below_drewN | apply below_drew1 | refine below_set ?_ GE585.out | refine below_set ?_ GE586.out | refine below_set ?_ GE588.out | refine below_set ?_ GE594.out) | exact HB.out))))
                  (case aL => have := LMc25.out; omega)
                  intro v597 w43 ho hb hg hat
                  rw [← Ny596.out] at ho
                  have n0_ := Aside0.mk (blk_grown (g := gb585) (o := .cells #[.int .i64 t592, .int .i64 t593] 25 (0, 0)) (by (with_reducible repeat (first | refine blk_drewN ?_ _ | refine blk_drew ?_ | refine blk_alloc ?_ _)); exact BK585.out) hg (Kd.R_ne HO_589001.out BK585.out (by decide)))
                  have n1_ := Aside0.mk (blk_grown (g := gb586) (o := .cells #[.int .i64 0, .slice none 0 0] 60 (0, 0)) (by (with_reducible repeat (first | refine blk_drewN ?_ _ | refine blk_drew ?_ | refine blk_alloc ?_ _)); exact BK586.out) hg (Kd.R_ne HO_589001.out BK586.out (by decide)))
                  have n2_ := Aside0.mk (blk_grown (g := gb588) (o := .cells #[.int .i64 0, u589001] 60 (0, 0)) (by (with_reducible repeat (first | refine blk_drewN ?_ _ | refine blk_drew ?_ | refine blk_alloc ?_ _)); exact BK588.out) hg (Kd.R_ne HO_589001.out BK588.out (by decide)))
                  have n3_ := Aside0.mk (blk_grown (g := gb594) (o := .cells #[.int .i64 t590, .int .i64 t591, .int .i64 t592, .int .i64 t593] 65 (0, 0)) (by (with_reducible repeat (first | refine blk_drewN ?_ _ | refine blk_drew ?_ | refine blk_alloc ?_ _)); exact BK594.out) hg (Kd.R_ne HO_589001.out BK594.out (by decide)))
                  have n4_ := Aside0.mk (hb)
                  have n5_ := Aside0.mk (ho)
                  clear BK585
                  clear BK586
                  clear BK588
                  clear BK594
                  clear HB
                  clear HO_589001
                  have BK585 := n0_
                  have BK586 := n1_
                  have BK588 := n2_
                  have BK594 := n3_
                  have HB := n4_
                  have HO598 := n5_
                  clear n0_ n1_ n2_ n3_ n4_ n5_
                  clear ho hb hg hat
                  obtain ⟨Ao44, co44, eo44⟩ := Kd.R_slice HO598.out
                  (first | subst eo44 | (injection eo44 with f1_ f2_ f3_; have f4_ := f1_.symm; have f5_ := f3_.symm; clear f1_ f2_ f3_; subst f4_; subst f5_))
                  refine hK.out _ _ ⟨(blk_cell BK588.out 0).trans rfl, (blk_cell BK588.out 1).trans rfl, ((HB.out.cell (World.block_lt_of_cell? w _ hw595_0)).trans hw595_0)⟩ (fun hHeld => ?_)
                  clear hK K
                  refine norm_ (a' := ?_) ?_ ?_
                  rotate_left
                  · show Act.put _ (some 44) _ = _
                    simp only [Act.put, List.setIfInBounds_toArray, List.set_cons_zero, List.set_cons_succ, i64_w, i32_w]
                    rfl
                  refine pure_ (i := 8) (N := some 45) (v := ?_) (a' := ?_) #[true, true, true, true, true, true, true, true, true, false] rfl rfl (any_of HT_.out (by kernel_rfl)) (fun _ _ _ h => h) (Or.inl ⟨by rfl, ?_⟩) ?_ ?_
                  rotate_left
                  · intro w'
                    go_simp
                    with_reducible rfl
                  rotate_left
                  · simp only [Act.put, List.setIfInBounds_toArray, List.set_cons_zero, List.set_cons_succ, i64_w, i32_w]
                    rfl
                  refine last_ (i := 9) (N := none) #[true, true, true, true, true, true, true, true, true, true] rfl rfl (one_of HT_.out (by kernel_rfl)) (by decide) (fun K hK => ?_)
                  have hs45 : w43.cell? ⟨gb588, 1, none⟩ = some (u589001) := (blk_cell BK588.out 1).trans rfl
                  have hfs45 := blk_frozen BK588.out 1
                  have hns45_0 := NB585_588.out
                  have hns45_1 := NB586_588.out
                  have hns45_3 := NB594_588.out
                  have hms45_0 := NB588_585.out
                  have hms45_1 := NB588_586.out
                  have hms45_3 := NB588_594.out
                  refine skip_ (w1 := ?_) (by rfl) rfl ?_ ?_
                  rotate_left
                  · go_simp
                    rfl
                  refine hK.out _ _ ?_
                  clear hK K
                  refine done_ (done_of HT_.out (by kernel_rfl)) ?_
                  try go_wp2
                  go_roundg k1
                  case measure => have := HK1.out; omega
                  case rel => exact ⟨(wrap64 (x7_1 + 1)), (t592), (t593), (y596), (.slice Ao44 y596.length co44), (by first | rfl | (simp; done) | (simp [*]; done)), H', ⟨by have := HK1.out; omega⟩, ⟨by (with_reducible repeat (first | apply Kd.R_alloc | apply Kd.R_drewN | apply Kd.R_drew)); exact Kd.R_mono (Kd.R_far (p := ⟨gb588, 1, none⟩) (Kd.R_types HO598.out BK588.out (by decide)) (fun _ hk => hk.2) (.slice Ao44 y596.length co44)) (fun _ hk => trivial)⟩, ⟨by (with_reducible repeat (first | refine blk_drewN ?_ _ | refine blk_drew ?_ | refine blk_alloc ?_ _)); refine blk_far ?_ NB585_588.out _; (with_reducible repeat (first | refine blk_drewN ?_ _ | refine blk_drew ?_ | refine blk_alloc ?_ _)); exact BK585.out⟩, ⟨by (with_reducible repeat (first | refine blk_drewN ?_ _ | refine blk_drew ?_ | refine blk_alloc ?_ _)); refine blk_far ?_ NB586_588.out _; (with_reducible repeat (first | refine blk_drewN ?_ _ | refine blk_drew ?_ | refine blk_alloc ?_ _)); exact BK586.out⟩, ⟨by (with_reducible repeat (first | refine blk_drewN ?_ _ | refine blk_drew ?_ | refine blk_alloc ?_ _)); refine blk_put (cs := #[.int .i64 0, u589001]) ?_ 1 _ rfl; (with_reducible repeat (first | refine blk_drewN ?_ _ | refine blk_drew ?_ | refine blk_alloc ?_ _)); exact BK588.out⟩, ⟨by repeat (first | (with_reducible first | exact HB.out | apply below_alloc | apply pw_below_drewN | apply below_drew1 | refine below_set ?_ GE585.out | refine below_set ?_ GE586.out | refine below_set ?_ GE588.out | refine below_set ?_ GE594.out) | exact HB.out)⟩⟩
                · rw [if_neg c25] at H
                  exact absurd H (by simp)
              · rw [if_neg c24] at H
                have c24b0 : (t590 == 0) = false := beq_eq_false_iff_ne.mpr c24
                have c24b1 : (t590 != 0) = true := bne_iff_ne.mpr c24
                have H' := Aside0.mk H
                clear H
                try go_wp2
                have n0_ := Aside0.mk (Kd.R_drew HO_589001.out)
                have n1_ := Aside0.mk (blk_drew BK585.out)
                have n2_ := Aside0.mk (blk_drew BK586.out)
                have n3_ := Aside0.mk (blk_drew BK588.out)
                have n4_ := Aside0.mk (below_drew1 HB.out)
                clear HO_589001
                clear BK585
                clear BK586
                clear BK588
                clear HB
                have HO_589001 := n0_
                have BK585 := n1_
                have BK586 := n2_
                have BK588 := n3_
                have HB := n4_
                clear n0_ n1_ n2_ n3_ n4_
                have p589 : 0 ≤ (x7_1 : Int) := of_decide_eq_true (by first | (with_reducible assumption) | assumption)
                have q589 : x7_1 < (l1.length : Int) := of_decide_eq_true (by first | (with_reducible assumption) | assumption)
                obtain ⟨ad589, e589, hx589_0⟩ := Kd.at_int HR1.out x7_1 p589 q589
                have hw589_0 := hx589_0
                cases e589
                replace hx589_0 := (HB.out.cell (World.block_lt_of_cell? w _ hx589_0)).trans hx589_0
                replace p589 := eq_true p589
                replace q589 := eq_true q589
                refine start_ (n := 8) (S := fun w' => w'.cell? ⟨gb585, 0, none⟩ = some (.int .i64 x586000_1) ∧ w'.cell? ⟨gb585, 1, none⟩ = some (.int .i64 x586001_1) ∧ w'.cell? (ad589.add (x7_1).toNat) = some (.int .i64 (rd l1 x7_1))) (ds := []) #[false, false, false, false, false, false, false, false] (by kernel_rfl) rfl rfl ⟨(blk_cell BK585.out 0).trans rfl, (blk_cell BK585.out 1).trans rfl, ((HB.out.cell (World.block_lt_of_cell? w _ hw589_0)).trans hw589_0)⟩ (fun hHeld => ?_); refine with_tabW spec_TakeAll.tab10 spec_TakeAll.bits10 (fun HT_ HW_ => ?_)
                generalize wr.drew = w46 at HO_589001 BK585 BK586 BK588 HB hx589_0 hHeld ⊢
                refine pure_ (i := 1) (N := some 27) (v := ?_) (a' := ?_) #[false, true, false, false, false, false, false, false] rfl rfl (any_of HT_.out (by kernel_rfl)) (fun _ _ _ h => h) (Or.inl ⟨by rfl, ?_⟩) ?_ ?_
                rotate_left
                · intro w'
                  go_simp
                  with_reducible rfl
                rotate_left
                · simp only [Act.put, List.setIfInBounds_toArray, List.set_cons_zero, List.set_cons_succ, i64_w, i32_w]
                  rfl
                refine pure_ (i := 2) (N := some 28) (v := ?_) (a' := ?_) #[false, true, true, false, false, false, false, false] rfl rfl (any_of HT_.out (by kernel_rfl)) (fun _ _ _ h => h) (Or.inl ⟨by rfl, ?_⟩) ?_ ?_
                rotate_left
                · intro w'
                  go_simp
                  with_reducible rfl
                rotate_left
                · simp only [Act.put, List.setIfInBounds_toArray, List.set_cons_zero, List.set_cons_succ, i64_w, i32_w]
                  rfl
                refine pure_ (i := 3) (N := some 29) (v := ?_) (a' := ?_) #[false, true, true, true, false, false, false, false] rfl rfl (any_of HT_.out (by kernel_rfl)) (fun _ _ _ h => h) (Or.inl ⟨by rfl, ?_⟩) ?_ ?_
                rotate_left
                · intro w'
                  go_simp
                  with_reducible rfl
                rotate_left
                · simp only [Act.put, List.setIfInBounds_toArray, List.set_cons_zero, List.set_cons_succ, i64_w, i32_w]
                  rfl
                refine take_ (i := 0) (N := some 26) (v := ?_) (a' := ?_) #[true, true, true, true, false, false, false, false] rfl rfl (take_ofW HT_.out HW_.out (by kernel_rfl)) (fun _ _ _ h => h) (Or.inl ⟨by rfl, ?_⟩) hHeld ?_ ?_
                rotate_left
                · rintro w' ⟨s0, s1, s2⟩
                  go_simp
                  with_reducible rfl
                rotate_left
                · simp only [Act.put, List.setIfInBounds_toArray, List.set_cons_zero, List.set_cons_succ, i64_w, i32_w]
                  rfl
                refine take_ (i := 4) (N := some 30) (v := ?_) (a' := ?_) #[true, true, true, true, true, false, false, false] rfl rfl (take_ofW HT_.out HW_.out (by kernel_rfl)) (fun _ _ _ h => h) (Or.inl ⟨by rfl, ?_⟩) hHeld ?_ ?_
                rotate_left
                · rintro w' ⟨s0, s1, s2⟩
                  go_simp
                  with_reducible rfl
                rotate_left
                · simp only [Act.put, List.setIfInBounds_toArray, List.set_cons_zero, List.set_cons_succ, i64_w, i32_w]
                  rfl
                refine join_ (σ := Nat) 1 #[true, true, true, true, true, true, true, false] (fun s_ => [(31, .agg #[.int .i64 t590, .int .i64 t591, .int .i64 t592, .int .i64 t593]), (8, .pointer (some ⟨s_, 0, none⟩))]) (fun s_ w' => (w'.cell? ⟨gb585, 0, none⟩ = some (.int .i64 x586000_1) ∧ w'.cell? ⟨gb585, 1, none⟩ = some (.int .i64 x586001_1) ∧ w'.cell? (ad589.add (x7_1).toNat) = some (.int .i64 (rd l1 x7_1))) ∧ (Kd.R (Kd.int .i64) 2 w' w.heap.size (fun _ => True) u589001 x589001_1) ∧ (w'.heap[gb585]? = some (.cells #[.int .i64 x586000_1, .int .i64 x586001_1] 25 (0, 0))) ∧ (w'.heap[gb586]? = some (.cells #[.int .i64 0, .slice none 0 0] 60 (0, 0))) ∧ (w'.heap[gb588]? = some (.cells #[.int .i64 0, u589001] 60 (0, 0))) ∧ (w'.heap[s_]? = some (.cells #[.int .i64 0, .int .i64 0, .int .i64 0, .int .i64 0] 65 (0, 0))) ∧ (w.heap.size ≤ s_) ∧ (w.heap.size ≤ s_) ∧ (gb585 ≠ s_) ∧ (s_ ≠ gb585) ∧ (gb586 ≠ s_) ∧ (s_ ≠ gb586) ∧ (gb588 ≠ s_) ∧ (s_ ≠ gb588) ∧ (Below w.heap.size w w')) ?_ ?_
                rotate_left
                · intro hCont
                  refine two_ (i := 5) (j := 6) (Ni := some 31) (Nj := some 8) #[true, true, true, true, true, true, false, false] #[true, true, true, true, true, false, true, false] rfl rfl rfl rfl (two_of HT_.out (by kernel_rfl)) (by decide) (by decide) (fun K hK => ?_) (fun K hK => ?_)
                  · skip
                    refine goes_ Try.func81 (by kernel_rfl) rfl #[.agg #[.int .i64 x586000_1, .int .i64 x586001_1], .int .i64 (rd l1 x7_1)] (by rfl) rfl rfl (by (try simp only [List.map_toArray, List.map_cons, List.map_nil]); first | done | rfl | (simp only [List.length_drop, List.length_take]; rfl)) ?_
                    with_reducible refine (spec_l10Take.calls x586000_1 x586001_1 (rd l1 x7_1) t590 t591 t592 t593 _ A23.out).mono ?_
                    rintro e w47 ⟨rfl, hb⟩
                    refine ⟨_, rfl, ?_⟩
                    have n0_ := Aside0.mk (Kd.R_below (by (with_reducible repeat (first | apply Kd.R_alloc | apply Kd.R_drewN | apply Kd.R_drew)); exact HO_589001.out) hb)
                    have n1_ := Aside0.mk (blk_below (g := gb585) (o := .cells #[.int .i64 x586000_1, .int .i64 x586001_1] 25 (0, 0)) (by (with_reducible repeat (first | refine blk_drewN ?_ _ | refine blk_drew ?_ | refine blk_alloc ?_ _)); exact BK585.out) hb)
                    have n2_ := Aside0.mk (blk_below (g := gb586) (o := .cells #[.int .i64 0, .slice none 0 0] 60 (0, 0)) (by (with_reducible repeat (first | refine blk_drewN ?_ _ | refine blk_drew ?_ | refine blk_alloc ?_ _)); exact BK586.out) hb)
                    have n3_ := Aside0.mk (blk_below (g := gb588) (o := .cells #[.int .i64 0, u589001] 60 (0, 0)) (by (with_reducible repeat (first | refine blk_drewN ?_ _ | refine blk_drew ?_ | refine blk_alloc ?_ _)); exact BK588.out) hb)
                    have n4_ := Aside0.mk (below_step (by repeat (first | (with_reducible first | exact HB.out | apply below_alloc | apply pw_below_drewN | apply below_drew1 | refine below_set ?_ GE585.out | refine below_set ?_ GE586.out | refine below_set ?_ GE588.out) | exact HB.out)) hb)
                    clear HO_589001
                    clear BK585
                    clear BK586
                    clear BK588
                    clear HB
                    have HO_589001 := n0_
                    have BK585 := n1_
                    have BK586 := n2_
                    have BK588 := n3_
                    have HB := n4_
                    clear n0_ n1_ n2_ n3_ n4_
                    (try clear hb)
                    (try clear hb2)
                    (try clear hk)
                    (try clear hi)
                    refine hK.out _ _ ⟨(blk_cell BK585.out 0).trans rfl, (blk_cell BK585.out 1).trans rfl, ((HB.out.cell (World.block_lt_of_cell? w _ hw589_0)).trans hw589_0)⟩ (fun hHeld => ?_)
                    clear hK K
                    refine norm_ (a' := ?_) ?_ ?_
                    rotate_left
                    · show Act.put _ (some 31) _ = _
                      simp only [Act.put, List.setIfInBounds_toArray, List.set_cons_zero, List.set_cons_succ, i64_w, i32_w]
                      rfl
                    refine one_ (i := 6) (N := some 8) #[true, true, true, true, true, true, true, false] rfl rfl (one_of HT_.out (by kernel_rfl)) (by decide) (fun K hK => ?_)
                    refine box_step ?hg (N := 8) ?hd (cs := #[.int .i64 0, .int .i64 0, .int .i64 0, .int .i64 0]) (t := 65) ?hr ?_; (case hd => rfl); (case hg => rfl); (case hr => first | (go_simp; done) | (go_simp; rfl))
                    intro gb594 hg w48 hbox hb
                    have n0_ := Aside0.mk (Kd.R_below (by (with_reducible repeat (first | apply Kd.R_alloc | apply Kd.R_drewN | apply Kd.R_drew)); exact HO_589001.out) hb)
                    have n1_ := Aside0.mk (blk_below (g := gb585) (o := .cells #[.int .i64 x586000_1, .int .i64 x586001_1] 25 (0, 0)) (by (with_reducible repeat (first | refine blk_drewN ?_ _ | refine blk_drew ?_ | refine blk_alloc ?_ _)); exact BK585.out) hb)
                    have n2_ := Aside0.mk (blk_below (g := gb586) (o := .cells #[.int .i64 0, .slice none 0 0] 60 (0, 0)) (by (with_reducible repeat (first | refine blk_drewN ?_ _ | refine blk_drew ?_ | refine blk_alloc ?_ _)); exact BK586.out) hb)
                    have n3_ := Aside0.mk (blk_below (g := gb588) (o := .cells #[.int .i64 0, u589001] 60 (0, 0)) (by (with_reducible repeat (first | refine blk_drewN ?_ _ | refine blk_drew ?_ | refine blk_alloc ?_ _)); exact BK588.out) hb)
                    have n4_ := Aside0.mk (below_step (by repeat (first | (with_reducible first | exact HB.out | apply below_alloc | apply pw_below_drewN | apply below_drew1 | refine below_set ?_ GE585.out | refine below_set ?_ GE586.out | refine below_set ?_ GE588.out) | exact HB.out)) hb)
                    have n5_ := Aside0.mk (hbox)
                    have n6_ := Aside0.mk ((by rw [hg]; exact (below_size (by repeat (first | (with_reducible first | exact HB.out | apply below_alloc | apply pw_below_drewN | apply below_drew1 | refine below_set ?_ GE585.out | refine below_set ?_ GE586.out | refine below_set ?_ GE588.out) | exact HB.out))) : w.heap.size ≤ gb594))
                    have n7_ := Aside0.mk ((by rw [hg]; exact (below_size (by repeat (first | (with_reducible first | exact HB.out | apply below_alloc | apply pw_below_drewN | apply below_drew1 | refine below_set ?_ GE585.out | refine below_set ?_ GE586.out | refine below_set ?_ GE588.out) | exact HB.out))) : w.heap.size ≤ gb594))
                    have n8_ := Aside0.mk ((by rw [hg]; exact Nat.ne_of_lt (blk_lt (g := gb585) (o := .cells #[.int .i64 x586000_1, .int .i64 x586001_1] 25 (0, 0)) (by (with_reducible repeat (first | refine blk_drewN ?_ _ | refine blk_drew ?_ | refine blk_alloc ?_ _)); exact BK585.out)) : gb585 ≠ gb594))
                    have n9_ := Aside0.mk ((by rw [hg]; exact Nat.ne_of_gt (blk_lt (g := gb585) (o := .cells #[.int .i64 x586000_1, .int .i64 x586001_1] 25 (0, 0)) (by (with_reducible repeat (first | refine blk_drewN ?_ _ | refine blk_drew ?_ | refine blk_alloc ?_ _)); exact BK585.out)) : gb594 ≠ gb585))
                    have n10_ := Aside0.mk ((by rw [hg]; exact Nat.ne_of_lt (blk_lt (g := gb586) (o := .cells #[.int .i64 0, .slice none 0 0] 60 (0, 0)) (by (with_reducible repeat (first | refine blk_drewN ?_ _ | refine blk_drew ?_ | refine blk_alloc ?_ _)); exact BK586.out)) : gb586 ≠ gb594))
                    have n11_ := Aside0.mk ((by rw [hg]; exact Nat.ne_of_gt (blk_lt (g := gb586) (o := .cells #[.int .i64 0, .slice none 0 0] 60 (0, 0)) (by (with_reducible repeat (first | refine blk_drewN ?_ _ | refine blk_drew ?_ | refine blk_alloc ?_ _)); exact BK586.out)) : gb594 ≠ gb586))
                    have n12_ := Aside0.mk ((by rw [hg]; exact Nat.ne_of_lt (blk_lt (g := gb588) (o := .cells #[.int .i64 0, u589001] 60 (0, 0)) (by (with_reducible repeat (first | refine blk_drewN ?_ _ | refine blk_drew ?_ | refine blk_alloc ?_ _)); exact BK588.out)) : gb588 ≠ gb594))
                    have n13_ := Aside0.mk ((by rw [hg]; exact Nat.ne_of_gt (blk_lt (g := gb588) (o := .cells #[.int .i64 0, u589001] 60 (0, 0)) (by (with_reducible repeat (first | refine blk_drewN ?_ _ | refine blk_drew ?_ | refine blk_alloc ?_ _)); exact BK588.out)) : gb594 ≠ gb588))
                    clear HO_589001
                    clear BK585
                    clear BK586
                    clear BK588
                    clear HB
                    have HO_589001 := n0_
                    have BK585 := n1_
                    have BK586 := n2_
                    have BK588 := n3_
                    have HB := n4_
                    have BK594 := n5_
                    have GW594 := n6_
                    have GE594 := n7_
                    have NB585_594 := n8_
                    have NB594_585 := n9_
                    have NB586_594 := n10_
                    have NB594_586 := n11_
                    have NB588_594 := n12_
                    have NB594_588 := n13_
                    clear n0_ n1_ n2_ n3_ n4_ n5_ n6_ n7_ n8_ n9_ n10_ n11_ n12_ n13_
                    clear hb hbox hg
                    refine hK.out _ _ ⟨(blk_cell BK585.out 0).trans rfl, (blk_cell BK585.out 1).trans rfl, ((HB.out.cell (World.block_lt_of_cell? w _ hw589_0)).trans hw589_0)⟩ (fun hHeld => ?_)
                    clear hK K
                    refine norm_ (a' := ?_) ?_ ?_
                    rotate_left
                    · show Act.put _ (some 8) _ = _
                      simp only [Act.put, List.setIfInBounds_toArray, List.set_cons_zero, List.set_cons_succ, i64_w, i32_w]
                      rfl
                    exact norm_ (by simp only [putAll, Act.put, List.setIfInBounds_toArray, List.set_cons_zero, List.set_cons_succ]) (hCont (gb594) _ ⟨hHeld, (by (with_reducible repeat (first | apply Kd.R_alloc | apply Kd.R_drewN | apply Kd.R_drew)); exact HO_589001.out), (by (with_reducible repeat (first | refine blk_drewN ?_ _ | refine blk_drew ?_ | refine blk_alloc ?_ _)); exact BK585.out), (by (with_reducible repeat (first | refine blk_drewN ?_ _ | refine blk_drew ?_ | refine blk_alloc ?_ _)); exact BK586.out), (by (with_reducible repeat (first | refine blk_drewN ?_ _ | refine blk_drew ?_ | refine blk_alloc ?_ _)); exact BK588.out), (by (with_reducible repeat (first | refine blk_drewN ?_ _ | refine blk_drew ?_ | refine blk_alloc ?_ _)); exact BK594.out), GW594.out, GE594.out, NB585_594.out, NB594_585.out, NB586_594.out, NB594_586.out, NB588_594.out, NB594_588.out, (by repeat (first | (with_reducible first | exact HB.out | apply below_alloc | apply pw_below_drewN | apply below_drew1 | refine below_set ?_ GE585.out | refine below_set ?_ GE586.out | refine below_set ?_ GE588.out | refine below_set ?_ GE594.out) | exact HB.out))⟩)
                  · skip
                    refine box_step ?hg (N := 8) ?hd (cs := #[.int .i64 0, .int .i64 0, .int .i64 0, .int .i64 0]) (t := 65) ?hr ?_; (case hd => rfl); (case hg => rfl); (case hr => first | (go_simp; done) | (go_simp; rfl))
                    intro gb594 hg w47 hbox hb
                    have n0_ := Aside0.mk (Kd.R_below (by (with_reducible repeat (first | apply Kd.R_alloc | apply Kd.R_drewN | apply Kd.R_drew)); exact HO_589001.out) hb)
                    have n1_ := Aside0.mk (blk_below (g := gb585) (o := .cells #[.int .i64 x586000_1, .int .i64 x586001_1] 25 (0, 0)) (by (with_reducible repeat (first | refine blk_drewN ?_ _ | refine blk_drew ?_ | refine blk_alloc ?_ _)); exact BK585.out) hb)
                    have n2_ := Aside0.mk (blk_below (g := gb586) (o := .cells #[.int .i64 0, .slice none 0 0] 60 (0, 0)) (by (with_reducible repeat (first | refine blk_drewN ?_ _ | refine blk_drew ?_ | refine blk_alloc ?_ _)); exact BK586.out) hb)
                    have n3_ := Aside0.mk (blk_below (g := gb588) (o := .cells #[.int .i64 0, u589001] 60 (0, 0)) (by (with_reducible repeat (first | refine blk_drewN ?_ _ | refine blk_drew ?_ | refine blk_alloc ?_ _)); exact BK588.out) hb)
                    have n4_ := Aside0.mk (below_step (by repeat (first | (with_reducible first | exact HB.out | apply below_alloc | apply pw_below_drewN | apply below_drew1 | refine below_set ?_ GE585.out | refine below_set ?_ GE586.out | refine below_set ?_ GE588.out) | exact HB.out)) hb)
                    have n5_ := Aside0.mk (hbox)
                    have n6_ := Aside0.mk ((by rw [hg]; exact (below_size (by repeat (first | (with_reducible first | exact HB.out | apply below_alloc | apply pw_below_drewN | apply below_drew1 | refine below_set ?_ GE585.out | refine below_set ?_ GE586.out | refine below_set ?_ GE588.out) | exact HB.out))) : w.heap.size ≤ gb594))
                    have n7_ := Aside0.mk ((by rw [hg]; exact (below_size (by repeat (first | (with_reducible first | exact HB.out | apply below_alloc | apply pw_below_drewN | apply below_drew1 | refine below_set ?_ GE585.out | refine below_set ?_ GE586.out | refine below_set ?_ GE588.out) | exact HB.out))) : w.heap.size ≤ gb594))
                    have n8_ := Aside0.mk ((by rw [hg]; exact Nat.ne_of_lt (blk_lt (g := gb585) (o := .cells #[.int .i64 x586000_1, .int .i64 x586001_1] 25 (0, 0)) (by (with_reducible repeat (first | refine blk_drewN ?_ _ | refine blk_drew ?_ | refine blk_alloc ?_ _)); exact BK585.out)) : gb585 ≠ gb594))
                    have n9_ := Aside0.mk ((by rw [hg]; exact Nat.ne_of_gt (blk_lt (g := gb585) (o := .cells #[.int .i64 x586000_1, .int .i64 x586001_1] 25 (0, 0)) (by (with_reducible repeat (first | refine blk_drewN ?_ _ | refine blk_drew ?_ | refine blk_alloc ?_ _)); exact BK585.out)) : gb594 ≠ gb585))
                    have n10_ := Aside0.mk ((by rw [hg]; exact Nat.ne_of_lt (blk_lt (g := gb586) (o := .cells #[.int .i64 0, .slice none 0 0] 60 (0, 0)) (by (with_reducible repeat (first | refine blk_drewN ?_ _ | refine blk_drew ?_ | refine blk_alloc ?_ _)); exact BK586.out)) : gb586 ≠ gb594))
                    have n11_ := Aside0.mk ((by rw [hg]; exact Nat.ne_of_gt (blk_lt (g := gb586) (o := .cells #[.int .i64 0, .slice none 0 0] 60 (0, 0)) (by (with_reducible repeat (first | refine blk_drewN ?_ _ | refine blk_drew ?_ | refine blk_alloc ?_ _)); exact BK586.out)) : gb594 ≠ gb586))
                    have n12_ := Aside0.mk ((by rw [hg]; exact Nat.ne_of_lt (blk_lt (g := gb588) (o := .cells #[.int .i64 0, u589001] 60 (0, 0)) (by (with_reducible repeat (first | refine blk_drewN ?_ _ | refine blk_drew ?_ | refine blk_alloc ?_ _)); exact BK588.out)) : gb588 ≠ gb594))
                    have n13_ := Aside0.mk ((by rw [hg]; exact Nat.ne_of_gt (blk_lt (g := gb588) (o := .cells #[.int .i64 0, u589001] 60 (0, 0)) (by (with_reducible repeat (first | refine blk_drewN ?_ _ | refine blk_drew ?_ | refine blk_alloc ?_ _)); exact BK588.out)) : gb594 ≠ gb588))
                    clear HO_589001
                    clear BK585
                    clear BK586
                    clear BK588
                    clear HB
                    have HO_589001 := n0_
                    have BK585 := n1_
                    have BK586 := n2_
                    have BK588 := n3_
                    have HB := n4_
                    have BK594 := n5_
                    have GW594 := n6_
                    have GE594 := n7_
                    have NB585_594 := n8_
                    have NB594_585 := n9_
                    have NB586_594 := n10_
                    have NB594_586 := n11_
                    have NB588_594 := n12_
                    have NB594_588 := n13_
                    clear n0_ n1_ n2_ n3_ n4_ n5_ n6_ n7_ n8_ n9_ n10_ n11_ n12_ n13_
                    clear hb hbox hg
                    refine hK.out _ _ ⟨(blk_cell BK585.out 0).trans rfl, (blk_cell BK585.out 1).trans rfl, ((HB.out.cell (World.block_lt_of_cell? w _ hw589_0)).trans hw589_0)⟩ (fun hHeld => ?_)
                    clear hK K
                    refine norm_ (a' := ?_) ?_ ?_
                    rotate_left
                    · show Act.put _ (some 8) _ = _
                      simp only [Act.put, List.setIfInBounds_toArray, List.set_cons_zero, List.set_cons_succ, i64_w, i32_w]
                      rfl
                    refine one_ (i := 5) (N := some 31) #[true, true, true, true, true, true, true, false] rfl rfl (one_of HT_.out (by kernel_rfl)) (by decide) (fun K hK => ?_)
                    refine goes_ Try.func81 (by kernel_rfl) rfl #[.agg #[.int .i64 x586000_1, .int .i64 x586001_1], .int .i64 (rd l1 x7_1)] (by rfl) rfl rfl (by (try simp only [List.map_toArray, List.map_cons, List.map_nil]); first | done | rfl | (simp only [List.length_drop, List.length_take]; rfl)) ?_
                    with_reducible refine (spec_l10Take.calls x586000_1 x586001_1 (rd l1 x7_1) t590 t591 t592 t593 _ A23.out).mono ?_
                    rintro e w48 ⟨rfl, hb⟩
                    refine ⟨_, rfl, ?_⟩
                    have n0_ := Aside0.mk (Kd.R_below (by (with_reducible repeat (first | apply Kd.R_alloc | apply Kd.R_drewN | apply Kd.R_drew)); exact HO_589001.out) hb)
                    have n1_ := Aside0.mk (blk_below (g := gb585) (o := .cells #[.int .i64 x586000_1, .int .i64 x586001_1] 25 (0, 0)) (by (with_reducible repeat (first | refine blk_drewN ?_ _ | refine blk_drew ?_ | refine blk_alloc ?_ _)); exact BK585.out) hb)
                    have n2_ := Aside0.mk (blk_below (g := gb586) (o := .cells #[.int .i64 0, .slice none 0 0] 60 (0, 0)) (by (with_reducible repeat (first | refine blk_drewN ?_ _ | refine blk_drew ?_ | refine blk_alloc ?_ _)); exact BK586.out) hb)
                    have n3_ := Aside0.mk (blk_below (g := gb588) (o := .cells #[.int .i64 0, u589001] 60 (0, 0)) (by (with_reducible repeat (first | refine blk_drewN ?_ _ | refine blk_drew ?_ | refine blk_alloc ?_ _)); exact BK588.out) hb)
                    have n4_ := Aside0.mk (blk_below (g := gb594) (o := .cells #[.int .i64 0, .int .i64 0, .int .i64 0, .int .i64 0] 65 (0, 0)) (by (with_reducible repeat (first | refine blk_drewN ?_ _ | refine blk_drew ?_ | refine blk_alloc ?_ _)); exact BK594.out) hb)
                    have n5_ := Aside0.mk (below_step (by repeat (first | (with_reducible first | exact HB.out | apply below_alloc | apply pw_below_drewN | apply below_drew1 | refine below_set ?_ GE585.out | refine below_set ?_ GE586.out | refine below_set ?_ GE588.out | refine below_set ?_ GE594.out) | exact HB.out)) hb)
                    clear HO_589001
                    clear BK585
                    clear BK586
                    clear BK588
                    clear BK594
                    clear HB
                    have HO_589001 := n0_
                    have BK585 := n1_
                    have BK586 := n2_
                    have BK588 := n3_
                    have BK594 := n4_
                    have HB := n5_
                    clear n0_ n1_ n2_ n3_ n4_ n5_
                    (try clear hb)
                    (try clear hb2)
                    (try clear hk)
                    (try clear hi)
                    refine hK.out _ _ ⟨(blk_cell BK585.out 0).trans rfl, (blk_cell BK585.out 1).trans rfl, ((HB.out.cell (World.block_lt_of_cell? w _ hw589_0)).trans hw589_0)⟩ (fun hHeld => ?_)
                    clear hK K
                    refine norm_ (a' := ?_) ?_ ?_
                    rotate_left
                    · show Act.put _ (some 31) _ = _
                      simp only [Act.put, List.setIfInBounds_toArray, List.set_cons_zero, List.set_cons_succ, i64_w, i32_w]
                      rfl
                    exact norm_ (by simp only [putAll, Act.put, List.setIfInBounds_toArray, List.set_cons_zero, List.set_cons_succ]) (hCont (gb594) _ ⟨hHeld, (by (with_reducible repeat (first | apply Kd.R_alloc | apply Kd.R_drewN | apply Kd.R_drew)); exact HO_589001.out), (by (with_reducible repeat (first | refine blk_drewN ?_ _ | refine blk_drew ?_ | refine blk_alloc ?_ _)); exact BK585.out), (by (with_reducible repeat (first | refine blk_drewN ?_ _ | refine blk_drew ?_ | refine blk_alloc ?_ _)); exact BK586.out), (by (with_reducible repeat (first | refine blk_drewN ?_ _ | refine blk_drew ?_ | refine blk_alloc ?_ _)); exact BK588.out), (by (with_reducible repeat (first | refine blk_drewN ?_ _ | refine blk_drew ?_ | refine blk_alloc ?_ _)); exact BK594.out), GW594.out, GE594.out, NB585_594.out, NB594_585.out, NB586_594.out, NB594_586.out, NB588_594.out, NB594_588.out, (by repeat (first | (with_reducible first | exact HB.out | apply below_alloc | apply pw_below_drewN | apply below_drew1 | refine below_set ?_ GE585.out | refine below_set ?_ GE586.out | refine below_set ?_ GE588.out | refine below_set ?_ GE594.out) | exact HB.out))⟩)
                rintro gb594 w49 ⟨hS_, h0_, h1_, h2_, h3_, h4_, h5_, h6_, h7_, h8_, h9_, h10_, h11_, h12_, h13_⟩
                have n0_ : Aside0 (Kd.R (Kd.int .i64) 2 w49 w.heap.size (fun _ => True) u589001 x589001_1) := ⟨h0_⟩
                have n1_ : Aside0 (w49.heap[gb585]? = some (.cells #[.int .i64 x586000_1, .int .i64 x586001_1] 25 (0, 0))) := ⟨h1_⟩
                have n2_ : Aside0 (w49.heap[gb586]? = some (.cells #[.int .i64 0, .slice none 0 0] 60 (0, 0))) := ⟨h2_⟩
                have n3_ : Aside0 (w49.heap[gb588]? = some (.cells #[.int .i64 0, u589001] 60 (0, 0))) := ⟨h3_⟩
                have n4_ : Aside0 (w49.heap[gb594]? = some (.cells #[.int .i64 0, .int .i64 0, .int .i64 0, .int .i64 0] 65 (0, 0))) := ⟨h4_⟩
                have n5_ : Aside0 (w.heap.size ≤ gb594) := ⟨h5_⟩
                have n6_ : Aside0 (w.heap.size ≤ gb594) := ⟨h6_⟩
                have n7_ : Aside0 (gb585 ≠ gb594) := ⟨h7_⟩
                have n8_ : Aside0 (gb594 ≠ gb585) := ⟨h8_⟩
                have n9_ : Aside0 (gb586 ≠ gb594) := ⟨h9_⟩
                have n10_ : Aside0 (gb594 ≠ gb586) := ⟨h10_⟩
                have n11_ : Aside0 (gb588 ≠ gb594) := ⟨h11_⟩
                have n12_ : Aside0 (gb594 ≠ gb588) := ⟨h12_⟩
                have n13_ : Aside0 (Below w.heap.size w w49) := ⟨h13_⟩
                clear HO_589001
                clear BK585
                clear BK586
                clear BK588
                clear HB
                clear h0_ h1_ h2_ h3_ h4_ h5_ h6_ h7_ h8_ h9_ h10_ h11_ h12_ h13_
                have HO_589001 := n0_
                have BK585 := n1_
                have BK586 := n2_
                have BK588 := n3_
                have BK594 := n4_
                have GW594 := n5_
                have GE594 := n6_
                have NB585_594 := n7_
                have NB594_585 := n8_
                have NB586_594 := n9_
                have NB594_586 := n10_
                have NB588_594 := n11_
                have NB594_588 := n12_
                have HB := n13_
                clear n0_ n1_ n2_ n3_ n4_ n5_ n6_ n7_ n8_ n9_ n10_ n11_ n12_ n13_
                have hHeld : w49.cell? ⟨gb585, 0, none⟩ = some (.int .i64 x586000_1) ∧ w49.cell? ⟨gb585, 1, none⟩ = some (.int .i64 x586001_1) ∧ w49.cell? (ad589.add (x7_1).toNat) = some (.int .i64 (rd l1 x7_1)) := hS_
                refine norm_ (a' := ?_) ?_ ?_
                rotate_left
                · simp only [putAll, Act.put, List.setIfInBounds_toArray, List.set_cons_zero, List.set_cons_succ]
                  rfl
                refine one_ (i := 7) (N := none) #[true, true, true, true, true, true, true, true] rfl rfl (one_of HT_.out (by kernel_rfl)) (by decide) (fun K hK => ?_)
                have hs50 : w49.cell? ⟨gb594, 0, none⟩ = some (.int .i64 0) := (blk_cell BK594.out 0).trans rfl
                have hfs50 := blk_frozen BK594.out 0
                have hns50_0 := NB585_594.out
                have hns50_1 := NB586_594.out
                have hns50_2 := NB588_594.out
                have hms50_0 := NB594_585.out
                have hms50_1 := NB594_586.out
                have hms50_2 := NB594_588.out
                have hs51 : w49.cell? ⟨gb594, 1, none⟩ = some (.int .i64 0) := (blk_cell BK594.out 1).trans rfl
                have hfs51 := blk_frozen BK594.out 1
                have hns51_0 := NB585_594.out
                have hns51_1 := NB586_594.out
                have hns51_2 := NB588_594.out
                have hms51_0 := NB594_585.out
                have hms51_1 := NB594_586.out
                have hms51_2 := NB594_588.out
                have hs52 : w49.cell? ⟨gb594, 2, none⟩ = some (.int .i64 0) := (blk_cell BK594.out 2).trans rfl
                have hfs52 := blk_frozen BK594.out 2
                have hns52_0 := NB585_594.out
                have hns52_1 := NB586_594.out
                have hns52_2 := NB588_594.out
                have hms52_0 := NB594_585.out
                have hms52_1 := NB594_586.out
                have hms52_2 := NB594_588.out
                have hs53 : w49.cell? ⟨gb594, 3, none⟩ = some (.int .i64 0) := (blk_cell BK594.out 3).trans rfl
                have hfs53 := blk_frozen BK594.out 3
                have hns53_0 := NB585_594.out
                have hns53_1 := NB586_594.out
                have hns53_2 := NB588_594.out
                have hms53_0 := NB594_585.out
                have hms53_1 := NB594_586.out
                have hms53_2 := NB594_588.out
                refine skip_ (w1 := ?_) (by rfl) rfl ?_ ?_
                rotate_left
                · go_simp
                  rfl
                refine hK.out _ _ ⟨((cell_far (p := ⟨gb594, _, none⟩) NB585_594.out _).trans (((cell_far (p := ⟨gb594, _, none⟩) NB585_594.out _).trans (((cell_far (p := ⟨gb594, _, none⟩) NB585_594.out _).trans (((cell_far (p := ⟨gb594, _, none⟩) NB585_594.out _).trans (hHeld.1)))))))), ((cell_far (p := ⟨gb594, _, none⟩) NB585_594.out _).trans (((cell_far (p := ⟨gb594, _, none⟩) NB585_594.out _).trans (((cell_far (p := ⟨gb594, _, none⟩) NB585_594.out _).trans (((cell_far (p := ⟨gb594, _, none⟩) NB585_594.out _).trans (hHeld.2.1)))))))), ((cell_far (p := ⟨gb594, _, none⟩) (by first | exact Nat.ne_of_lt (Nat.lt_of_lt_of_le (by have := World.block_lt_of_cell? _ _ hw589_0; first | rwa [add_block] at this | exact this) GW594.out) | (rw [add_block]; exact Nat.ne_of_lt (Nat.lt_of_lt_of_le (by have := World.block_lt_of_cell? _ _ hw589_0; first | rwa [add_block] at this | exact this) GW594.out)) | (show (Addr.add _ _).block ≠ _; rw [add_block]; exact Nat.ne_of_lt (Nat.lt_of_lt_of_le (by have := World.block_lt_of_cell? _ _ hw589_0; first | rwa [add_block] at this | exact this) GW594.out)) | (dsimp only; exact Nat.ne_of_lt (Nat.lt_of_lt_of_le (by have := World.block_lt_of_cell? _ _ hw589_0; first | rwa [add_block] at this | exact this) GW594.out))) _).trans (((cell_far (p := ⟨gb594, _, none⟩) (by first | exact Nat.ne_of_lt (Nat.lt_of_lt_of_le (by have := World.block_lt_of_cell? _ _ hw589_0; first | rwa [add_block] at this | exact this) GW594.out) | (rw [add_block]; exact Nat.ne_of_lt (Nat.lt_of_lt_of_le (by have := World.block_lt_of_cell? _ _ hw589_0; first | rwa [add_block] at this | exact this) GW594.out)) | (show (Addr.add _ _).block ≠ _; rw [add_block]; exact Nat.ne_of_lt (Nat.lt_of_lt_of_le (by have := World.block_lt_of_cell? _ _ hw589_0; first | rwa [add_block] at this | exact this) GW594.out)) | (dsimp only; exact Nat.ne_of_lt (Nat.lt_of_lt_of_le (by have := World.block_lt_of_cell? _ _ hw589_0; first | rwa [add_block] at this | exact this) GW594.out))) _).trans (((cell_far (p := ⟨gb594, _, none⟩) (by first | exact Nat.ne_of_lt (Nat.lt_of_lt_of_le (by have := World.block_lt_of_cell? _ _ hw589_0; first | rwa [add_block] at this | exact this) GW594.out) | (rw [add_block]; exact Nat.ne_of_lt (Nat.lt_of_lt_of_le (by have := World.block_lt_of_cell? _ _ hw589_0; first | rwa [add_block] at this | exact this) GW594.out)) | (show (Addr.add _ _).block ≠ _; rw [add_block]; exact Nat.ne_of_lt (Nat.lt_of_lt_of_le (by have := World.block_lt_of_cell? _ _ hw589_0; first | rwa [add_block] at this | exact this) GW594.out)) | (dsimp only; exact Nat.ne_of_lt (Nat.lt_of_lt_of_le (by have := World.block_lt_of_cell? _ _ hw589_0; first | rwa [add_block] at this | exact this) GW594.out))) _).trans (((cell_far (p := ⟨gb594, _, none⟩) (by first | exact Nat.ne_of_lt (Nat.lt_of_lt_of_le (by have := World.block_lt_of_cell? _ _ hw589_0; first | rwa [add_block] at this | exact this) GW594.out) | (rw [add_block]; exact Nat.ne_of_lt (Nat.lt_of_lt_of_le (by have := World.block_lt_of_cell? _ _ hw589_0; first | rwa [add_block] at this | exact this) GW594.out)) | (show (Addr.add _ _).block ≠ _; rw [add_block]; exact Nat.ne_of_lt (Nat.lt_of_lt_of_le (by have := World.block_lt_of_cell? _ _ hw589_0; first | rwa [add_block] at this | exact this) GW594.out)) | (dsimp only; exact Nat.ne_of_lt (Nat.lt_of_lt_of_le (by have := World.block_lt_of_cell? _ _ hw589_0; first | rwa [add_block] at this | exact this) GW594.out))) _).trans (hHeld.2.2))))))))⟩ (fun hHeld => ?_)
                clear hK K
                refine done_ (done_of HT_.out (by kernel_rfl)) ?_
                have hnb54 := NB594_585.out
                have hnc54 := NB585_594.out
                have hnb55 := NB594_586.out
                have hnc55 := NB586_594.out
                have hnb56 := NB594_588.out
                have hnc56 := NB588_594.out
                have hcz57_0 : w49.cell? ⟨gb594, 0, none⟩ = some (.int .i64 0) := (blk_cell BK594.out 0).trans rfl
                have hcz57_1 : w49.cell? ⟨gb594, 1, none⟩ = some (.int .i64 0) := (blk_cell BK594.out 1).trans rfl
                have hcz57_2 : w49.cell? ⟨gb594, 2, none⟩ = some (.int .i64 0) := (blk_cell BK594.out 2).trans rfl
                have hcz57_3 : w49.cell? ⟨gb594, 3, none⟩ = some (.int .i64 0) := (blk_cell BK594.out 3).trans rfl
                have hfz57_0 := blk_frozen BK594.out 0
                have hfz57_1 := blk_frozen BK594.out 1
                have hfz57_2 := blk_frozen BK594.out 2
                have hfz57_3 := blk_frozen BK594.out 3
                try go_wp2
                go_roundg k1
                case measure => have := HK1.out; omega
                case rel => exact ⟨(wrap64 (x7_1 + 1)), (x586000_1), (x586001_1), (x589001_1), (u589001), (by first | rfl | (simp; done) | (simp [*]; done)), H', ⟨by have := HK1.out; omega⟩, ⟨by (with_reducible repeat (first | apply Kd.R_alloc | apply Kd.R_drewN | apply Kd.R_drew)); exact Kd.R_mono (Kd.R_far (p := ⟨gb594, 3, none⟩) (Kd.R_far (p := ⟨gb594, 2, none⟩) (Kd.R_far (p := ⟨gb594, 1, none⟩) (Kd.R_far (p := ⟨gb594, 0, none⟩) (Kd.R_types HO_589001.out BK594.out (by decide)) (fun _ hk => hk.2) (.int .i64 t590)) (fun _ hk => hk.2) (.int .i64 t591)) (fun _ hk => hk.2) (.int .i64 t592)) (fun _ hk => hk.2) (.int .i64 t593)) (fun _ hk => trivial)⟩, ⟨by (with_reducible repeat (first | refine blk_drewN ?_ _ | refine blk_drew ?_ | refine blk_alloc ?_ _)); refine blk_far ?_ NB585_594.out _; (with_reducible repeat (first | refine blk_drewN ?_ _ | refine blk_drew ?_ | refine blk_alloc ?_ _)); refine blk_far ?_ NB585_594.out _; (with_reducible repeat (first | refine blk_drewN ?_ _ | refine blk_drew ?_ | refine blk_alloc ?_ _)); refine blk_far ?_ NB585_594.out _; (with_reducible repeat (first | refine blk_drewN ?_ _ | refine blk_drew ?_ | refine blk_alloc ?_ _)); refine blk_far ?_ NB585_594.out _; (with_reducible repeat (first | refine blk_drewN ?_ _ | refine blk_drew ?_ | refine blk_alloc ?_ _)); exact BK585.out⟩, ⟨by (with_reducible repeat (first | refine blk_drewN ?_ _ | refine blk_drew ?_ | refine blk_alloc ?_ _)); refine blk_far ?_ NB586_594.out _; (with_reducible repeat (first | refine blk_drewN ?_ _ | refine blk_drew ?_ | refine blk_alloc ?_ _)); refine blk_far ?_ NB586_594.out _; (with_reducible repeat (first | refine blk_drewN ?_ _ | refine blk_drew ?_ | refine blk_alloc ?_ _)); refine blk_far ?_ NB586_594.out _; (with_reducible repeat (first | refine blk_drewN ?_ _ | refine blk_drew ?_ | refine blk_alloc ?_ _)); refine blk_far ?_ NB586_594.out _; (with_reducible repeat (first | refine blk_drewN ?_ _ | refine blk_drew ?_ | refine blk_alloc ?_ _)); exact BK586.out⟩, ⟨by (with_reducible repeat (first | refine blk_drewN ?_ _ | refine blk_drew ?_ | refine blk_alloc ?_ _)); refine blk_far ?_ NB588_594.out _; (with_reducible repeat (first | refine blk_drewN ?_ _ | refine blk_drew ?_ | refine blk_alloc ?_ _)); refine blk_far ?_ NB588_594.out _; (with_reducible repeat (first | refine blk_drewN ?_ _ | refine blk_drew ?_ | refine blk_alloc ?_ _)); refine blk_far ?_ NB588_594.out _; (with_reducible repeat (first | refine blk_drewN ?_ _ | refine blk_drew ?_ | refine blk_alloc ?_ _)); refine blk_far ?_ NB588_594.out _; (with_reducible repeat (first | refine blk_drewN ?_ _ | refine blk_drew ?_ | refine blk_alloc ?_ _)); exact BK588.out⟩, ⟨by repeat (first | (with_reducible first | exact HB.out | apply below_alloc | apply pw_below_drewN | apply below_drew1 | refine below_set ?_ GE585.out | refine below_set ?_ GE586.out | refine below_set ?_ GE588.out | refine below_set ?_ GE594.out) | exact HB.out)⟩⟩
            · rw [if_neg c22] at H
              exact absurd H (by simp)
          · rw [if_neg c21] at H
            have c21b0 : decide (x7_1 < (l1.length : Int)) = false := decide_eq_false c21
            clear c21
            simp only [Option.some.injEq, Prod.mk.injEq] at H
            obtain ⟨rfl, rfl⟩ := H
            have hnb58 := NB588_585.out
            have hnc58 := NB585_588.out
            have hnb59 := NB588_586.out
            have hnc59 := NB586_588.out
            have hcz60_0 : wr.cell? ⟨gb588, 0, none⟩ = some (.int .i64 0) := (blk_cell BK588.out 0).trans rfl
            have hcz60_1 : wr.cell? ⟨gb588, 1, none⟩ = some (u589001) := (blk_cell BK588.out 1).trans rfl
            have hfz60_0 := blk_frozen BK588.out 0
            have hfz60_1 := blk_frozen BK588.out 1
            have hnb61 := NB586_585.out
            have hnc61 := NB585_586.out
            have hcz62_0 : wr.cell? ⟨gb586, 0, none⟩ = some (.int .i64 0) := (blk_cell BK586.out 0).trans rfl
            have hcz62_1 : wr.cell? ⟨gb586, 1, none⟩ = some (.slice none 0 0) := (blk_cell BK586.out 1).trans rfl
            have hfz62_0 := blk_frozen BK586.out 0
            have hfz62_1 := blk_frozen BK586.out 1
            obtain ⟨Ao63, co63, eo63⟩ := Kd.R_slice HO_589001.out
            subst eo63
            go_wp2
            refine bodyPost_ret (results_cell_row rfl _ _ gb586 60 #[.int .i64 0, .slice Ao63 x589001_1.length co63] (0, 0) _ rfl (by (with_reducible repeat (first | refine blk_drewN ?_ _ | refine blk_drew ?_ | refine blk_alloc ?_ _)); refine blk_put (cs := #[.int .i64 0, .slice none 0 0]) ?_ 1 _ rfl; (with_reducible repeat (first | refine blk_drewN ?_ _ | refine blk_drew ?_ | refine blk_alloc ?_ _)); refine blk_put (cs := #[.int .i64 0, .slice none 0 0]) ?_ 0 _ rfl; (with_reducible repeat (first | refine blk_drewN ?_ _ | refine blk_drew ?_ | refine blk_alloc ?_ _)); exact BK586.out) Try.underlying60 rfl (by kernel_rfl)) rfl ?_
            exact ⟨_, by first | rfl | (simp [errW_none, errW_some] <;> rfl) | (simp [*, errW_none, errW_some] <;> rfl), by (with_reducible repeat (first | apply Kd.R_alloc | apply Kd.R_drewN | apply Kd.R_drew)); exact Kd.R_mono (Kd.R_far (p := ⟨gb586, 1, none⟩) (Kd.R_far (p := ⟨gb586, 0, none⟩) (Kd.R_types HO_589001.out BK586.out (by decide)) (fun _ hk => hk.2) (.int .i64 0)) (fun _ hk => hk.2) (.slice Ao63 x589001_1.length co63)) (fun _ hk => trivial), by repeat (first | (with_reducible first | exact HB.out | apply below_alloc | apply pw_below_drewN | apply below_drew1 | refine below_set ?_ GE585.out | refine below_set ?_ GE586.out | refine below_set ?_ GE588.out) | exact HB.out)⟩
  · rw [if_neg c4] at H
    have c4b0 : (t587 == 0) = false := beq_eq_false_iff_ne.mpr c4
    have c4b1 : (t587 != 0) = true := bne_iff_ne.mpr c4
    simp only [Option.some.injEq, Prod.mk.injEq] at H
    obtain ⟨rfl, rfl⟩ := H
    go_enter Try.func55, Try.ntmps55
    go_wp2_with (first | ((with_reducible refine gate_dst (N := 2) rfl ?_); refine box_event ?hg (N := 2) ?hd (cs := #[.int .i64 a0_0, .int .i64 a0_1]) (t := 25) ?hr ?_; (case hd => rfl); (case hg => rfl); (case hr => first | (go_simp; done) | (go_simp; rfl)); intro gb585 hg w64 hbox hb; have n0_ := Aside0.mk (below_step (by repeat (first | (with_reducible first | exact HB.out | apply below_alloc | apply pw_below_drewN | apply below_drew1) | exact HB.out)) hb); have n1_ := Aside0.mk (hbox); have n2_ := Aside0.mk ((by rw [hg]; exact (below_size (by repeat (first | (with_reducible first | exact HB.out | apply below_alloc | apply pw_below_drewN | apply below_drew1) | exact HB.out))) : w.heap.size ≤ gb585)); have n3_ := Aside0.mk ((by rw [hg]; exact (below_size (by repeat (first | (with_reducible first | exact HB.out | apply below_alloc | apply pw_below_drewN | apply below_drew1) | exact HB.out))) : w.heap.size ≤ gb585)); clear HB; have HB := n0_; have BK585 := n1_; have GW585 := n2_; have GE585 := n3_; clear n0_ n1_ n2_ n3_; clear hb hbox hg) | ((with_reducible refine gate_dst (N := 4) rfl ?_); refine box_event ?hg (N := 4) ?hd (cs := #[.int .i64 0, .slice none 0 0]) (t := 60) ?hr ?_; (case hd => rfl); (case hg => rfl); (case hr => first | (go_simp; done) | (go_simp; rfl)); intro gb586 hg w65 hbox hb; have n0_ := Aside0.mk (blk_below (g := gb585) (o := .cells #[.int .i64 a0_0, .int .i64 a0_1] 25 (0, 0)) (by (with_reducible repeat (first | refine blk_drewN ?_ _ | refine blk_drew ?_ | refine blk_alloc ?_ _)); exact BK585.out) hb); have n1_ := Aside0.mk (below_step (by repeat (first | (with_reducible first | exact HB.out | apply below_alloc | apply pw_below_drewN | apply below_drew1 | refine below_set ?_ GE585.out) | exact HB.out)) hb); have n2_ := Aside0.mk (hbox); have n3_ := Aside0.mk ((by rw [hg]; exact (below_size (by repeat (first | (with_reducible first | exact HB.out | apply below_alloc | apply pw_below_drewN | apply below_drew1 | refine below_set ?_ GE585.out) | exact HB.out))) : w.heap.size ≤ gb586)); have n4_ := Aside0.mk ((by rw [hg]; exact (below_size (by repeat (first | (with_reducible first | exact HB.out | apply below_alloc | apply pw_below_drewN | apply below_drew1 | refine below_set ?_ GE585.out) | exact HB.out))) : w.heap.size ≤ gb586)); have n5_ := Aside0.mk ((by rw [hg]; exact Nat.ne_of_lt (blk_lt (g := gb585) (o := .cells #[.int .i64 a0_0, .int .i64 a0_1] 25 (0, 0)) (by (with_reducible repeat (first | refine blk_drewN ?_ _ | refine blk_drew ?_ | refine blk_alloc ?_ _)); exact BK585.out)) : gb585 ≠ gb586)); have n6_ := Aside0.mk ((by rw [hg]; exact Nat.ne_of_gt (blk_lt (g := gb585) (o := .cells #[.int .i64 a0_0, .int .i64 a0_1] 25 (0, 0)) (by (with_reducible repeat (first | refine blk_drewN ?_ _ | refine blk_drew ?_ | refine blk_alloc ?_ _)); exact BK585.out)) : gb586 ≠ gb585)); clear BK585; clear HB; have BK585 := n0_; have HB := n1_; have BK586 := n2_; have GW586 := n3_; have GE586 := n4_; have NB585_586 := n5_; have NB586_585 := n6_; clear n0_ n1_ n2_ n3_ n4_ n5_ n6_; clear hb hbox hg; have hnb66 := NB585_586.out; have hnc66 := NB586_585.out; have hcz67_0 : w65.cell? ⟨gb585, 0, none⟩ = some (.int .i64 a0_0) := (blk_cell BK585.out 0).trans rfl; have hcz67_1 : w65.cell? ⟨gb585, 1, none⟩ = some (.int .i64 a0_1) := (blk_cell BK585.out 1).trans rfl; have hfz67_0 := blk_frozen BK585.out 0; have hfz67_1 := blk_frozen BK585.out 1) | ((with_reducible refine gate_callee (f := 15) rfl ?_); refine goesL_ (some 10) rfl rfl Try.func15 (by kernel_rfl) rfl #[.agg #[.int .i64 a0_0, .int .i64 a0_1]] rfl (by (try simp only [List.map_toArray, List.map_cons, List.map_nil]); first | done | rfl | (simp only [List.length_drop, List.length_take]; rfl)) ?_; (with_reducible refine (spec_WindowFault.calls k a0_0 a0_1 t587 _ A3.out).mono ?_); rintro e w68 ⟨rfl, hb⟩; refine ⟨_, rfl, ?_⟩; have n0_ := Aside0.mk (blk_below (g := gb585) (o := .cells #[.int .i64 a0_0, .int .i64 a0_1] 25 (0, 0)) (by (with_reducible repeat (first | refine blk_drewN ?_ _ | refine blk_drew ?_ | refine blk_alloc ?_ _)); exact BK585.out) hb); have n1_ := Aside0.mk (blk_below (g := gb586) (o := .cells #[.int .i64 0, .slice none 0 0] 60 (0, 0)) (by (with_reducible repeat (first | refine blk_drewN ?_ _ | refine blk_drew ?_ | refine blk_alloc ?_ _)); exact BK586.out) hb); have n2_ := Aside0.mk (below_step (by repeat (first | (with_reducible first | exact HB.out | apply below_alloc | apply pw_below_drewN | apply below_drew1 | refine below_set ?_ GE585.out | refine below_set ?_ GE586.out) | exact HB.out)) hb); clear BK585; clear BK586; clear HB; have BK585 := n0_; have BK586 := n1_; have HB := n2_; clear n0_ n1_ n2_; (try clear hb); (try clear hb2); (try clear hk); (try clear hi); have hcz69_0 : w68.cell? ⟨gb586, 0, none⟩ = some (.int .i64 0) := (blk_cell BK586.out 0).trans rfl; have hcz69_1 : w68.cell? ⟨gb586, 1, none⟩ = some (.slice none 0 0) := (blk_cell BK586.out 1).trans rfl; have hfz69_0 := blk_frozen BK586.out 0; have hfz69_1 := blk_frozen BK586.out 1))
    refine bodyPost_ret (results_cell_row rfl _ _ gb586 60 #[.int .i64 t587, .slice none 0 0] (0, 0) _ rfl (by (with_reducible repeat (first | refine blk_drewN ?_ _ | refine blk_drew ?_ | refine blk_alloc ?_ _)); refine blk_put (cs := #[.int .i64 t587, .slice none 0 0]) ?_ 1 _ rfl; (with_reducible repeat (first | refine blk_drewN ?_ _ | refine blk_drew ?_ | refine blk_alloc ?_ _)); refine blk_put (cs := #[.int .i64 0, .slice none 0 0]) ?_ 0 _ rfl; (with_reducible repeat (first | refine blk_drewN ?_ _ | refine blk_drew ?_ | refine blk_alloc ?_ _)); exact BK586.out) Try.underlying60 rfl (by kernel_rfl)) rfl ?_
    exact ⟨_, by first | rfl | (simp [errW_none, errW_some] <;> rfl) | (simp [*, errW_none, errW_some] <;> rfl), by first | exact Kd.R_nil _ _ _ _ _ | exact Kd.N_nil _ _ _ _ _ | exact Kd.V_nil _ _ _ _ _ | exact Kd.Q_nil _ _ _ _ _ | exact Kd.S_nil _ _ _ _ _, by repeat (first | (with_reducible first | exact HB.out | apply below_alloc | apply pw_below_drewN | apply below_drew1 | refine below_set ?_ GE585.out | refine below_set ?_ GE586.out) | exact HB.out)⟩

end Go.Proofs.Ytalkfdedbacidaa.G
/- Pw3 -/
set_option linter.unusedVariables false
set_option linter.unusedSimpArgs false
namespace Go.Proofs.Ytalkfdedbacidaa.Pure
open Go.RowKit Go.Proofs.Ytalkfdedbacidaa.G Go.Proofs.YtalkfdedbacidaaW.PrintWords Go.Proofs.YtalkfdedbacidaaW.PrintLast Go.Proofs.YtalkfdedbacidaaW.PrintMore

/-- The numbers from s on, d of them, that were not taken. -/
def mi (a b : Int) : Nat → Int → List Int
  | 0, _ => []
  | d + 1, s => if tk b (a - s) = true then mi a b d (s + 1) else s :: mi a b d (s + 1)
theorem mi_length (a b : Int) : ∀ (d : Nat) (s : Int), (mi a b d s).length ≤ d
  | 0, _ => by simp [mi]
  | d + 1, s => by
    unfold mi; split
    · have := mi_length a b d (s + 1); omega
    · have := mi_length a b d (s + 1); simp; omega
theorem mi_spec_l0 (a b : Int) (a1 : a ≤ 1099511627776) (d : Nat) : ∀ (k : Nat) (s : Int) (acc : List Int), 1 ≤ s → s + d = a → d < k → acc.length + d ≤ 1000 →
    spec_MissingIn.l0 k s a b 0 acc = some (0, acc ++ mi a b d s) := by
  induction d with
  | zero =>
    intro k s acc hs hd hk hl
    obtain ⟨k, rfl⟩ : ∃ m, k = m + 1 := ⟨k - 1, by omega⟩
    simp only [spec_MissingIn.l0]; rw [if_neg (by omega)]; simp [mi]
  | succ d ih =>
    intro k s acc hs hd hk hl
    obtain ⟨k, rfl⟩ : ∃ m, k = m + 1 := ⟨k - 1, by omega⟩
    simp only [spec_MissingIn.l0, mi]
    rw [if_pos (by omega), had_spec a1 hs, w64 (by omega) (by omega)]
    simp only [Option.bind_some, show decide (s ≤ a) = true from decide_eq_true (by omega), Bool.true_and]
    cases ht : tk b (a - s)
    · simp only [Bool.false_eq_true, if_false]
      rw [if_pos (by omega), ih k (s + 1) _ (by omega) (by omega) (by omega) (by simp; omega)]
      simp
    · simp only [if_true]
      rw [ih k (s + 1) _ (by omega) (by omega) (by omega) (by omega)]
theorem mi_impl_l0 (a b : Int) (a1 : a ≤ 1099511627776) (d : Nat) : ∀ (k : Nat) (s : Int) (acc : List Int), 1 ≤ s → s + d = a → d < k → acc.length + d ≤ 1000 →
    impl_MissingIn.l0 k acc s a b = some (0, acc ++ mi a b d s) := by
  induction d with
  | zero =>
    intro k s acc hs hd hk hl
    obtain ⟨k, rfl⟩ : ∃ m, k = m + 1 := ⟨k - 1, by omega⟩
    simp only [impl_MissingIn.l0]; rw [if_neg (by omega)]; simp [mi]
  | succ d ih =>
    intro k s acc hs hd hk hl
    obtain ⟨k, rfl⟩ : ∃ m, k = m + 1 := ⟨k - 1, by omega⟩
    simp only [impl_MissingIn.l0, mi]
    rw [if_pos (by omega), w64 (n := a - s) (by omega) (by omega), took a b _ (by omega), w64 (by omega) (by omega)]
    simp only [Option.bind_some]
    cases ht : tk b (a - s)
    · simp only [Bool.false_eq_true, if_false]
      rw [if_pos (by omega), ih k (s + 1) _ (by omega) (by omega) (by omega) (by simp; omega)]
      simp
    · simp only [if_true]
      rw [ih k (s + 1) _ (by omega) (by omega) (by omega) (by omega)]
def MI (a b : Int) : Int × List Int := if WF a b = 0 then (0, mi a b (a - max (a - 31) 1).toNat (max (a - 31) 1)) else (WF a b, [])
theorem MI_length (a b : Int) : (MI a b).2.length ≤ 31 := by
  unfold MI; split
  · have := mi_length a b (a - max (a - 31) 1).toNat (max (a - 31) 1); simp only; omega
  · simp
theorem l0_empty_spec (a b s : Int) (acc : List Int) (h : a ≤ s) (k : Nat) : spec_MissingIn.l0 (k + 1) s a b 0 acc = some (0, acc) := by
  simp only [spec_MissingIn.l0]; rw [if_neg (by omega)]
theorem l0_empty_impl (a b s : Int) (acc : List Int) (h : a ≤ s) (k : Nat) : impl_MissingIn.l0 (k + 1) acc s a b = some (0, acc) := by
  simp only [impl_MissingIn.l0]; rw [if_neg (by omega)]
theorem mi_spec (a b : Int) : Ev (fun k => spec_MissingIn.f k a b) (MI a b) := by
  unfold spec_MissingIn.f MI
  refine Ev.bind (wf_spec a b) ?_
  by_cases h : WF a b = 0
  · obtain ⟨a0, a1, b0, b1⟩ := wf_ok h
    simp only [h, if_true, max_spec, Option.bind_some]
    rw [w64 (n := a - 32) (by omega) (by omega), w64 (n := a - 32 + 1) (by omega) (by omega), show a - 32 + 1 = a - 31 by omega]
    refine ⟨40, fun k hk => ?_⟩
    by_cases hp : 1 ≤ a
    · exact mi_spec_l0 a b a1 _ k _ [] (by omega) (by omega) (by omega) (by simp; omega)
    · obtain ⟨m, rfl⟩ : ∃ m, k = m + 1 := ⟨k - 1, by omega⟩
      show spec_MissingIn.l0 (m + 1) _ a b 0 [] = _
      rw [l0_empty_spec a b _ _ (by omega), show (a - max (a - 31) 1).toNat = 0 by omega]; rfl
  · simp only [h, if_false]; exact Ev.now _
theorem mi_impl (a b : Int) : Ev (fun k => impl_MissingIn.f k a b) (MI a b) := by
  unfold impl_MissingIn.f MI
  refine Ev.bind (wf_impl a b) ?_
  by_cases h : WF a b = 0
  · obtain ⟨a0, a1, b0, b1⟩ := wf_ok h
    simp only [h, if_true]
    rw [w64 (n := a - 32) (by omega) (by omega), w64 (n := a - 32 + 1) (by omega) (by omega), show a - 32 + 1 = a - 31 by omega, show mx (a - 31) 1 = max (a - 31) 1 by unfold mx; omega]
    refine ⟨40, fun k hk => ?_⟩
    by_cases hp : 1 ≤ a
    · exact mi_impl_l0 a b a1 _ k _ [] (by omega) (by omega) (by omega) (by simp; omega)
    · obtain ⟨m, rfl⟩ : ∃ m, k = m + 1 := ⟨k - 1, by omega⟩
      show impl_MissingIn.l0 (m + 1) [] _ a b = _
      rw [l0_empty_impl a b _ _ (by omega), show (a - max (a - 31) 1).toNat = 0 by omega]; rfl
  · simp only [h, if_false]; exact Ev.now _

/-! ### TakeAll -/
/-- Of a list the numbers that are taken, one behind the other. -/
def ta : Int → Int → List Int → List Int
  | _, _, [] => []
  | a, b, s :: r => if takeF a b s = 0 then s :: ta (tkn a b s).1 (tkn a b s).2 r else ta a b r
theorem ta_length : ∀ (l : List Int) (a b : Int), (ta a b l).length ≤ l.length
  | [], _, _ => by simp [ta]
  | s :: r, a, b => by
    unfold ta; split
    · have := ta_length r (tkn a b s).1 (tkn a b s).2; simp; omega
    · have := ta_length r a b; simp; omega
theorem TQ_zero (a b s : Int) : (TQ a b s).1 = 0 ↔ takeF a b s = 0 := by
  unfold TQ; split
  · simp [*]
  · simp [*]
theorem rd_drop (l : List Int) (i : Nat) (h : i < l.length) : l.drop i = rd l (i : Int) :: l.drop (i + 1) := by
  rw [List.drop_eq_getElem_cons h]
  simp [rd, List.getD, List.getElem?_eq_getElem h]
theorem ta_spec_l0 (l : List Int) (hl : l.length ≤ 1000) (d : Nat) : ∀ (k i : Nat) (a b : Int) (acc : List Int), WF a b = 0 → i + d = l.length → d < k → acc.length + d ≤ 1000 →
    spec_TakeAll.l0 k l i a b 0 acc = some (0, acc ++ ta a b (l.drop i)) := by
  induction d with
  | zero =>
    intro k i a b acc hw hi hk hc
    obtain ⟨k, rfl⟩ : ∃ m, k = m + 1 := ⟨k - 1, by omega⟩
    simp only [spec_TakeAll.l0]; rw [if_neg (by omega), List.drop_of_length_le (by omega)]; simp [ta]
  | succ d ih =>
    intro k i a b acc hw hi hk hc
    obtain ⟨k, rfl⟩ : ∃ m, k = m + 1 := ⟨k - 1, by omega⟩
    obtain ⟨a0, a1, b0, b1⟩ := wf_ok hw
    simp only [spec_TakeAll.l0]
    rw [if_pos (by omega), if_pos (by omega), take_spec a0 a1, rd_drop l i (by omega), w64 (by omega) (by omega)]
    simp only [Option.bind_some, ta]
    by_cases ht : takeF a b (rd l i) = 0
    · rw [if_pos ((TQ_zero _ _ _).2 ht), if_pos ht, if_pos (by omega)]
      have e : TQ a b (rd l i) = (0, rd l i, (tkn a b (rd l i)).1, (tkn a b (rd l i)).2) := by unfold TQ; rw [if_pos ht]
      rw [e]
      have := ih k (i + 1) (tkn a b (rd l i)).1 (tkn a b (rd l i)).2 (acc ++ [rd l i]) (tkn_wf hw ht) (by omega) (by omega) (by simp; omega)
      simpa using this
    · rw [if_neg (fun h => ht ((TQ_zero _ _ _).1 h)), if_neg ht]
      have := ih k (i + 1) a b acc hw (by omega) (by omega) (by omega)
      simpa using this
theorem wf_lit {a b : Int} (h : WF a b = 0) : (Lit.int .i64 a).wf = true := by
  obtain ⟨a0, a1, b0, b1⟩ := wf_ok h
  simp [Lit.wf, IntKind.min, IntKind.max, IntKind.signed, IntKind.bits]; omega
theorem ta_impl_l0 (l : List Int) (hl : l.length ≤ 1000) (d : Nat) : ∀ (i : Nat) (a b : Int) (acc : List Int), WF a b = 0 → i + d = l.length → acc.length + d ≤ 1000 →
    Ev (fun k => impl_TakeAll.l0 k acc l (l.length : Int) i a b) (0, acc ++ ta a b (l.drop i)) := by
  induction d with
  | zero =>
    intro i a b acc hw hi hc
    refine ⟨1, fun k hk => ?_⟩
    obtain ⟨k, rfl⟩ : ∃ m, k = m + 1 := ⟨k - 1, by omega⟩
    simp only [impl_TakeAll.l0]; rw [if_neg (by omega), List.drop_of_length_le (by omega)]; simp [ta]
  | succ d ih =>
    intro i a b acc hw hi hc
    obtain ⟨a0, a1, b0, b1⟩ := wf_ok hw
    refine Ev.step (fun k => ?_) (f := fun k => (impl_TakeSeq.f k a b (rd l i)).bind fun bt => (if bt.1 = 0 then impl_TakeAll.l0 k (acc ++ [rd l i]) l l.length ((i + 1 : Nat) : Int) bt.2.2.1 bt.2.2.2 else impl_TakeAll.l0 k acc l l.length ((i + 1 : Nat) : Int) a b)) ?_
    · simp only [impl_TakeAll.l0]
      rw [if_pos (by omega), if_pos (by omega), if_pos (by omega), w64 (by omega) (by omega)]
      simp only [show ((i + 1 : Nat) : Int) = (i : Int) + 1 from rfl]
      congr 1
      funext bt
      rw [if_pos (show acc.length < 17592186044416 by omega)]
    · refine Ev.bind (ts_impl a b _ (wf_lit hw)) ?_
      have e0 : TS a b (rd l i) = TQ a b (rd l i) := by unfold TS; rw [if_pos hw]
      rw [rd_drop l i (by omega)]
      simp only [e0, ta]
      by_cases ht : takeF a b (rd l i) = 0
      · have e : TQ a b (rd l i) = (0, rd l i, (tkn a b (rd l i)).1, (tkn a b (rd l i)).2) := by unfold TQ; rw [if_pos ht]
        simp only [e, ht, if_true]
        have := ih (i + 1) (tkn a b (rd l i)).1 (tkn a b (rd l i)).2 (acc ++ [rd l i]) (tkn_wf hw ht) (by omega) (by simp; omega)
        simpa using this
      · simp only [(TQ_zero a b (rd l i)), ht, if_false]
        exact ih (i + 1) a b acc hw (by omega) (by omega)
def TA (a b : Int) (l : List Int) : Int × List Int := if WF a b = 0 then (if l.length > 100 then (2, []) else (0, ta a b l)) else (WF a b, [])
theorem TA_length (a b : Int) (l : List Int) : (TA a b l).2.length ≤ 100 := by
  unfold TA; split
  · split
    · simp
    · have := ta_length l a b; simp only; omega
  · simp
theorem ta_spec (a b : Int) (l : List Int) : Ev (fun k => spec_TakeAll.f k a b l) (TA a b l) := by
  unfold spec_TakeAll.f TA
  refine Ev.bind (wf_spec a b) ?_
  by_cases h : WF a b = 0
  · simp only [h, if_true]
    by_cases hl : l.length > 100
    · simp only [show (l.length : Int) > 100 by omega, hl, if_true]; exact Ev.now _
    · simp only [show ¬ (l.length : Int) > 100 by omega, hl, if_false]
      refine ⟨l.length + 1, fun k hk => ?_⟩
      have := ta_spec_l0 l (by omega) l.length k 0 a b [] h (by omega) (by omega) (by simp; omega)
      simpa using this
  · simp only [h, if_false]; exact Ev.now _
theorem ta_impl (a b : Int) (l : List Int) : Ev (fun k => impl_TakeAll.f k a b l) (TA a b l) := by
  unfold impl_TakeAll.f TA
  refine Ev.bind (wf_impl a b) ?_
  by_cases h : WF a b = 0
  · simp only [h, if_true]
    by_cases hl : l.length > 100
    · simp only [show (l.length : Int) > 100 by omega, hl, if_true]; exact Ev.now _
    · simp only [show ¬ (l.length : Int) > 100 by omega, hl, if_false]
      have := ta_impl_l0 l (by omega) l.length 0 a b [] h (by omega) (by simp; omega)
      simpa using this
  · simp only [h, if_false]; exact Ev.now _
end Go.Proofs.Ytalkfdedbacidaa.Pure
/- Gx91 -/
namespace Go.Proofs.Ytalkfdedbacidaa.G
open Go.RowKit Go.Proofs.YtalkfdedbacidaaW.PrintWords Go.Proofs.YtalkfdedbacidaaW.PrintLast Go.Proofs.YtalkfdedbacidaaW.PrintMore
attribute [local go_sem] max2_int min2_int max_two min_two max_three min_three max_four min_four   -- for this text's walks alone
set_option linter.unusedVariables false
set_option linter.unusedSimpArgs false

/-! ### laws_toInt64S: function 56 -/
def laws_toInt64S.l0 : Nat → List Int → List Int → Int → Option (List Int)
  | 0, _, _, _ => none
  | k + 1, x0, x3, x4 => if x4 < (x0.length : Int) then (if 0 ≤ x4 then (if x4 < (x3.length : Int) then (laws_toInt64S.l0 k x0 (x3.set (x4 : Int).toNat (rd x0 x4)) (wrap64 (x4 + 1))) else (none)) else (none)) else (some x3)
def laws_toInt64S.f (k : Nat) (l0 : List Int) : Option (List Int) := if 0 ≤ (l0.length : Int) then (if ((l0.length : Int) : Int).toNat ≤ 35184372088832 then (laws_toInt64S.l0 k l0 (List.replicate ((l0.length : Int) : Int).toNat 0) 0) else (none)) else (none)
theorem laws_toInt64S.mono_l : ∀ k, (∀ y0 y1 y2, LeO (laws_toInt64S.l0 k y0 y1 y2) (laws_toInt64S.l0 (k + 1) y0 y1 y2))
  | 0 => fun _ _ _ r h => by simp [laws_toInt64S.l0] at h
  | k + 1 => by
    have ih0 := laws_toInt64S.mono_l k
    · intro y0 y1 y2
      unfold laws_toInt64S.l0
      repeat' first
      | (with_reducible exact ih0 _ _ _)
      | (with_reducible exact LeO.refl _)
      | (with_reducible exact LeO.none _)
      | (with_reducible refine LeO.ite ?_ ?_)
      | (with_reducible refine LeO.bind ?_ (fun _ => ?_))
      | exact ih0 _ _ _
      | exact LeO.none _
      | refine LeO.ite ?_ ?_
      | refine LeO.bind ?_ (fun _ => ?_)
theorem laws_toInt64S.mono : ∀ a0 k, LeO (laws_toInt64S.f k a0) (laws_toInt64S.f (k + 1) a0) := by
  intro a0 k
  have ih0 := laws_toInt64S.mono_l k
  unfold laws_toInt64S.f
  repeat' first
      | (with_reducible exact ih0 _ _ _)
      | (with_reducible exact LeO.refl _)
      | (with_reducible exact LeO.none _)
      | (with_reducible refine LeO.ite ?_ ?_)
      | (with_reducible refine LeO.bind ?_ (fun _ => ?_))
      | exact ih0 _ _ _
      | exact LeO.none _
      | refine LeO.ite ?_ ?_
      | refine LeO.bind ?_ (fun _ => ?_)
set_option maxHeartbeats 8000000 in
set_option maxRecDepth 100000 in
theorem laws_toInt64S.calls (k : Nat) (A0 : Option Addr) (c0 : Nat) (l0 : List Int) (r : List Int) (w : World) (hr0 : Kd.C (Kd.int .i64) w A0 l0.length l0) (hc0 : l0.length ≤ c0) (h : laws_toInt64S.f k l0 = some r) :
    Calls Try.prog 56 #[.slice A0 l0.length c0] w fun e w' => ∃ v0_ : Value, e = .returned (v0_) ∧ Kd.R (Kd.int .i64) 2 w' w.heap.size (fun _ => True) v0_ r ∧ Below w.heap.size w w' := by
  have HR0 := Aside0.mk hr0
  have HC0 := Aside0.mk hc0
  clear hr0 hc0
  have HB := Aside0.mk (Below.refl w.heap.size w)
  have H : (if 0 ≤ (l0.length : Int) then (if ((l0.length : Int) : Int).toNat ≤ 35184372088832 then (laws_toInt64S.l0 k l0 (List.replicate ((l0.length : Int) : Int).toNat 0) 0) else (none)) else (none)) = some r := h
  clear h
  by_cases c2 : 0 ≤ (l0.length : Int)
  · rw [if_pos c2] at H
    have c2b0 := eq_true c2
    have c2b1 : decide (0 ≤ (l0.length : Int)) = true := decide_eq_true c2
    clear c2
    by_cases c3 : ((l0.length : Int) : Int).toNat ≤ 35184372088832
    · rw [if_pos c3] at H
      have c3b0 := eq_true c3
      have c3b1 : decide (((l0.length : Int) : Int).toNat ≤ 35184372088832) = true := decide_eq_true c3
      clear c3
      obtain ⟨y599, hy599⟩ : ∃ y_ : List Int, y_ = (List.replicate ((l0.length : Int) : Int).toNat 0) := ⟨_, rfl⟩
      replace H : (laws_toInt64S.l0 k l0 y599 0) = some r := by first | (rw [hy599]; with_reducible exact H) | (have H2_ := (Option.bind_some _ _).symm.trans H; rw [hy599]; with_reducible exact H2_) | (have H2_ := (Option.bind_some _ _).symm.trans H; with_reducible exact H2_) | with_reducible exact H | (rw [hy599]; exact H) | exact H
      have Ny599 := Aside0.mk hy599
      clear hy599
      have H' := Aside0.mk H
      clear H
      go_enter Try.func56, Try.ntmps56
      go_wp2_with (first | ((with_reducible refine gate_dst (N := 7) rfl ?_); refine Kd.R_make (Kd.int .i64) _ 2 rfl (N := 7) rfl 58 _ _ rfl (l0.length : Int) rfl rfl Try.underlying58 (.int .i64 0) 8 info2 rfl (by decide) (by omega) 0 (ok := fun _ => True) (okp := fun _ => True) rfl (fun _ hk => hk) trivial (of_decide_eq_true (by first | (with_reducible assumption) | assumption)) (Nat.le_trans (Nat.mul_le_mul_right _ (of_decide_eq_true (by first | (with_reducible assumption) | assumption) : (l0.length : Int).toNat ≤ 35184372088832)) (by omega)) (Below.refl _ _) (Nat.le_refl _) ?_; intro v600 w4 ho5 hb hg_ hnew_; clear hg_ hnew_; (first | rw [← Ny599.out] at ho5 | (simp only [Int.reduceToNat] at ho5; rw [← Ny599.out] at ho5)); have n0_ := Aside0.mk (Kd.R_lower ho5 (below_size (by repeat (first | (with_reducible first | exact HB.out | apply below_alloc | apply pw_below_drewN | apply below_drew1) | exact HB.out)))); have n1_ := Aside0.mk (below_step (by repeat (first | (with_reducible first | exact HB.out | apply below_alloc | apply pw_below_drewN | apply below_drew1) | exact HB.out)) hb); clear HB; have HO601 := n0_; have HB := n1_; clear n0_ n1_; clear hb ho5))
      go_loopg [4] k (fun kq v4 w' => ∃ (x3_1 : List Int) (x4_1 : Int), v4 = .int .i64 x4_1 ∧ Aside0 (laws_toInt64S.l0 kq l0 x3_1 x4_1 = some r) ∧ Aside0 (kq ≤ k) ∧ Aside0 (Kd.R (Kd.int .i64) 2 w' w.heap.size (fun _ => True) v600 x3_1) ∧ Aside0 (Below w.heap.size w w'))
      case atStart => exact ⟨(y599), (0), (by first | rfl | (simp; done) | (simp [*]; done)), H', ⟨Nat.le_refl _⟩, ⟨by (with_reducible repeat (first | apply Kd.R_alloc | apply Kd.R_drewN | apply Kd.R_drew)); exact HO601.out⟩, ⟨by repeat (first | (with_reducible first | exact HB.out | apply below_alloc | apply pw_below_drewN | apply below_drew1) | exact HB.out)⟩⟩
      case round =>
        clear H'
        try clear c2
        try clear c2b0
        try clear c2b1
        try clear p2
        try clear c3
        try clear c3b0
        try clear c3b1
        try clear c5
        obtain ⟨x3_1, x4_1, rfl, HA, HK1, HO_3, HB⟩ := hrel
        cases gk with
        | zero => exact absurd HA.out (by simp [laws_toInt64S.l0])
        | succ k1 =>
          have H := HA.out
          clear HA
          simp only [laws_toInt64S.l0] at H
          by_cases c6 : x4_1 < (l0.length : Int)
          · rw [if_pos c6] at H
            have c6b0 : decide (x4_1 < (l0.length : Int)) = true := decide_eq_true c6
            clear c6
            by_cases c7 : 0 ≤ x4_1
            · rw [if_pos c7] at H
              have c7b0 : decide (0 ≤ x4_1) = true := decide_eq_true c7
              clear c7
              by_cases c8 : x4_1 < (x3_1.length : Int)
              · rw [if_pos c8] at H
                have c8b0 : decide (x4_1 < (x3_1.length : Int)) = true := decide_eq_true c8
                clear c8
                obtain ⟨y603, hy603⟩ : ∃ y_ : List Int, y_ = (x3_1.set (x4_1 : Int).toNat (rd l0 x4_1)) := ⟨_, rfl⟩
                replace H : (laws_toInt64S.l0 k1 l0 y603 (wrap64 (x4_1 + 1))) = some r := by first | (rw [hy603]; with_reducible exact H) | (have H2_ := (Option.bind_some _ _).symm.trans H; rw [hy603]; with_reducible exact H2_) | (have H2_ := (Option.bind_some _ _).symm.trans H; with_reducible exact H2_) | with_reducible exact H | (rw [hy603]; exact H) | exact H
                have Ny603 := Aside0.mk hy603
                clear hy603
                have H' := Aside0.mk H
                clear H
                have p602 : 0 ≤ (x4_1 : Int) := of_decide_eq_true (by first | (with_reducible assumption) | assumption)
                have q602 : x4_1 < (l0.length : Int) := of_decide_eq_true (by first | (with_reducible assumption) | assumption)
                obtain ⟨ad602, e602, hx602_0⟩ := Kd.at_int HR0.out x4_1 p602 q602
                cases e602
                replace hx602_0 := (HB.out.cell (World.block_lt_of_cell? w _ hx602_0)).trans hx602_0
                replace p602 := eq_true p602
                replace q602 := eq_true q602
                have p9 : 0 ≤ (x4_1 : Int) := of_decide_eq_true (by first | (with_reducible assumption) | assumption)
                have q9 : (x4_1 : Int) < ((x3_1.length : Int) : Int) := of_decide_eq_true (by first | (with_reducible assumption) | assumption)
                obtain ⟨go9, co9, eo9, gb9, gl9, cl9, HG9⟩ := Kd.R_form HO_3.out (by omega)
                (first | cases eo9 | (injection eo9 with ea_ en_ ec_; (first | subst ea_ | (injection ea_ with ea_; subst ea_)); subst ec_; clear en_))
                have GB9 := Aside0.mk gb9
                have GG9 := Aside0.mk HG9
                clear gb9 gl9 HG9
                obtain ⟨hx9_0, hf9_0⟩ := Kd.R_celln 0 HO_3.out (x4_1 : Int) p9 q9
                replace p9 := eq_true p9
                replace q9 := eq_true q9
                have HP10 := Kd.R_putg HO_3.out (x4_1 : Int) (rd l0 x4_1)
                go_wp2_with (first | ((with_reducible refine gate_store (t := 2) (p := 20) rfl ?_); refine store_event (t := 2) (p := 20) (v := ?vo_w11) (w1 := (wr.setCell ⟨go9, (x4_1 : Int).toNat, none⟩ (.int .i64 (rd l0 x4_1)))) ?hg ?ho ?hn ?hr ?_; (case ho => rfl); (case hg => rfl); (case hn => rfl); (case hr => first | (go_simp; done) | (go_simp; rfl)); intro w11 hw; have hg : wr.grownBy w11 (some go9) := (by rw [hw]; exact HP10.2); have hp_ : Kd.R (Kd.int .i64) 2 w11 w.heap.size (fun _ => True) (.slice (some ⟨go9, 0, none⟩) x3_1.length co9) y603 := (by rw [hw, Ny603.out]; exact HP10.1); clear HP10; have n0_ := Aside0.mk (hp_); have n1_ := Aside0.mk ((by rw [hw]; exact below_set (HB.out) GB9.out : Below w.heap.size w w11)); clear HO_3; clear HB; have HO_3 := n0_; have HB := n1_; clear n0_ n1_; clear hg hw hp_))
                go_roundg k1
                case measure => have := HK1.out; omega
                case rel => exact ⟨(y603), (wrap64 (x4_1 + 1)), (by first | rfl | (simp; done) | (simp [*]; done)), H', ⟨by have := HK1.out; omega⟩, ⟨by (with_reducible repeat (first | apply Kd.R_alloc | apply Kd.R_drewN | apply Kd.R_drew)); exact HO_3.out⟩, ⟨by repeat (first | (with_reducible first | exact HB.out | apply below_alloc | apply pw_below_drewN | apply below_drew1) | exact HB.out)⟩⟩
              · rw [if_neg c8] at H
                exact absurd H (by simp)
            · rw [if_neg c7] at H
              exact absurd H (by simp)
          · rw [if_neg c6] at H
            have c6b0 : decide (x4_1 < (l0.length : Int)) = false := decide_eq_false c6
            clear c6
            obtain rfl := Option.some.inj H
            go_wp2
            go_ret
            exact ⟨_, by first | rfl | (simp [errW_none, errW_some] <;> rfl) | (simp [*, errW_none, errW_some] <;> rfl), by (with_reducible repeat (first | apply Kd.R_alloc | apply Kd.R_drewN | apply Kd.R_drew)); exact HO_3.out, by repeat (first | (with_reducible first | exact HB.out | apply below_alloc | apply pw_below_drewN | apply below_drew1) | exact HB.out)⟩
    · rw [if_neg c3] at H
      exact absurd H (by simp)
  · rw [if_neg c2] at H
    exact absurd H (by simp)

end Go.Proofs.Ytalkfdedbacidaa.G
/- Pi -/
set_option linter.unusedVariables false
set_option linter.unusedSimpArgs false
namespace Go.Proofs.Ytalkfdedbacidaa.Pure
open Go.RowKit Go.Proofs.Ytalkfdedbacidaa.G Go.Proofs.YtalkfdedbacidaaW.PrintWords Go.Proofs.YtalkfdedbacidaaW.PrintLast Go.Proofs.YtalkfdedbacidaaW.PrintMore

theorem ev_succ {α : Type} {g : Nat → Option α} {r : α} (h : Ev (fun k => g (k + 1)) r) : Ev g r := by
  obtain ⟨K, hK⟩ := h
  refine ⟨K + 1, fun k hk => ?_⟩
  obtain ⟨m, rfl⟩ : ∃ m, k = m + 1 := ⟨k - 1, by omega⟩
  exact hK m (by omega)
theorem w64' {n : Int} (h0 : -9223372036854775808 ≤ n) (h1 : n ≤ 9223372036854775807) : wrap64 n = n := by unfold wrap64; omega
theorem rd_nat (l : List Int) (i : Nat) : rd l (i : Int) = l.getD i 0 := by simp [rd]
theorem set_split {α : Type} (pre rest : List α) (x y : α) : (pre ++ x :: rest).set pre.length y = pre ++ y :: rest := by
  simp
/-- A copy. -/
theorem toInt64S_l0 (l : List Int) (hl : l.length ≤ 9223372036854775807) (z : Int) (d : Nat) : ∀ (k i : Nat), i + d = l.length → d < k →
    laws_toInt64S.l0 k l (l.take i ++ List.replicate d z) i = some l := by
  induction d with
  | zero =>
    intro k i hi hk
    obtain ⟨k, rfl⟩ : ∃ m, k = m + 1 := ⟨k - 1, by omega⟩
    simp only [laws_toInt64S.l0]; rw [if_neg (by omega)]
    simp [List.take_of_length_le (show l.length ≤ i by omega)]
  | succ d ih =>
    intro k i hi hk
    obtain ⟨k, rfl⟩ : ∃ m, k = m + 1 := ⟨k - 1, by omega⟩
    simp only [laws_toInt64S.l0]
    rw [if_pos (by omega), if_pos (by omega), if_pos (by simp; omega), w64' (by omega) (by omega), rd_nat]
    have e : (l.take i ++ List.replicate (d + 1) z).set ((i : Int)).toNat (l.getD i 0) = l.take (i + 1) ++ List.replicate d z := by
      rw [List.replicate_succ]
      have h1 : (l.take i).length = i := by simp; omega
      have := set_split (l.take i) (List.replicate d z) z (l.getD i 0)
      rw [h1] at this
      simp only [Int.toNat_natCast]
      have hg : l.getD i 0 = l[i]'(by omega) := by simp [List.getD, List.getElem?_eq_getElem (show i < l.length by omega)]
      rw [this, hg, List.take_succ_eq_append_getElem (by omega), List.append_assoc]; rfl
    rw [e]
    have := ih k (i + 1) (by omega) (by omega)
    simpa using this
theorem toInt64S_ev (l : List Int) (hl : l.length ≤ 35184372088832) : Ev (fun k => laws_toInt64S.f k l) l := by
  refine ⟨l.length + 1, fun k hk => ?_⟩
  simp only [laws_toInt64S.f]
  rw [if_pos (by omega), if_pos (by simp; omega)]
  have := toInt64S_l0 l (by omega) 0 l.length k 0 (by omega) (by omega)
  simpa using this
/-- What is equal is told as equal. -/
theorem eqInt64S_l0 (l : List Int) (hl : l.length ≤ 9223372036854775807) (d : Nat) : ∀ (k i : Nat), i + d = l.length → d < k → laws_eqInt64S.l0 k l l i = some true := by
  induction d with
  | zero =>
    intro k i hi hk
    obtain ⟨k, rfl⟩ : ∃ m, k = m + 1 := ⟨k - 1, by omega⟩
    simp only [laws_eqInt64S.l0]; rw [if_neg (by omega)]
  | succ d ih =>
    intro k i hi hk
    obtain ⟨k, rfl⟩ : ∃ m, k = m + 1 := ⟨k - 1, by omega⟩
    simp only [laws_eqInt64S.l0]
    rw [if_pos (by omega), if_pos (by omega), if_pos (by omega), if_pos trivial, w64' (by omega) (by omega)]
    have := ih k (i + 1) (by omega) (by omega)
    simpa using this
theorem eqInt64S_ev (l : List Int) (hl : l.length ≤ 9223372036854775807) : Ev (fun k => laws_eqInt64S.f k l l) true := by
  refine ⟨l.length + 1, fun k hk => ?_⟩
  simp only [laws_eqInt64S.f, if_true]
  have := eqInt64S_l0 l hl l.length k 0 (by omega) (by omega)
  simpa using this
theorem eqIntsResult_ev (c : Int) (l : List Int) (hl : l.length ≤ 9223372036854775807) : Ev (fun k => laws_eqIntsResult.f k c l c l) true := by
  unfold laws_eqIntsResult.f
  simp only [if_true]
  refine Ev.bind (eqInt64S_ev l hl) ?_
  simp only [if_true]; exact Ev.now _
/-- Marks: the numbers m, m + 1, .. -/
def marks (m : Int) (n : Nat) : List Int := (List.range n).map fun (i : Nat) => m + (i : Int)
theorem marks_length (m : Int) (n : Nat) : (marks m n).length = n := by simp [marks]
theorem marks_succ (m : Int) (n : Nat) : marks m (n + 1) = marks m n ++ [m + n] := by simp [marks, List.range_succ]
theorem markInt64S_l0 (l : List Int) (m : Int) (hm : 0 ≤ m) (hl : m + l.length ≤ 9223372036854775806) (d : Nat) : ∀ (k i : Nat), i + d = l.length → d < k →
    laws_markInt64S.l0 k (marks m i ++ l.drop i) (m + i) i = some (m + l.length, marks m l.length) := by
  induction d with
  | zero =>
    intro k i hi hk
    obtain ⟨k, rfl⟩ : ∃ m, k = m + 1 := ⟨k - 1, by omega⟩
    obtain rfl : i = l.length := by omega
    simp only [laws_markInt64S.l0]; rw [if_neg (by simp [marks_length])]
    simp
  | succ d ih =>
    intro k i hi hk
    obtain ⟨k, rfl⟩ : ∃ m, k = m + 1 := ⟨k - 1, by omega⟩
    simp only [laws_markInt64S.l0]
    have hlen : (marks m i ++ l.drop i).length = l.length := by simp [marks_length]; omega
    rw [if_pos (by rw [hlen]; omega), if_pos (by omega), w64' (n := m + i + 1) (by omega) (by omega), w64' (n := (i : Int) + 1) (by omega) (by omega)]
    have e : (marks m i ++ l.drop i).set ((i : Int)).toNat (m + i) = marks m (i + 1) ++ l.drop (i + 1) := by
      rw [List.drop_eq_getElem_cons (show i < l.length by omega), marks_succ]
      have := set_split (marks m i) (l.drop (i + 1)) l[i] (m + i)
      rw [marks_length] at this
      simp only [Int.toNat_natCast]
      rw [this]; simp
    rw [e]
    have := ih k (i + 1) (by omega) (by omega)
    simpa [Int.add_assoc] using this
theorem markInt64S_ev (l : List Int) (m : Int) (hm : 0 ≤ m) (hl : m + l.length ≤ 9223372036854775806) : Ev (fun k => laws_markInt64S.f k l m) (m + l.length, marks m l.length) := by
  refine ⟨l.length + 1, fun k hk => ?_⟩
  unfold laws_markInt64S.f
  have := markInt64S_l0 l m hm hl l.length k 0 (by omega) (by omega)
  simpa [marks] using this
theorem heldInt64S_l0 (n : Nat) (m : Int) (hm : 0 ≤ m) (hl : m + n ≤ 9223372036854775806) (d : Nat) : ∀ (k i : Nat), i + d = n → d < k →
    laws_heldInt64S.l0 k (marks m n) (m + i) i = some (m + n) := by
  induction d with
  | zero =>
    intro k i hi hk
    obtain ⟨k, rfl⟩ : ∃ m, k = m + 1 := ⟨k - 1, by omega⟩
    obtain rfl : i = n := by omega
    simp only [laws_heldInt64S.l0]; rw [if_neg (by simp [marks_length])]
  | succ d ih =>
    intro k i hi hk
    obtain ⟨k, rfl⟩ : ∃ m, k = m + 1 := ⟨k - 1, by omega⟩
    simp only [laws_heldInt64S.l0]
    have e : rd (marks m n) (i : Int) = m + i := by
      rw [rd_nat]
      simp [marks, List.getD, List.getElem?_map, List.getElem?_range (show i < n by omega)]
    rw [if_pos (by rw [marks_length]; omega), if_pos (by omega), if_pos e, w64' (n := m + i + 1) (by omega) (by omega), w64' (n := (i : Int) + 1) (by omega) (by omega)]
    have := ih k (i + 1) (by omega) (by omega)
    simpa [Int.add_assoc] using this
theorem heldInt64S_ev (n : Nat) (m : Int) (hm : 0 ≤ m) (hl : m + n ≤ 9223372036854775806) : Ev (fun k => laws_heldInt64S.f k (marks m n) m) (m + n) := by
  refine ⟨n + 1, fun k hk => ?_⟩
  unfold laws_heldInt64S.f
  have := heldInt64S_l0 n m hm hl n k 0 (by omega) (by omega)
  simpa using this
theorem markIntsResult_ev (c : Int) (l : List Int) (m : Int) (hm : 0 ≤ m) (hl : m + l.length ≤ 9223372036854775806) : Ev (fun k => laws_markIntsResult.f k c l m) (m + l.length, marks m l.length) := by
  unfold laws_markIntsResult.f
  exact Ev.bind (markInt64S_ev l m hm hl) (Ev.now _)
theorem heldIntsResult_ev (c : Int) (n : Nat) (m : Int) (hm : 0 ≤ m) (hl : m + n ≤ 9223372036854775806) : Ev (fun k => laws_heldIntsResult.f k c (marks m n) m) (m + n) := by
  unfold laws_heldIntsResult.f
  refine Ev.bind (heldInt64S_ev n m hm hl) ?_
  rw [if_neg (by omega)]; exact Ev.now _
end Go.Proofs.Ytalkfdedbacidaa.Pure
/- PureFnExactMissingIn -/
namespace Go.Proofs.Ytalkfdedbacidaa.Pure
open Go.RowKit Go.Proofs.Ytalkfdedbacidaa.G Go.Proofs.YtalkfdedbacidaaW.PrintWords Go.Proofs.YtalkfdedbacidaaW.PrintLast

theorem FnExactMissingIn : laws_FnExactMissingIn.Pure := by
  intro x0 _
  refine Ev.rounds ?_
  unfold laws_FnExactMissingIn.f laws_toWindow.f
  simp only [Option.bind_some]
  have hn := MI_length x0.1 x0.2
  refine Ev.bind (mi_spec _ _) (Ev.bind (mi_impl _ _) ?_)
  refine Ev.bind (eqIntsResult_ev _ _ (by omega)) ?_
  simp only [if_true]
  refine Ev.bind (markIntsResult_ev _ _ 1 (by omega) (by omega)) ?_
  refine Ev.bind (heldIntsResult_ev _ _ 1 (by omega) (by omega)) ?_
  simp only [show ¬ (1 + ((MI x0.1 x0.2).2.length : Int)) < 0 by omega, if_false, if_true]
  refine Ev.bind (mi_impl _ _) ?_
  refine Ev.bind (eqIntsResult_ev _ _ (by omega)) ?_
  simp only [if_true]
  refine Ev.bind (heldIntsResult_ev _ _ 1 (by omega) (by omega)) ?_
  simp only [show ¬ (1 + ((MI x0.1 x0.2).2.length : Int)) < 0 by omega, if_false, if_true]
  exact Ev.now _

end Go.Proofs.Ytalkfdedbacidaa.Pure
/- LawFnExactMissingIn -/
namespace Go.Proofs.Ytalkfdedbacidaa.fnExactMissingIn
open Go.ChangeShapes Go.WideShapes Go.ChangeAt
open Go.RowKit Go.Proofs.Ytalkfdedbacidaa.G Go.Proofs.YtalkfdedbacidaaW.PrintWords Go.Proofs.YtalkfdedbacidaaW.PrintLast
open Go.ChangeMaps (open_string shut_string)
set_option linter.unusedVariables false
theorem own : ownKnob Try.prog.godebug = none := by kernel_rfl
theorem laidOut : laidOutB Try.prog = true := by kernel_rfl
theorem o2 : Opn.Opens Try.prog 2 (Kd.int .i64) (fun n => (Lit.int .i64 n).wf = true) := Opn.opens_int Try.underlying2 (by kernel_rfl)
theorem o23 : Opn.Opens Try.prog 23 (Kd.iso (Kd.pair (Kd.int .i64) (Kd.int .i64)) (fun x => x)) (fun (x : Int × Int) => (fun n => (Lit.int .i64 n).wf = true) x.1 ∧ (fun n => (Lit.int .i64 n).wf = true) x.2) := by
  refine Opn.opens_struct (G := fun (x : Int × Int) => (fun n => (Lit.int .i64 n).wf = true) x.1 ∧ (fun n => (Lit.int .i64 n).wf = true) x.2) (fun x => x) (fun y => y) (fun _ => rfl) Try.underlying23 (by kernel_rfl) ?_
  apply Opn.at_cons (T := 2) (G := fun n => (Lit.int .i64 n).wf = true) (G2 := fun n => (Lit.int .i64 n).wf = true)
  · rfl
  · rfl
  · exact o2
  apply Opn.at_last (T := 2)
  · rfl
  · rfl
  · exact o2
set_option maxRecDepth 100000 in
theorem lifted (os : Os) (started : os.Started) (H : Type) (enc : TypeId × Value → H) :
    ReturnsInHanded {} Try.checked os 10 .any (Rows.fnExactMissingInSpec.pre6 enc Try.prog Try.f10 Rows.fnExactMissingInRow.domain false) (Rows.fnExactMissingInSpec.post enc Try.prog Try.f10 false true false false) := by
  refine returnsInHanded_of_change_sized (C := Try.checked) own started (by kernel_rfl) Try.func10
    (ChangeSpec.witness6 (enc := enc) (C := Try.checked) false ⟨#[], #[.agg #[.int .i64 0, .int .i64 0]], []⟩ 8 (by kernel_rfl) (by kernel_rfl) (by kernel_rfl) (by kernel_rfl)) ?_
  intro W base args ds gs before hval0 hW hcnd hsz0 _
  have hval : ∀ (j : Nat) t v, Try.f10.params[j]? = some t → args[j]? = some v → Value.okWide Try.prog W .any base t v := hval0
  have hW' := hW
  obtain ⟨p, q, hA0, hV, rfl, hfz, hnd⟩ := hW
  have hA : DataW.TrodAll enc Try.prog W 0 (fun _ => true) true Try.f10.params.toList args.toList ds p := hA0
  rw [Try.params10] at hA hval
  obtain ⟨v0, vs0, d0, ds0, p0, q0, hargs, rfl, rfl, h0, r0⟩ := trodAll_cons hA
  obtain ⟨rfl, rfl, rfl⟩ := trodAll_nil r0
  obtain rfl : args = #[v0] := by cases args; simp_all
  obtain ⟨rfl, rfl⟩ := trodVars_none hV
  have k0 := h0
  have lt0 : ∀ x ∈ p0, x.block < W.heap.size := by obtain ⟨m, hm⟩ := k0; exact DataW.trod_lt m _ _ _ hm
  obtain ⟨x0, cs0, rfl, hk0, hg0⟩ := Opn.arg_struct Try.underlying23 o23 (hval 0 23 v0 rfl rfl) h0
  obtain ⟨_, _, rfl, rfl, rfl⟩ := hk0
  clear hA0 hval0 hsz0
  obtain ⟨k, h⟩ := Pure.FnExactMissingIn x0 hg0
  refine (laws_FnExactMissingIn.calls k (x0.1) (x0.2) W  h).mono fun e W' ⟨he, bel0⟩ => ?_
  have bel : Below W.heap.size W W' := bel0
  subst he
  exact ⟨_, rfl, _, _, _, [], _, [], hW', trodAll_mk1 (shut_bool Try.underlying4 _), (trodAll_cons_mk (Below.trod laidOut (by kernel_rfl) (of_decide_eq_true (by kernel_rfl)) k0 bel lt0) trodAll_mk0), rfl, bel.frame _, fun h => by cases h⟩
theorem over : Rows.fnExactMissingInRow.holds Try.pinned (OpenSpec.ofChange Rows.fnExactMissingInSpec) :=
  OpenClaim.holds_of_wide 10 Try.f10 rfl rfl rfl rfl rfl rfl rfl ⟨rfl, rfl, rfl, rfl, rfl⟩ rfl rfl rfl rfl rfl (by kernel_rfl) Try.func10 (by kernel_rfl)
    (of_decide_eq_true (by kernel_rfl)) (by unfold Func.isWrapper; first | (rw [if_pos (by decide +kernel)]; kernel_rfl) | (rw [if_neg (by decide +kernel)]; exact ⟨rfl, rfl⟩))
    (fun os started H enc _ => lifted os started H enc)
end Go.Proofs.Ytalkfdedbacidaa.fnExactMissingIn
namespace Go.Proofs.Ytalkfdedbacidaa
theorem fnExactMissingIn_holds : Rows.FnExactMissingInSaid := fnExactMissingIn.over
#print axioms fnExactMissingIn_holds
end Go.Proofs.Ytalkfdedbacidaa
