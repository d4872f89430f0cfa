/- Part 4 of the proof of FnExactMakeKeys: what the functions on its road do, and the plain laws. -/
import Derived.Test.YtomaeijhljpgdaaCFnExactMakeKeys1
import Derived.RangeFuncNested
import Derived.RangeFuncBound
import Derived.RangeFuncCalls
import Derived.RangeFuncLeaves
import Derived.RangeFuncWrites
import Derived.RangeFuncBox
import Derived.Shelf.Abstract
import Derived.OwnWalkIn
import Derived.TacticsInMore
import Derived.LoopNIn
import Derived.LoopIn
namespace Go.Proofs.Ytomaeijhljpgdaa.G
open Go.RowKit Go.Proofs.YtomaeijhljpgdaaW.PrintWords Go.Proofs.YtomaeijhljpgdaaW.PrintLast Go.Proofs.YtomaeijhljpgdaaW.PrintMore
attribute [local go_sem] max2_int min2_int max_two min_two max_three min_three max_four min_four   -- for this text's walks alone
set_option linter.unusedVariables false
set_option linter.unusedSimpArgs false
def spec_l5Put.f (k : Nat) (l0 : List (S26)) (a1_0 : Int) (a1_1 : Int) (a1_2 : Int) (a1_3 : Int) : Option (Int × Int × (List (S26))) := (spec_l5Term.f k l0 a1_0 a1_1 a1_2 a1_3).bind fun t126 => (if t126 = 0 then ((spec_l5Find.f k l0 a1_0 a1_1 a1_2 a1_3).bind fun t127 => (if t127 ≥ 0 then ((spec_l5Copy.f l0).bind fun t128 => (some (0, t127, t128))) else (if (l0.length : Int) ≥ 400 then (some (2, 0, ([] : List (S26)))) else ((spec_l5Copy.f l0).bind fun t131 => ((some (([(⟨a1_0, a1_1, a1_2, a1_3⟩ : S26)] : List (S26)) : List (S26))).bind fun y134 => (if t131.length + y134.length < 4398046511104 then (some (0, (l0.length : Int), (t131 ++ y134))) else (none))))))) else (some (t126, 0, ([] : List (S26)))))
def spec_l5Put.T9 : Bool × List (List Nat × List Nat) := (true, [([], []), ([0], [0]), ([], []), ([2], [2]), ([], []), ([4], [4]), ([3, 5, 3], [3, 5]), ([1, 6], [1, 6]), ([7, 6, 0, 1, 2, 3, 4, 5, 6, 7], [7])])
def spec_l5Put.B9 : List Nat := [0, 1, 0, 4, 0, 16, 60, 127, 255]
theorem spec_l5Put.tab9 : rtab .any (opsOf Try.f58 9) = spec_l5Put.T9 := by kernel_rfl
theorem spec_l5Put.bits9 : waitsOk spec_l5Put.T9.2 spec_l5Put.B9 = true := by kernel_rfl
set_option maxHeartbeats 8000000 in
set_option maxRecDepth 100000 in
theorem spec_l5Put.calls (k : Nat) (A0 : Option Addr) (c0 : Nat) (l0 : List (S26)) (a1_0 : Int) (a1_1 : Int) (a1_2 : Int) (a1_3 : Int) (r1 : Int) (r2 : Int) (r3 : List (S26)) (w : World) (hr0 : Kd.C k26 w A0 l0.length l0) (hc0 : l0.length ≤ c0) (h : spec_l5Put.f k l0 a1_0 a1_1 a1_2 a1_3 = some (r1, r2, r3)) :
  Calls Try.prog 58 #[.slice A0 l0.length c0, .agg #[.int .i64 a1_0, .int .i64 a1_1, .int .i64 a1_2, .int .i64 a1_3]] w fun e w' => ∃ v2_ : Value, e = .returned (.agg #[.int .i64 r1, .int .i64 r2, v2_]) ∧ Kd.R k26 26 w' w.heap.size (fun _ => True) v2_ r3 ∧ Below w.heap.size w w' := by
 have hu26 := Try.underlying26
 have hu30 := Try.underlying30
 have HR0 := Aside0.mk hr0
 have HC0 := Aside0.mk hc0
 clear hr0 hc0
 have HB := Aside0.mk (Below.refl w.heap.size w)
 have H : ((spec_l5Term.f k l0 a1_0 a1_1 a1_2 a1_3).bind fun t126 => (if t126 = 0 then ((spec_l5Find.f k l0 a1_0 a1_1 a1_2 a1_3).bind fun t127 => (if t127 ≥ 0 then ((spec_l5Copy.f l0).bind fun t128 => (some (0, t127, t128))) else (if (l0.length : Int) ≥ 400 then (some (2, 0, ([] : List (S26)))) else ((spec_l5Copy.f l0).bind fun t131 => ((some (([(⟨a1_0, a1_1, a1_2, a1_3⟩ : S26)] : List (S26)) : List (S26))).bind fun y134 => (if t131.length + y134.length < 4398046511104 then (some (0, (l0.length : Int), (t131 ++ y134))) else (none))))))) else (some (t126, 0, ([] : List (S26)))))) = some (r1, r2, r3) := h
 clear h
 replace H := Option.bind_eq_some_iff.mp H
 obtain ⟨t126, A30, H⟩ := H
 try dsimp only at H
 have A3 := Aside0.mk A30
 clear A30
 by_cases c4 : t126 = 0
 ·rw [if_pos c4] at H
  have c4b0 : (t126 == 0) = true := beq_iff_eq.mpr c4
  have c4b1 : (t126 != 0) = false := bne_eq_false_iff_eq.mpr c4
  clear c4
  replace H := Option.bind_eq_some_iff.mp H
  obtain ⟨t127, A50, H⟩ := H
  try dsimp only at H
  have A5 := Aside0.mk A50
  clear A50
  by_cases c6 : t127 ≥ 0
  ·rw [if_pos c6] at H
   have c6b0 : decide (0 ≤ t127) = true := decide_eq_true c6
   clear c6
   replace H := Option.bind_eq_some_iff.mp H
   obtain ⟨t128, A70, H⟩ := H
   try dsimp only at H
   have A7 := Aside0.mk A70
   clear A70
   simp only [Option.some.injEq, Prod.mk.injEq] at H
   obtain ⟨rfl, rfl, rfl⟩ := H
   go_enter Try.func58, Try.ntmps58
   go_wp2_with (first | ((with_reducible refine gate_dst (N := 3) rfl ?_); refine box_event ?hg (N := 3) ?hd (cs := #[.int .i64 a1_0, .int .i64 a1_1, .int .i64 a1_2, .int .i64 a1_3]) (t := 26) ?hr ?_; (case hd => rfl); (case hg => rfl); (case hr => first | (go_simp; done) | (go_simp; rfl)); intro gb124 hg w8 hbox hb; have n0_ := Aside0.mk (below_step (by repeat (first | (with_reducible first | exact HB.out | apply below_alloc | apply pw_below_drewN | apply below_drew1) | exact HB.out)) hb); have n1_ := Aside0.mk (hbox); have n2_ := Aside0.mk ((by rw [hg]; exact (below_size (by repeat (first | (with_reducible first | exact HB.out | apply below_alloc | apply pw_below_drewN | apply below_drew1) | exact HB.out))) : w.heap.size ≤ gb124)); have n3_ := Aside0.mk ((by rw [hg]; exact (below_size (by repeat (first | (with_reducible first | exact HB.out | apply below_alloc | apply pw_below_drewN | apply below_drew1) | exact HB.out))) : w.heap.size ≤ gb124)); clear HB; have HB := n0_; have BK124 := n1_; have GW124 := n2_; have GE124 := n3_; clear n0_ n1_ n2_ n3_; clear hb hbox hg) | ((with_reducible refine gate_dst (N := 4) rfl ?_); refine box_event ?hg (N := 4) ?hd (cs := #[.int .i64 0, .int .i64 0, .slice none 0 0]) (t := 30) ?hr ?_; (case hd => rfl); (case hg => rfl); (case hr => first | (go_simp; done) | (go_simp; rfl)); intro gb125 hg w9 hbox hb; have n0_ := Aside0.mk (blk_below (g := gb124) (o := .cells #[.int .i64 a1_0, .int .i64 a1_1, .int .i64 a1_2, .int .i64 a1_3] 26 (0, 0)) (by (with_reducible repeat (first | refine blk_drewN ?_ _ | refine blk_drew ?_ | refine blk_alloc ?_ _)); exact BK124.out) hb); have n1_ := Aside0.mk (below_step (by repeat (first | (with_reducible first | exact HB.out | apply below_alloc | apply pw_below_drewN | apply below_drew1 | refine below_set ?_ GE124.out) | exact HB.out)) hb); have n2_ := Aside0.mk (hbox); have n3_ := Aside0.mk ((by rw [hg]; exact (below_size (by repeat (first | (with_reducible first | exact HB.out | apply below_alloc | apply pw_below_drewN | apply below_drew1 | refine below_set ?_ GE124.out) | exact HB.out))) : w.heap.size ≤ gb125)); have n4_ := Aside0.mk ((by rw [hg]; exact (below_size (by repeat (first | (with_reducible first | exact HB.out | apply below_alloc | apply pw_below_drewN | apply below_drew1 | refine below_set ?_ GE124.out) | exact HB.out))) : w.heap.size ≤ gb125)); have n5_ := Aside0.mk ((by rw [hg]; exact Nat.ne_of_lt (blk_lt (g := gb124) (o := .cells #[.int .i64 a1_0, .int .i64 a1_1, .int .i64 a1_2, .int .i64 a1_3] 26 (0, 0)) (by (with_reducible repeat (first | refine blk_drewN ?_ _ | refine blk_drew ?_ | refine blk_alloc ?_ _)); exact BK124.out)) : gb124 ≠ gb125)); have n6_ := Aside0.mk ((by rw [hg]; exact Nat.ne_of_gt (blk_lt (g := gb124) (o := .cells #[.int .i64 a1_0, .int .i64 a1_1, .int .i64 a1_2, .int .i64 a1_3] 26 (0, 0)) (by (with_reducible repeat (first | refine blk_drewN ?_ _ | refine blk_drew ?_ | refine blk_alloc ?_ _)); exact BK124.out)) : gb125 ≠ gb124)); clear BK124; clear HB; have BK124 := n0_; have HB := n1_; have BK125 := n2_; have GW125 := n3_; have GE125 := n4_; have NB124_125 := n5_; have NB125_124 := n6_; clear n0_ n1_ n2_ n3_ n4_ n5_ n6_; clear hb hbox hg; have hnb10 := NB124_125.out; have hnc10 := NB125_124.out; have hcz11_0 : w9.cell? ⟨gb124, 0, none⟩ = some (.int .i64 a1_0) := (blk_cell BK124.out 0).trans rfl; have hcz11_1 : w9.cell? ⟨gb124, 1, none⟩ = some (.int .i64 a1_1) := (blk_cell BK124.out 1).trans rfl; have hcz11_2 : w9.cell? ⟨gb124, 2, none⟩ = some (.int .i64 a1_2) := (blk_cell BK124.out 2).trans rfl; have hcz11_3 : w9.cell? ⟨gb124, 3, none⟩ = some (.int .i64 a1_3) := (blk_cell BK124.out 3).trans rfl; have hfz11_0 := blk_frozen BK124.out 0; have hfz11_1 := blk_frozen BK124.out 1; have hfz11_2 := blk_frozen BK124.out 2; have hfz11_3 := blk_frozen BK124.out 3) | ((with_reducible refine gate_callee (f := 92) rfl ?_); refine goesL_ (some 9) rfl rfl Try.func92 (by kernel_rfl) rfl #[.slice A0 l0.length c0, .agg #[.int .i64 a1_0, .int .i64 a1_1, .int .i64 a1_2, .int .i64 a1_3]] rfl (by (try simp only [List.map_toArray, List.map_cons, List.map_nil]); first | done | rfl | (simp only [List.length_drop, List.length_take]; rfl)) ?_; (with_reducible refine (spec_l5Term.calls k _ _ l0 a1_0 a1_1 a1_2 a1_3 t126 _ ?side1 ?side2 A3.out).mono ?_); (case side1 => repeat (first | exact (Kd.C_below HR0.out HB.out) | (with_reducible refine Kd.C_alloc ?_ _) | (with_reducible refine Kd.C_drewN ?_ _) | (with_reducible refine Kd.C_drew ?_))); (case side2 => exact HC0.out); rintro e w12 ⟨rfl, hb⟩; refine ⟨_, rfl, ?_⟩; have n0_ := Aside0.mk (blk_below (g := gb124) (o := .cells #[.int .i64 a1_0, .int .i64 a1_1, .int .i64 a1_2, .int .i64 a1_3] 26 (0, 0)) (by (with_reducible repeat (first | refine blk_drewN ?_ _ | refine blk_drew ?_ | refine blk_alloc ?_ _)); exact BK124.out) hb); have n1_ := Aside0.mk (blk_below (g := gb125) (o := .cells #[.int .i64 0, .int .i64 0, .slice none 0 0] 30 (0, 0)) (by (with_reducible repeat (first | refine blk_drewN ?_ _ | refine blk_drew ?_ | refine blk_alloc ?_ _)); exact BK125.out) hb); have n2_ := Aside0.mk (below_step (by repeat (first | (with_reducible first | exact HB.out | apply below_alloc | apply pw_below_drewN | apply below_drew1 | refine below_set ?_ GE124.out | refine below_set ?_ GE125.out) | exact HB.out)) hb); clear BK124; clear BK125; clear HB; have BK124 := n0_; have BK125 := n1_; have HB := n2_; clear n0_ n1_ n2_; (try clear hb); (try clear hb2); (try clear hk); (try clear hi); have hcz13_0 : w12.cell? ⟨gb124, 0, none⟩ = some (.int .i64 a1_0) := (blk_cell BK124.out 0).trans rfl; have hcz13_1 : w12.cell? ⟨gb124, 1, none⟩ = some (.int .i64 a1_1) := (blk_cell BK124.out 1).trans rfl; have hcz13_2 : w12.cell? ⟨gb124, 2, none⟩ = some (.int .i64 a1_2) := (blk_cell BK124.out 2).trans rfl; have hcz13_3 : w12.cell? ⟨gb124, 3, none⟩ = some (.int .i64 a1_3) := (blk_cell BK124.out 3).trans rfl; have hfz13_0 := blk_frozen BK124.out 0; have hfz13_1 := blk_frozen BK124.out 1; have hfz13_2 := blk_frozen BK124.out 2; have hfz13_3 := blk_frozen BK124.out 3) | ((with_reducible refine gate_callee (f := 93) rfl ?_); refine goesL_ (some 16) rfl rfl Try.func93 (by kernel_rfl) rfl #[.slice A0 l0.length c0, .agg #[.int .i64 a1_0, .int .i64 a1_1, .int .i64 a1_2, .int .i64 a1_3]] rfl (by (try simp only [List.map_toArray, List.map_cons, List.map_nil]); first | done | rfl | (simp only [List.length_drop, List.length_take]; rfl)) ?_; (with_reducible refine (spec_l5Find.calls k _ _ l0 a1_0 a1_1 a1_2 a1_3 t127 _ ?side1 ?side2 A5.out).mono ?_); (case side1 => repeat (first | exact (Kd.C_below HR0.out HB.out) | (with_reducible refine Kd.C_alloc ?_ _) | (with_reducible refine Kd.C_drewN ?_ _) | (with_reducible refine Kd.C_drew ?_))); (case side2 => exact HC0.out); rintro e w14 ⟨rfl, hb⟩; refine ⟨_, rfl, ?_⟩; have n0_ := Aside0.mk (blk_below (g := gb124) (o := .cells #[.int .i64 a1_0, .int .i64 a1_1, .int .i64 a1_2, .int .i64 a1_3] 26 (0, 0)) (by (with_reducible repeat (first | refine blk_drewN ?_ _ | refine blk_drew ?_ | refine blk_alloc ?_ _)); exact BK124.out) hb); have n1_ := Aside0.mk (blk_below (g := gb125) (o := .cells #[.int .i64 0, .int .i64 0, .slice none 0 0] 30 (0, 0)) (by (with_reducible repeat (first | refine blk_drewN ?_ _ | refine blk_drew ?_ | refine blk_alloc ?_ _)); exact BK125.out) hb); have n2_ := Aside0.mk (below_step (by repeat (first | (with_reducible first | exact HB.out | apply below_alloc | apply pw_below_drewN | apply below_drew1 | refine below_set ?_ GE124.out | refine below_set ?_ GE125.out) | exact HB.out)) hb); clear BK124; clear BK125; clear HB; have BK124 := n0_; have BK125 := n1_; have HB := n2_; clear n0_ n1_ n2_; (try clear hb); (try clear hb2); (try clear hk); (try clear hi)) | ((with_reducible refine gate_callee (f := 67) rfl ?_); refine goesL_ (some 21) rfl rfl Try.func67 (by kernel_rfl) rfl #[.slice A0 l0.length c0] rfl (by (try simp only [List.map_toArray, List.map_cons, List.map_nil]); first | done | rfl | (simp only [List.length_drop, List.length_take]; rfl)) ?_; (with_reducible refine (spec_l5Copy.calls _ _ l0 t128 _ ?side1 ?side2 A7.out).mono ?_); (case side1 => repeat (first | exact (Kd.C_below HR0.out HB.out) | (with_reducible refine Kd.C_alloc ?_ _) | (with_reducible refine Kd.C_drewN ?_ _) | (with_reducible refine Kd.C_drew ?_))); (case side2 => exact HC0.out); rintro e w15 ⟨v129, rfl, ho0, hb⟩; refine ⟨_, rfl, ?_⟩; have n0_ := Aside0.mk (Kd.R_lower (Kd.R_newB ho0 (g := gb124) (o := .cells #[.int .i64 a1_0, .int .i64 a1_1, .int .i64 a1_2, .int .i64 a1_3] 26 (0, 0)) (by (with_reducible repeat (first | refine blk_drewN ?_ _ | refine blk_drew ?_ | refine blk_alloc ?_ _)); exact BK124.out)) (below_size (by repeat (first | (with_reducible first | exact HB.out | apply below_alloc | apply pw_below_drewN | apply below_drew1 | refine below_set ?_ GE124.out | refine below_set ?_ GE125.out) | exact HB.out)))); have n1_ := Aside0.mk (blk_below (g := gb124) (o := .cells #[.int .i64 a1_0, .int .i64 a1_1, .int .i64 a1_2, .int .i64 a1_3] 26 (0, 0)) (by (with_reducible repeat (first | refine blk_drewN ?_ _ | refine blk_drew ?_ | refine blk_alloc ?_ _)); exact BK124.out) hb); have n2_ := Aside0.mk (blk_below (g := gb125) (o := .cells #[.int .i64 0, .int .i64 0, .slice none 0 0] 30 (0, 0)) (by (with_reducible repeat (first | refine blk_drewN ?_ _ | refine blk_drew ?_ | refine blk_alloc ?_ _)); exact BK125.out) hb); have n3_ := Aside0.mk (below_step (by repeat (first | (with_reducible first | exact HB.out | apply below_alloc | apply pw_below_drewN | apply below_drew1 | refine below_set ?_ GE124.out | refine below_set ?_ GE125.out) | exact HB.out)) hb); clear BK124; clear BK125; clear HB; have HO130 := n0_; have BK124 := n1_; have BK125 := n2_; have HB := n3_; clear n0_ n1_ n2_ n3_; (try clear hb); (try clear hb2); (try clear hk); (try clear hi); (try clear ho0); obtain ⟨Ao16, co16, eo16⟩ := Kd.R_slice HO130.out; subst eo16; have hcz17_0 : w15.cell? ⟨gb125, 0, none⟩ = some (.int .i64 0) := (blk_cell BK125.out 0).trans rfl; have hcz17_1 : w15.cell? ⟨gb125, 1, none⟩ = some (.int .i64 0) := (blk_cell BK125.out 1).trans rfl; have hcz17_2 : w15.cell? ⟨gb125, 2, none⟩ = some (.slice none 0 0) := (blk_cell BK125.out 2).trans rfl; have hfz17_0 := blk_frozen BK125.out 0; have hfz17_1 := blk_frozen BK125.out 1; have hfz17_2 := blk_frozen BK125.out 2))
   refine bodyPost_ret (results_cell_row rfl _ _ gb125 30 #[.int .i64 0, .int .i64 t127, .slice Ao16 t128.length co16] (0, 0) _ rfl (by (with_reducible repeat (first | refine blk_drewN ?_ _ | refine blk_drew ?_ | refine blk_alloc ?_ _)); refine blk_put (cs := #[.int .i64 0, .int .i64 t127, .slice none 0 0]) ?_ 2 _ rfl; (with_reducible repeat (first | refine blk_drewN ?_ _ | refine blk_drew ?_ | refine blk_alloc ?_ _)); refine blk_put (cs := #[.int .i64 0, .int .i64 0, .slice none 0 0]) ?_ 1 _ rfl; (with_reducible repeat (first | refine blk_drewN ?_ _ | refine blk_drew ?_ | refine blk_alloc ?_ _)); refine blk_put (cs := #[.int .i64 0, .int .i64 0, .slice none 0 0]) ?_ 0 _ rfl; (with_reducible repeat (first | refine blk_drewN ?_ _ | refine blk_drew ?_ | refine blk_alloc ?_ _)); exact BK125.out) Try.underlying30 rfl (by kernel_rfl)) rfl ?_
   exact ⟨_, by first | rfl | (simp [errW_none, errW_some] <;> rfl) | (simp [*, errW_none, errW_some] <;> rfl), by (with_reducible repeat (first | apply Kd.R_alloc | apply Kd.R_drewN | apply Kd.R_drew)); exact Kd.R_mono (Kd.R_far (p := ⟨gb125, 2, none⟩) (Kd.R_far (p := ⟨gb125, 1, none⟩) (Kd.R_far (p := ⟨gb125, 0, none⟩) (Kd.R_types HO130.out BK125.out (by decide)) (fun _ hk => hk.2) (.int .i64 0)) (fun _ hk => hk.2) (.int .i64 t127)) (fun _ hk => hk.2) (.slice Ao16 t128.length co16)) (fun _ hk => trivial), by repeat (first | (with_reducible first | exact HB.out | apply below_alloc | apply pw_below_drewN | apply below_drew1 | refine below_set ?_ GE124.out | refine below_set ?_ GE125.out) | exact HB.out)⟩
  ·rw [if_neg c6] at H
   have c6b0 : decide (0 ≤ t127) = false := decide_eq_false c6
   clear c6
   by_cases c18 : (l0.length : Int) ≥ 400
   ·rw [if_pos c18] at H
    have c18b0 : decide (400 ≤ (l0.length : Int)) = true := decide_eq_true c18
    have c18b1 : decide (400 ≤ l0.length) = true := decide_eq_true (by omega)
    clear c18
    simp only [Option.some.injEq, Prod.mk.injEq] at H
    obtain ⟨rfl, rfl, rfl⟩ := H
    go_enter Try.func58, Try.ntmps58
    go_wp2_with (first | ((with_reducible refine gate_dst (N := 3) rfl ?_); refine box_event ?hg (N := 3) ?hd (cs := #[.int .i64 a1_0, .int .i64 a1_1, .int .i64 a1_2, .int .i64 a1_3]) (t := 26) ?hr ?_; (case hd => rfl); (case hg => rfl); (case hr => first | (go_simp; done) | (go_simp; rfl)); intro gb124 hg w19 hbox hb; have n0_ := Aside0.mk (below_step (by repeat (first | (with_reducible first | exact HB.out | apply below_alloc | apply pw_below_drewN | apply below_drew1) | exact HB.out)) hb); have n1_ := Aside0.mk (hbox); have n2_ := Aside0.mk ((by rw [hg]; exact (below_size (by repeat (first | (with_reducible first | exact HB.out | apply below_alloc | apply pw_below_drewN | apply below_drew1) | exact HB.out))) : w.heap.size ≤ gb124)); have n3_ := Aside0.mk ((by rw [hg]; exact (below_size (by repeat (first | (with_reducible first | exact HB.out | apply below_alloc | apply pw_below_drewN | apply below_drew1) | exact HB.out))) : w.heap.size ≤ gb124)); clear HB; have HB := n0_; have BK124 := n1_; have GW124 := n2_; have GE124 := n3_; clear n0_ n1_ n2_ n3_; clear hb hbox hg) | ((with_reducible refine gate_dst (N := 4) rfl ?_); refine box_event ?hg (N := 4) ?hd (cs := #[.int .i64 0, .int .i64 0, .slice none 0 0]) (t := 30) ?hr ?_; (case hd => rfl); (case hg => rfl); (case hr => first | (go_simp; done) | (go_simp; rfl)); intro gb125 hg w20 hbox hb; have n0_ := Aside0.mk (blk_below (g := gb124) (o := .cells #[.int .i64 a1_0, .int .i64 a1_1, .int .i64 a1_2, .int .i64 a1_3] 26 (0, 0)) (by (with_reducible repeat (first | refine blk_drewN ?_ _ | refine blk_drew ?_ | refine blk_alloc ?_ _)); exact BK124.out) hb); have n1_ := Aside0.mk (below_step (by repeat (first | (with_reducible first | exact HB.out | apply below_alloc | apply pw_below_drewN | apply below_drew1 | refine below_set ?_ GE124.out) | exact HB.out)) hb); have n2_ := Aside0.mk (hbox); have n3_ := Aside0.mk ((by rw [hg]; exact (below_size (by repeat (first | (with_reducible first | exact HB.out | apply below_alloc | apply pw_below_drewN | apply below_drew1 | refine below_set ?_ GE124.out) | exact HB.out))) : w.heap.size ≤ gb125)); have n4_ := Aside0.mk ((by rw [hg]; exact (below_size (by repeat (first | (with_reducible first | exact HB.out | apply below_alloc | apply pw_below_drewN | apply below_drew1 | refine below_set ?_ GE124.out) | exact HB.out))) : w.heap.size ≤ gb125)); have n5_ := Aside0.mk ((by rw [hg]; exact Nat.ne_of_lt (blk_lt (g := gb124) (o := .cells #[.int .i64 a1_0, .int .i64 a1_1, .int .i64 a1_2, .int .i64 a1_3] 26 (0, 0)) (by (with_reducible repeat (first | refine blk_drewN ?_ _ | refine blk_drew ?_ | refine blk_alloc ?_ _)); exact BK124.out)) : gb124 ≠ gb125)); have n6_ := Aside0.mk ((by rw [hg]; exact Nat.ne_of_gt (blk_lt (g := gb124) (o := .cells #[.int .i64 a1_0, .int .i64 a1_1, .int .i64 a1_2, .int .i64 a1_3] 26 (0, 0)) (by (with_reducible repeat (first | refine blk_drewN ?_ _ | refine blk_drew ?_ | refine blk_alloc ?_ _)); exact BK124.out)) : gb125 ≠ gb124)); clear BK124; clear HB; have BK124 := n0_; have HB := n1_; have BK125 := n2_; have GW125 := n3_; have GE125 := n4_; have NB124_125 := n5_; have NB125_124 := n6_; clear n0_ n1_ n2_ n3_ n4_ n5_ n6_; clear hb hbox hg; have hnb21 := NB124_125.out; have hnc21 := NB125_124.out; have hcz22_0 : w20.cell? ⟨gb124, 0, none⟩ = some (.int .i64 a1_0) := (blk_cell BK124.out 0).trans rfl; have hcz22_1 : w20.cell? ⟨gb124, 1, none⟩ = some (.int .i64 a1_1) := (blk_cell BK124.out 1).trans rfl; have hcz22_2 : w20.cell? ⟨gb124, 2, none⟩ = some (.int .i64 a1_2) := (blk_cell BK124.out 2).trans rfl; have hcz22_3 : w20.cell? ⟨gb124, 3, none⟩ = some (.int .i64 a1_3) := (blk_cell BK124.out 3).trans rfl; have hfz22_0 := blk_frozen BK124.out 0; have hfz22_1 := blk_frozen BK124.out 1; have hfz22_2 := blk_frozen BK124.out 2; have hfz22_3 := blk_frozen BK124.out 3) | ((with_reducible refine gate_callee (f := 92) rfl ?_); refine goesL_ (some 9) rfl rfl Try.func92 (by kernel_rfl) rfl #[.slice A0 l0.length c0, .agg #[.int .i64 a1_0, .int .i64 a1_1, .int .i64 a1_2, .int .i64 a1_3]] rfl (by (try simp only [List.map_toArray, List.map_cons, List.map_nil]); first | done | rfl | (simp only [List.length_drop, List.length_take]; rfl)) ?_; (with_reducible refine (spec_l5Term.calls k _ _ l0 a1_0 a1_1 a1_2 a1_3 t126 _ ?side1 ?side2 A3.out).mono ?_); (case side1 => repeat (first | exact (Kd.C_below HR0.out HB.out) | (with_reducible refine Kd.C_alloc ?_ _) | (with_reducible refine Kd.C_drewN ?_ _) | (with_reducible refine Kd.C_drew ?_))); (case side2 => exact HC0.out); rintro e w23 ⟨rfl, hb⟩; refine ⟨_, rfl, ?_⟩; have n0_ := Aside0.mk (blk_below (g := gb124) (o := .cells #[.int .i64 a1_0, .int .i64 a1_1, .int .i64 a1_2, .int .i64 a1_3] 26 (0, 0)) (by (with_reducible repeat (first | refine blk_drewN ?_ _ | refine blk_drew ?_ | refine blk_alloc ?_ _)); exact BK124.out) hb); have n1_ := Aside0.mk (blk_below (g := gb125) (o := .cells #[.int .i64 0, .int .i64 0, .slice none 0 0] 30 (0, 0)) (by (with_reducible repeat (first | refine blk_drewN ?_ _ | refine blk_drew ?_ | refine blk_alloc ?_ _)); exact BK125.out) hb); have n2_ := Aside0.mk (below_step (by repeat (first | (with_reducible first | exact HB.out | apply below_alloc | apply pw_below_drewN | apply below_drew1 | refine below_set ?_ GE124.out | refine below_set ?_ GE125.out) | exact HB.out)) hb); clear BK124; clear BK125; clear HB; have BK124 := n0_; have BK125 := n1_; have HB := n2_; clear n0_ n1_ n2_; (try clear hb); (try clear hb2); (try clear hk); (try clear hi); have hcz24_0 : w23.cell? ⟨gb124, 0, none⟩ = some (.int .i64 a1_0) := (blk_cell BK124.out 0).trans rfl; have hcz24_1 : w23.cell? ⟨gb124, 1, none⟩ = some (.int .i64 a1_1) := (blk_cell BK124.out 1).trans rfl; have hcz24_2 : w23.cell? ⟨gb124, 2, none⟩ = some (.int .i64 a1_2) := (blk_cell BK124.out 2).trans rfl; have hcz24_3 : w23.cell? ⟨gb124, 3, none⟩ = some (.int .i64 a1_3) := (blk_cell BK124.out 3).trans rfl; have hfz24_0 := blk_frozen BK124.out 0; have hfz24_1 := blk_frozen BK124.out 1; have hfz24_2 := blk_frozen BK124.out 2; have hfz24_3 := blk_frozen BK124.out 3) | ((with_reducible refine gate_callee (f := 93) rfl ?_); refine goesL_ (some 16) rfl rfl Try.func93 (by kernel_rfl) rfl #[.slice A0 l0.length c0, .agg #[.int .i64 a1_0, .int .i64 a1_1, .int .i64 a1_2, .int .i64 a1_3]] rfl (by (try simp only [List.map_toArray, List.map_cons, List.map_nil]); first | done | rfl | (simp only [List.length_drop, List.length_take]; rfl)) ?_; (with_reducible refine (spec_l5Find.calls k _ _ l0 a1_0 a1_1 a1_2 a1_3 t127 _ ?side1 ?side2 A5.out).mono ?_); (case side1 => repeat (first | exact (Kd.C_below HR0.out HB.out) | (with_reducible refine Kd.C_alloc ?_ _) | (with_reducible refine Kd.C_drewN ?_ _) | (with_reducible refine Kd.C_drew ?_))); (case side2 => exact HC0.out); rintro e w25 ⟨rfl, hb⟩; refine ⟨_, rfl, ?_⟩; have n0_ := Aside0.mk (blk_below (g := gb124) (o := .cells #[.int .i64 a1_0, .int .i64 a1_1, .int .i64 a1_2, .int .i64 a1_3] 26 (0, 0)) (by (with_reducible repeat (first | refine blk_drewN ?_ _ | refine blk_drew ?_ | refine blk_alloc ?_ _)); exact BK124.out) hb); have n1_ := Aside0.mk (blk_below (g := gb125) (o := .cells #[.int .i64 0, .int .i64 0, .slice none 0 0] 30 (0, 0)) (by (with_reducible repeat (first | refine blk_drewN ?_ _ | refine blk_drew ?_ | refine blk_alloc ?_ _)); exact BK125.out) hb); have n2_ := Aside0.mk (below_step (by repeat (first | (with_reducible first | exact HB.out | apply below_alloc | apply pw_below_drewN | apply below_drew1 | refine below_set ?_ GE124.out | refine below_set ?_ GE125.out) | exact HB.out)) hb); clear BK124; clear BK125; clear HB; have BK124 := n0_; have BK125 := n1_; have HB := n2_; clear n0_ n1_ n2_; (try clear hb); (try clear hb2); (try clear hk); (try clear hi); have hcz26_0 : w25.cell? ⟨gb125, 0, none⟩ = some (.int .i64 0) := (blk_cell BK125.out 0).trans rfl; have hcz26_1 : w25.cell? ⟨gb125, 1, none⟩ = some (.int .i64 0) := (blk_cell BK125.out 1).trans rfl; have hcz26_2 : w25.cell? ⟨gb125, 2, none⟩ = some (.slice none 0 0) := (blk_cell BK125.out 2).trans rfl; have hfz26_0 := blk_frozen BK125.out 0; have hfz26_1 := blk_frozen BK125.out 1; have hfz26_2 := blk_frozen BK125.out 2))
    refine bodyPost_ret (results_cell_row rfl _ _ gb125 30 #[.int .i64 2, .int .i64 0, .slice none 0 0] (0, 0) _ rfl (by (with_reducible repeat (first | refine blk_drewN ?_ _ | refine blk_drew ?_ | refine blk_alloc ?_ _)); refine blk_put (cs := #[.int .i64 2, .int .i64 0, .slice none 0 0]) ?_ 2 _ rfl; (with_reducible repeat (first | refine blk_drewN ?_ _ | refine blk_drew ?_ | refine blk_alloc ?_ _)); refine blk_put (cs := #[.int .i64 2, .int .i64 0, .slice none 0 0]) ?_ 1 _ rfl; (with_reducible repeat (first | refine blk_drewN ?_ _ | refine blk_drew ?_ | refine blk_alloc ?_ _)); refine blk_put (cs := #[.int .i64 0, .int .i64 0, .slice none 0 0]) ?_ 0 _ rfl; (with_reducible repeat (first | refine blk_drewN ?_ _ | refine blk_drew ?_ | refine blk_alloc ?_ _)); exact BK125.out) Try.underlying30 rfl (by kernel_rfl)) rfl ?_
    exact ⟨_, by first | rfl | (simp [errW_none, errW_some] <;> rfl) | (simp [*, errW_none, errW_some] <;> rfl), by first | exact Kd.R_nil _ _ _ _ _ | exact Kd.N_nil _ _ _ _ _ | exact Kd.V_nil _ _ _ _ _ | exact Kd.Q_nil _ _ _ _ _ | exact Kd.S_nil _ _ _ _ _, by repeat (first | (with_reducible first | exact HB.out | apply below_alloc | apply pw_below_drewN | apply below_drew1 | refine below_set ?_ GE124.out | refine below_set ?_ GE125.out) | exact HB.out)⟩
   ·rw [if_neg c18] at H
    have c18b0 : decide (400 ≤ (l0.length : Int)) = false := decide_eq_false c18
    have c18b1 : decide (400 ≤ l0.length) = false := decide_eq_false (by omega)
    clear c18
    replace H := Option.bind_eq_some_iff.mp H
    obtain ⟨t131, A270, H⟩ := H
    try dsimp only at H
    have A27 := Aside0.mk A270
    clear A270
    obtain ⟨y134, hy134⟩ : ∃ y_ : List (S26), y_ = (([(⟨a1_0, a1_1, a1_2, a1_3⟩ : S26)] : List (S26))) := ⟨_, rfl⟩
    replace H : (if t131.length + y134.length < 4398046511104 then (some (0, (l0.length : Int), (t131 ++ y134))) else (none)) = some (r1, r2, r3) := by first | (rw [hy134]; with_reducible exact H) | (have H2_ := (Option.bind_some _ _).symm.trans H; rw [hy134]; with_reducible exact H2_) | (have H2_ := (Option.bind_some _ _).symm.trans H; with_reducible exact H2_) | with_reducible exact H | (rw [hy134]; exact H) | exact H
    have Ny134 := Aside0.mk hy134
    clear hy134
    by_cases c28 : t131.length + y134.length < 4398046511104
    ·rw [if_pos c28] at H
     have LMc28 := Aside0.mk c28
     clear c28
     obtain ⟨y137, hy137⟩ : ∃ y_ : List (S26), y_ = (t131 ++ y134) := ⟨_, rfl⟩
     replace H : (some (0, (l0.length : Int), y137)) = some (r1, r2, r3) := by first | (rw [hy137]; with_reducible exact H) | (have H2_ := (Option.bind_some _ _).symm.trans H; rw [hy137]; with_reducible exact H2_) | (have H2_ := (Option.bind_some _ _).symm.trans H; with_reducible exact H2_) | with_reducible exact H | (rw [hy137]; exact H) | exact H
     have Ny137 := Aside0.mk hy137
     clear hy137
     simp only [Option.some.injEq, Prod.mk.injEq] at H
     obtain ⟨rfl, rfl, rfl⟩ := H
     go_enter Try.func58, Try.ntmps58
     try go_wp2_with (first | ((with_reducible refine gate_dst (N := 3) rfl ?_); refine box_event ?hg (N := 3) ?hd (cs := #[.int .i64 a1_0, .int .i64 a1_1, .int .i64 a1_2, .int .i64 a1_3]) (t := 26) ?hr ?_; (case hd => rfl); (case hg => rfl); (case hr => first | (go_simp; done) | (go_simp; rfl)); intro gb124 hg w29 hbox hb; have n0_ := Aside0.mk (below_step (by repeat (first | (with_reducible first | exact HB.out | apply below_alloc | apply pw_below_drewN | apply below_drew1) | exact HB.out)) hb); have n1_ := Aside0.mk (hbox); have n2_ := Aside0.mk ((by rw [hg]; exact (below_size (by repeat (first | (with_reducible first | exact HB.out | apply below_alloc | apply pw_below_drewN | apply below_drew1) | exact HB.out))) : w.heap.size ≤ gb124)); have n3_ := Aside0.mk ((by rw [hg]; exact (below_size (by repeat (first | (with_reducible first | exact HB.out | apply below_alloc | apply pw_below_drewN | apply below_drew1) | exact HB.out))) : w.heap.size ≤ gb124)); clear HB; have HB := n0_; have BK124 := n1_; have GW124 := n2_; have GE124 := n3_; clear n0_ n1_ n2_ n3_; clear hb hbox hg) | ((with_reducible refine gate_dst (N := 4) rfl ?_); refine box_event ?hg (N := 4) ?hd (cs := #[.int .i64 0, .int .i64 0, .slice none 0 0]) (t := 30) ?hr ?_; (case hd => rfl); (case hg => rfl); (case hr => first | (go_simp; done) | (go_simp; rfl)); intro gb125 hg w30 hbox hb; have n0_ := Aside0.mk (blk_below (g := gb124) (o := .cells #[.int .i64 a1_0, .int .i64 a1_1, .int .i64 a1_2, .int .i64 a1_3] 26 (0, 0)) (by (with_reducible repeat (first | refine blk_drewN ?_ _ | refine blk_drew ?_ | refine blk_alloc ?_ _)); exact BK124.out) hb); have n1_ := Aside0.mk (below_step (by repeat (first | (with_reducible first | exact HB.out | apply below_alloc | apply pw_below_drewN | apply below_drew1 | refine below_set ?_ GE124.out) | exact HB.out)) hb); have n2_ := Aside0.mk (hbox); have n3_ := Aside0.mk ((by rw [hg]; exact (below_size (by repeat (first | (with_reducible first | exact HB.out | apply below_alloc | apply pw_below_drewN | apply below_drew1 | refine below_set ?_ GE124.out) | exact HB.out))) : w.heap.size ≤ gb125)); have n4_ := Aside0.mk ((by rw [hg]; exact (below_size (by repeat (first | (with_reducible first | exact HB.out | apply below_alloc | apply pw_below_drewN | apply below_drew1 | refine below_set ?_ GE124.out) | exact HB.out))) : w.heap.size ≤ gb125)); have n5_ := Aside0.mk ((by rw [hg]; exact Nat.ne_of_lt (blk_lt (g := gb124) (o := .cells #[.int .i64 a1_0, .int .i64 a1_1, .int .i64 a1_2, .int .i64 a1_3] 26 (0, 0)) (by (with_reducible repeat (first | refine blk_drewN ?_ _ | refine blk_drew ?_ | refine blk_alloc ?_ _)); exact BK124.out)) : gb124 ≠ gb125)); have n6_ := Aside0.mk ((by rw [hg]; exact Nat.ne_of_gt (blk_lt (g := gb124) (o := .cells #[.int .i64 a1_0, .int .i64 a1_1, .int .i64 a1_2, .int .i64 a1_3] 26 (0, 0)) (by (with_reducible repeat (first | refine blk_drewN ?_ _ | refine blk_drew ?_ | refine blk_alloc ?_ _)); exact BK124.out)) : gb125 ≠ gb124)); clear BK124; clear HB; have BK124 := n0_; have HB := n1_; have BK125 := n2_; have GW125 := n3_; have GE125 := n4_; have NB124_125 := n5_; have NB125_124 := n6_; clear n0_ n1_ n2_ n3_ n4_ n5_ n6_; clear hb hbox hg; have hnb31 := NB124_125.out; have hnc31 := NB125_124.out; have hcz32_0 : w30.cell? ⟨gb124, 0, none⟩ = some (.int .i64 a1_0) := (blk_cell BK124.out 0).trans rfl; have hcz32_1 : w30.cell? ⟨gb124, 1, none⟩ = some (.int .i64 a1_1) := (blk_cell BK124.out 1).trans rfl; have hcz32_2 : w30.cell? ⟨gb124, 2, none⟩ = some (.int .i64 a1_2) := (blk_cell BK124.out 2).trans rfl; have hcz32_3 : w30.cell? ⟨gb124, 3, none⟩ = some (.int .i64 a1_3) := (blk_cell BK124.out 3).trans rfl; have hfz32_0 := blk_frozen BK124.out 0; have hfz32_1 := blk_frozen BK124.out 1; have hfz32_2 := blk_frozen BK124.out 2; have hfz32_3 := blk_frozen BK124.out 3) | ((with_reducible refine gate_callee (f := 92) rfl ?_); refine goesL_ (some 9) rfl rfl Try.func92 (by kernel_rfl) rfl #[.slice A0 l0.length c0, .agg #[.int .i64 a1_0, .int .i64 a1_1, .int .i64 a1_2, .int .i64 a1_3]] rfl (by (try simp only [List.map_toArray, List.map_cons, List.map_nil]); first | done | rfl | (simp only [List.length_drop, List.length_take]; rfl)) ?_; (with_reducible refine (spec_l5Term.calls k _ _ l0 a1_0 a1_1 a1_2 a1_3 t126 _ ?side1 ?side2 A3.out).mono ?_); (case side1 => repeat (first | exact (Kd.C_below HR0.out HB.out) | (with_reducible refine Kd.C_alloc ?_ _) | (with_reducible refine Kd.C_drewN ?_ _) | (with_reducible refine Kd.C_drew ?_))); (case side2 => exact HC0.out); rintro e w33 ⟨rfl, hb⟩; refine ⟨_, rfl, ?_⟩; have n0_ := Aside0.mk (blk_below (g := gb124) (o := .cells #[.int .i64 a1_0, .int .i64 a1_1, .int .i64 a1_2, .int .i64 a1_3] 26 (0, 0)) (by (with_reducible repeat (first | refine blk_drewN ?_ _ | refine blk_drew ?_ | refine blk_alloc ?_ _)); exact BK124.out) hb); have n1_ := Aside0.mk (blk_below (g := gb125) (o := .cells #[.int .i64 0, .int .i64 0, .slice none 0 0] 30 (0, 0)) (by (with_reducible repeat (first | refine blk_drewN ?_ _ | refine blk_drew ?_ | refine blk_alloc ?_ _)); exact BK125.out) hb); have n2_ := Aside0.mk (below_step (by repeat (first | (with_reducible first | exact HB.out | apply below_alloc | apply pw_below_drewN | apply below_drew1 | refine below_set ?_ GE124.out | refine below_set ?_ GE125.out) | exact HB.out)) hb); clear BK124; clear BK125; clear HB; have BK124 := n0_; have BK125 := n1_; have HB := n2_; clear n0_ n1_ n2_; (try clear hb); (try clear hb2); (try clear hk); (try clear hi); have hcz34_0 : w33.cell? ⟨gb124, 0, none⟩ = some (.int .i64 a1_0) := (blk_cell BK124.out 0).trans rfl; have hcz34_1 : w33.cell? ⟨gb124, 1, none⟩ = some (.int .i64 a1_1) := (blk_cell BK124.out 1).trans rfl; have hcz34_2 : w33.cell? ⟨gb124, 2, none⟩ = some (.int .i64 a1_2) := (blk_cell BK124.out 2).trans rfl; have hcz34_3 : w33.cell? ⟨gb124, 3, none⟩ = some (.int .i64 a1_3) := (blk_cell BK124.out 3).trans rfl; have hfz34_0 := blk_frozen BK124.out 0; have hfz34_1 := blk_frozen BK124.out 1; have hfz34_2 := blk_frozen BK124.out 2; have hfz34_3 := blk_frozen BK124.out 3) | ((with_reducible refine gate_callee (f := 93) rfl ?_); refine goesL_ (some 16) rfl rfl Try.func93 (by kernel_rfl) rfl #[.slice A0 l0.length c0, .agg #[.int .i64 a1_0, .int .i64 a1_1, .int .i64 a1_2, .int .i64 a1_3]] rfl (by (try simp only [List.map_toArray, List.map_cons, List.map_nil]); first | done | rfl | (simp only [List.length_drop, List.length_take]; rfl)) ?_; (with_reducible refine (spec_l5Find.calls k _ _ l0 a1_0 a1_1 a1_2 a1_3 t127 _ ?side1 ?side2 A5.out).mono ?_); (case side1 => repeat (first | exact (Kd.C_below HR0.out HB.out) | (with_reducible refine Kd.C_alloc ?_ _) | (with_reducible refine Kd.C_drewN ?_ _) | (with_reducible refine Kd.C_drew ?_))); (case side2 => exact HC0.out); rintro e w35 ⟨rfl, hb⟩; refine ⟨_, rfl, ?_⟩; have n0_ := Aside0.mk (blk_below (g := gb124) (o := .cells #[.int .i64 a1_0, .int .i64 a1_1, .int .i64 a1_2, .int .i64 a1_3] 26 (0, 0)) (by (with_reducible repeat (first | refine blk_drewN ?_ _ | refine blk_drew ?_ | refine blk_alloc ?_ _)); exact BK124.out) hb); have n1_ := Aside0.mk (blk_below (g := gb125) (o := .cells #[.int .i64 0, .int .i64 0, .slice none 0 0] 30 (0, 0)) (by (with_reducible repeat (first | refine blk_drewN ?_ _ | refine blk_drew ?_ | refine blk_alloc ?_ _)); exact BK125.out) hb); have n2_ := Aside0.mk (below_step (by repeat (first | (with_reducible first | exact HB.out | apply below_alloc | apply pw_below_drewN | apply below_drew1 | refine below_set ?_ GE124.out | refine below_set ?_ GE125.out) | exact HB.out)) hb); clear BK124; clear BK125; clear HB; have BK124 := n0_; have BK125 := n1_; have HB := n2_; clear n0_ n1_ n2_; (try clear hb); (try clear hb2); (try clear hk); (try clear hi)))
     have n0_ := Aside0.mk (blk_drew BK124.out)
     have n1_ := Aside0.mk (blk_drew BK125.out)
     have n2_ := Aside0.mk (below_drew1 HB.out)
     clear BK124
     clear BK125
     clear HB
     have BK124 := n0_
     have BK125 := n1_
     have HB := n2_
     clear n0_ n1_ n2_
     refine start_ (n := 9) (S := fun w' => w'.cell? ⟨gb124, 0, none⟩ = some (.int .i64 a1_0) ∧ w'.cell? ⟨gb124, 1, none⟩ = some (.int .i64 a1_1) ∧ w'.cell? ⟨gb124, 2, none⟩ = some (.int .i64 a1_2) ∧ w'.cell? ⟨gb124, 3, none⟩ = some (.int .i64 a1_3)) (ds := []) #[false, false, false, false, false, false, false, false, false] (by kernel_rfl) rfl rfl ⟨(blk_cell BK124.out 0).trans rfl, (blk_cell BK124.out 1).trans rfl, (blk_cell BK124.out 2).trans rfl, (blk_cell BK124.out 3).trans rfl⟩ (fun hHeld => ?_); refine with_tabW spec_l5Put.tab9 spec_l5Put.bits9 (fun HT_ HW_ => ?_)
     generalize w35.drew = w36 at BK124 BK125 HB hHeld ⊢
     refine pure_ (i := 0) (N := some 27) (v := ?_) (a' := ?_) #[true, false, false, false, false, false, false, false, false] rfl rfl (any_of HT_.out (by kernel_rfl)) (fun _ _ _ h => h) (Or.inl ⟨by rfl, ?_⟩) ?_ ?_
     rotate_left
     ·intro w'
      go_simp
      with_reducible rfl
     rotate_left
     ·simp only [Act.put, lA_, lZ_, lS_, i64_w, i32_w]
      rfl
     refine pure_ (i := 1) (N := some 28) (v := ?_) (a' := ?_) #[true, true, false, false, false, false, false, false, false] rfl rfl (any_of HT_.out (by kernel_rfl)) (fun _ _ _ h => h) (Or.inl ⟨by rfl, ?_⟩) ?_ ?_
     rotate_left
     ·intro w'
      go_simp
      with_reducible rfl
     rotate_left
     ·simp only [Act.put, lA_, lZ_, lS_, i64_w, i32_w]
      rfl
     refine pure_ (i := 2) (N := some 29) (v := ?_) (a' := ?_) #[true, true, true, false, false, false, false, false, false] rfl rfl (any_of HT_.out (by kernel_rfl)) (fun _ _ _ h => h) (Or.inl ⟨by rfl, ?_⟩) ?_ ?_
     rotate_left
     ·intro w'
      go_simp
      with_reducible rfl
     rotate_left
     ·simp only [Act.put, lA_, lZ_, lS_, i64_w, i32_w]
      rfl
     refine take_ (i := 4) (N := some 31) (v := ?_) (a' := ?_) #[true, true, true, false, true, false, false, false, false] rfl rfl (take_ofW HT_.out HW_.out (by kernel_rfl)) (fun _ _ _ h => h) (Or.inl ⟨by rfl, ?_⟩) hHeld ?_ ?_
     rotate_left
     ·rintro w' ⟨s0, s1, s2, s3⟩
      go_simp
      with_reducible rfl
     rotate_left
     ·simp only [Act.put, lA_, lZ_, lS_, i64_w, i32_w]
      rfl
     refine join_ (σ := Value × Value) 3 #[true, true, true, true, true, true, false, false, false] (fun s_ => [(30, s_.1), (32, s_.2)]) (fun s_ w' => (w'.cell? ⟨gb124, 0, none⟩ = some (.int .i64 a1_0) ∧ w'.cell? ⟨gb124, 1, none⟩ = some (.int .i64 a1_1) ∧ w'.cell? ⟨gb124, 2, none⟩ = some (.int .i64 a1_2) ∧ w'.cell? ⟨gb124, 3, none⟩ = some (.int .i64 a1_3)) ∧ (Kd.R k26 26 w' w.heap.size (fun k_ => some k_ ≠ (s_.2 : Value).ownBlock ∧ k_ ≠ gb124) s_.1 t131) ∧ (Kd.R k26 26 w' w.heap.size (fun k_ => some k_ ≠ (s_.1 : Value).ownBlock ∧ k_ ≠ gb124) s_.2 y134) ∧ (w'.heap[gb124]? = some (.cells #[.int .i64 a1_0, .int .i64 a1_1, .int .i64 a1_2, .int .i64 a1_3] 26 (0, 0))) ∧ (w'.heap[gb125]? = some (.cells #[.int .i64 0, .int .i64 0, .slice none 0 0] 30 (0, 0))) ∧ (Below w.heap.size w w')) ?_ ?_
     rotate_left
     ·intro hCont
      refine two_ (i := 3) (j := 5) (Ni := some 30) (Nj := some 32) #[true, true, true, true, true, false, false, false, false] #[true, true, true, false, true, true, false, false, false] rfl rfl rfl rfl (two_of HT_.out (by kernel_rfl)) (by decide) (by decide) (fun K hK => ?_) (fun K hK => ?_)
      ·skip
       refine goes_ Try.func67 (by kernel_rfl) rfl #[.slice A0 l0.length c0] (by rfl) rfl rfl (by (try simp only [List.map_toArray, List.map_cons, List.map_nil]); first | done | rfl | (simp only [List.length_drop, List.length_take]; rfl)) ?_
       with_reducible refine (spec_l5Copy.calls _ _ l0 t131 _ ?side1 ?side2 A27.out).mono ?_
       (case side1 => repeat (first | exact (Kd.C_below HR0.out HB.out) | (with_reducible refine Kd.C_alloc ?_ _) | (with_reducible refine Kd.C_drewN ?_ _) | (with_reducible refine Kd.C_drew ?_)))
       (case side2 => exact HC0.out)
       rintro e w37 ⟨v132, rfl, ho0, hb⟩
       refine ⟨_, rfl, ?_⟩
       have n0_ := Aside0.mk (Kd.R_lower (Kd.R_newB ho0 (g := gb124) (o := .cells #[.int .i64 a1_0, .int .i64 a1_1, .int .i64 a1_2, .int .i64 a1_3] 26 (0, 0)) (by (with_reducible repeat (first | refine blk_drewN ?_ _ | refine blk_drew ?_ | refine blk_alloc ?_ _)); exact BK124.out)) (below_size (by repeat (first | (with_reducible first | exact HB.out | apply below_alloc | apply pw_below_drewN | apply below_drew1 | refine below_set ?_ GE124.out | refine below_set ?_ GE125.out) | exact HB.out))))
       have n1_ := Aside0.mk (blk_below (g := gb124) (o := .cells #[.int .i64 a1_0, .int .i64 a1_1, .int .i64 a1_2, .int .i64 a1_3] 26 (0, 0)) (by (with_reducible repeat (first | refine blk_drewN ?_ _ | refine blk_drew ?_ | refine blk_alloc ?_ _)); exact BK124.out) hb)
       have n2_ := Aside0.mk (blk_below (g := gb125) (o := .cells #[.int .i64 0, .int .i64 0, .slice none 0 0] 30 (0, 0)) (by (with_reducible repeat (first | refine blk_drewN ?_ _ | refine blk_drew ?_ | refine blk_alloc ?_ _)); exact BK125.out) hb)
       have n3_ := Aside0.mk (below_step (by repeat (first | (with_reducible first | exact HB.out | apply below_alloc | apply pw_below_drewN | apply below_drew1 | refine below_set ?_ GE124.out | refine below_set ?_ GE125.out) | exact HB.out)) hb)
       clear BK124
       clear BK125
       clear HB
       have HO133 := n0_
       have BK124 := n1_
       have BK125 := n2_
       have HB := n3_
       clear n0_ n1_ n2_ n3_
       (try clear hb)
       (try clear hb2)
       (try clear hk)
       (try clear hi)
       (try clear ho0)
       refine hK.out _ _ ⟨(blk_cell BK124.out 0).trans rfl, (blk_cell BK124.out 1).trans rfl, (blk_cell BK124.out 2).trans rfl, (blk_cell BK124.out 3).trans rfl⟩ (fun hHeld => ?_)
       clear hK K
       refine norm_ (a' := ?_) ?_ ?_
       rotate_left
       ·show Act.put _ (some 30) _ = _
        simp only [Act.put, lA_, lZ_, lS_, i64_w, i32_w]
        rfl
       refine one_ (i := 5) (N := some 32) #[true, true, true, true, true, true, false, false, false] rfl rfl (one_of HT_.out (by kernel_rfl)) (by decide) (fun K hK => ?_)
       refine Kd.R_lit_step k26 _ 26 ?hg (N := 32) ?hd (xs := ([(⟨a1_0, a1_1, a1_2, a1_3⟩ : S26)] : List (S26))) (inner := [.int .i64 a1_0, .int .i64 a1_1, .int .i64 a1_2, .int .i64 a1_3]) (ok := fun _ => True) (okp := fun _ => True) ?hr ?hp (fun _ hk => hk) trivial (Below.refl _ _) (Nat.le_refl _) (by simp) ?_; (case hd => rfl); (case hg => rfl); (case hr => first | (go_simp; done) | (go_simp; rfl)); (case hp => exact (Reps.c4 (show Kd.M k26 _ _ _ (⟨a1_0, a1_1, a1_2, a1_3⟩ : S26) [.int .i64 a1_0, .int .i64 a1_1, .int .i64 a1_2, .int .i64 a1_3] from (k26_mkM _ _ _ (⟨a1_0, a1_1, a1_2, a1_3⟩ : S26) )) (Reps.none _ _)))
       intro v135 w38 ho39 hb hg_ hnew_
       clear hg_ hnew_
       (first | rw [← Ny134.out] at ho39 | (simp only [Int.reduceToNat] at ho39; rw [← Ny134.out] at ho39))
       have n0_ := Aside0.mk (Kd.R_elder' (by (with_reducible repeat (first | apply Kd.R_alloc | apply Kd.R_drewN | apply Kd.R_drew)); exact HO133.out) (Kd.R_base ho39) hb)
       have n1_ := Aside0.mk (Kd.R_lower (Kd.R_newB (Kd.R_new' ho39 (Kd.R_lt (by (with_reducible repeat (first | apply Kd.R_alloc | apply Kd.R_drewN | apply Kd.R_drew)); exact HO133.out))) (g := gb124) (o := .cells #[.int .i64 a1_0, .int .i64 a1_1, .int .i64 a1_2, .int .i64 a1_3] 26 (0, 0)) (by (with_reducible repeat (first | refine blk_drewN ?_ _ | refine blk_drew ?_ | refine blk_alloc ?_ _)); exact BK124.out)) (below_size (by repeat (first | (with_reducible first | exact HB.out | apply below_alloc | apply pw_below_drewN | apply below_drew1 | refine below_set ?_ GE124.out | refine below_set ?_ GE125.out) | exact HB.out))))
       have n2_ := Aside0.mk (blk_below (g := gb124) (o := .cells #[.int .i64 a1_0, .int .i64 a1_1, .int .i64 a1_2, .int .i64 a1_3] 26 (0, 0)) (by (with_reducible repeat (first | refine blk_drewN ?_ _ | refine blk_drew ?_ | refine blk_alloc ?_ _)); exact BK124.out) hb)
       have n3_ := Aside0.mk (blk_below (g := gb125) (o := .cells #[.int .i64 0, .int .i64 0, .slice none 0 0] 30 (0, 0)) (by (with_reducible repeat (first | refine blk_drewN ?_ _ | refine blk_drew ?_ | refine blk_alloc ?_ _)); exact BK125.out) hb)
       have n4_ := Aside0.mk (below_step (by repeat (first | (with_reducible first | exact HB.out | apply below_alloc | apply pw_below_drewN | apply below_drew1 | refine below_set ?_ GE124.out | refine below_set ?_ GE125.out) | exact HB.out)) hb)
       clear HO133
       clear BK124
       clear BK125
       clear HB
       have HO133 := n0_
       have HO136 := n1_
       have BK124 := n2_
       have BK125 := n3_
       have HB := n4_
       clear n0_ n1_ n2_ n3_ n4_
       clear hb ho39
       refine hK.out _ _ ⟨(blk_cell BK124.out 0).trans rfl, (blk_cell BK124.out 1).trans rfl, (blk_cell BK124.out 2).trans rfl, (blk_cell BK124.out 3).trans rfl⟩ (fun hHeld => ?_)
       clear hK K
       refine norm_ (a' := ?_) ?_ ?_
       rotate_left
       ·show Act.put _ (some 32) _ = _
        simp only [Act.put, lA_, lZ_, lS_, i64_w, i32_w]
        rfl
       exact norm_ (by simp only [putAll, Act.put, lA_, lZ_, lS_]) (hCont (v132, v135) _ ⟨hHeld, (by (with_reducible repeat (first | apply Kd.R_alloc | apply Kd.R_drewN | apply Kd.R_drew)); exact Kd.R_mono HO133.out (fun _ hk => ⟨hk.2, hk.1.2⟩)), (by (with_reducible repeat (first | apply Kd.R_alloc | apply Kd.R_drewN | apply Kd.R_drew)); exact Kd.R_mono HO136.out (fun _ hk => ⟨hk.1.2, hk.2⟩)), (by (with_reducible repeat (first | refine blk_drewN ?_ _ | refine blk_drew ?_ | refine blk_alloc ?_ _)); exact BK124.out), (by (with_reducible repeat (first | refine blk_drewN ?_ _ | refine blk_drew ?_ | refine blk_alloc ?_ _)); exact BK125.out), (by repeat (first | (with_reducible first | exact HB.out | apply below_alloc | apply pw_below_drewN | apply below_drew1 | refine below_set ?_ GE124.out | refine below_set ?_ GE125.out) | exact HB.out))⟩)
      ·skip
       refine Kd.R_lit_step k26 _ 26 ?hg (N := 32) ?hd (xs := ([(⟨a1_0, a1_1, a1_2, a1_3⟩ : S26)] : List (S26))) (inner := [.int .i64 a1_0, .int .i64 a1_1, .int .i64 a1_2, .int .i64 a1_3]) (ok := fun _ => True) (okp := fun _ => True) ?hr ?hp (fun _ hk => hk) trivial (Below.refl _ _) (Nat.le_refl _) (by simp) ?_; (case hd => rfl); (case hg => rfl); (case hr => first | (go_simp; done) | (go_simp; rfl)); (case hp => exact (Reps.c4 (show Kd.M k26 _ _ _ (⟨a1_0, a1_1, a1_2, a1_3⟩ : S26) [.int .i64 a1_0, .int .i64 a1_1, .int .i64 a1_2, .int .i64 a1_3] from (k26_mkM _ _ _ (⟨a1_0, a1_1, a1_2, a1_3⟩ : S26) )) (Reps.none _ _)))
       intro v135 w37 ho38 hb hg_ hnew_
       clear hg_ hnew_
       (first | rw [← Ny134.out] at ho38 | (simp only [Int.reduceToNat] at ho38; rw [← Ny134.out] at ho38))
       have n0_ := Aside0.mk (Kd.R_lower (Kd.R_newB ho38 (g := gb124) (o := .cells #[.int .i64 a1_0, .int .i64 a1_1, .int .i64 a1_2, .int .i64 a1_3] 26 (0, 0)) (by (with_reducible repeat (first | refine blk_drewN ?_ _ | refine blk_drew ?_ | refine blk_alloc ?_ _)); exact BK124.out)) (below_size (by repeat (first | (with_reducible first | exact HB.out | apply below_alloc | apply pw_below_drewN | apply below_drew1 | refine below_set ?_ GE124.out | refine below_set ?_ GE125.out) | exact HB.out))))
       have n1_ := Aside0.mk (blk_below (g := gb124) (o := .cells #[.int .i64 a1_0, .int .i64 a1_1, .int .i64 a1_2, .int .i64 a1_3] 26 (0, 0)) (by (with_reducible repeat (first | refine blk_drewN ?_ _ | refine blk_drew ?_ | refine blk_alloc ?_ _)); exact BK124.out) hb)
       have n2_ := Aside0.mk (blk_below (g := gb125) (o := .cells #[.int .i64 0, .int .i64 0, .slice none 0 0] 30 (0, 0)) (by (with_reducible repeat (first | refine blk_drewN ?_ _ | refine blk_drew ?_ | refine blk_alloc ?_ _)); exact BK125.out) hb)
       have n3_ := Aside0.mk (below_step (by repeat (first | (with_reducible first | exact HB.out | apply below_alloc | apply pw_below_drewN | apply below_drew1 | refine below_set ?_ GE124.out | refine below_set ?_ GE125.out) | exact HB.out)) hb)
       clear BK124
       clear BK125
       clear HB
       have HO136 := n0_
       have BK124 := n1_
       have BK125 := n2_
       have HB := n3_
       clear n0_ n1_ n2_ n3_
       clear hb ho38
       refine hK.out _ _ ⟨(blk_cell BK124.out 0).trans rfl, (blk_cell BK124.out 1).trans rfl, (blk_cell BK124.out 2).trans rfl, (blk_cell BK124.out 3).trans rfl⟩ (fun hHeld => ?_)
       clear hK K
       refine norm_ (a' := ?_) ?_ ?_
       rotate_left
       ·show Act.put _ (some 32) _ = _
        simp only [Act.put, lA_, lZ_, lS_, i64_w, i32_w]
        rfl
       refine one_ (i := 3) (N := some 30) #[true, true, true, true, true, true, false, false, false] rfl rfl (one_of HT_.out (by kernel_rfl)) (by decide) (fun K hK => ?_)
       refine goes_ Try.func67 (by kernel_rfl) rfl #[.slice A0 l0.length c0] (by rfl) rfl rfl (by (try simp only [List.map_toArray, List.map_cons, List.map_nil]); first | done | rfl | (simp only [List.length_drop, List.length_take]; rfl)) ?_
       with_reducible refine (spec_l5Copy.calls _ _ l0 t131 _ ?side1 ?side2 A27.out).mono ?_
       (case side1 => repeat (first | exact (Kd.C_below HR0.out HB.out) | (with_reducible refine Kd.C_alloc ?_ _) | (with_reducible refine Kd.C_drewN ?_ _) | (with_reducible refine Kd.C_drew ?_)))
       (case side2 => exact HC0.out)
       rintro e w39 ⟨v132, rfl, ho0, hb⟩
       refine ⟨_, rfl, ?_⟩
       have n0_ := Aside0.mk (Kd.R_elder' (by (with_reducible repeat (first | apply Kd.R_alloc | apply Kd.R_drewN | apply Kd.R_drew)); exact HO136.out) (Kd.R_base ho0) hb)
       have n1_ := Aside0.mk (Kd.R_lower (Kd.R_newB (Kd.R_new' ho0 (Kd.R_lt (by (with_reducible repeat (first | apply Kd.R_alloc | apply Kd.R_drewN | apply Kd.R_drew)); exact HO136.out))) (g := gb124) (o := .cells #[.int .i64 a1_0, .int .i64 a1_1, .int .i64 a1_2, .int .i64 a1_3] 26 (0, 0)) (by (with_reducible repeat (first | refine blk_drewN ?_ _ | refine blk_drew ?_ | refine blk_alloc ?_ _)); exact BK124.out)) (below_size (by repeat (first | (with_reducible first | exact HB.out | apply below_alloc | apply pw_below_drewN | apply below_drew1 | refine below_set ?_ GE124.out | refine below_set ?_ GE125.out) | exact HB.out))))
       have n2_ := Aside0.mk (blk_below (g := gb124) (o := .cells #[.int .i64 a1_0, .int .i64 a1_1, .int .i64 a1_2, .int .i64 a1_3] 26 (0, 0)) (by (with_reducible repeat (first | refine blk_drewN ?_ _ | refine blk_drew ?_ | refine blk_alloc ?_ _)); exact BK124.out) hb)
       have n3_ := Aside0.mk (blk_below (g := gb125) (o := .cells #[.int .i64 0, .int .i64 0, .slice none 0 0] 30 (0, 0)) (by (with_reducible repeat (first | refine blk_drewN ?_ _ | refine blk_drew ?_ | refine blk_alloc ?_ _)); exact BK125.out) hb)
       have n4_ := Aside0.mk (below_step (by repeat (first | (with_reducible first | exact HB.out | apply below_alloc | apply pw_below_drewN | apply below_drew1 | refine below_set ?_ GE124.out | refine below_set ?_ GE125.out) | exact HB.out)) hb)
       clear HO136
       clear BK124
       clear BK125
       clear HB
       have HO136 := n0_
       have HO133 := n1_
       have BK124 := n2_
       have BK125 := n3_
       have HB := n4_
       clear n0_ n1_ n2_ n3_ n4_
       (try clear hb)
       (try clear hb2)
       (try clear hk)
       (try clear hi)
       (try clear ho0)
       refine hK.out _ _ ⟨(blk_cell BK124.out 0).trans rfl, (blk_cell BK124.out 1).trans rfl, (blk_cell BK124.out 2).trans rfl, (blk_cell BK124.out 3).trans rfl⟩ (fun hHeld => ?_)
       clear hK K
       refine norm_ (a' := ?_) ?_ ?_
       rotate_left
       ·show Act.put _ (some 30) _ = _
        simp only [Act.put, lA_, lZ_, lS_, i64_w, i32_w]
        rfl
       exact norm_ (by simp only [putAll, Act.put, lA_, lZ_, lS_]) (hCont (v132, v135) _ ⟨hHeld, (by (with_reducible repeat (first | apply Kd.R_alloc | apply Kd.R_drewN | apply Kd.R_drew)); exact Kd.R_mono HO133.out (fun _ hk => ⟨hk.1.2, hk.2⟩)), (by (with_reducible repeat (first | apply Kd.R_alloc | apply Kd.R_drewN | apply Kd.R_drew)); exact Kd.R_mono HO136.out (fun _ hk => ⟨hk.2, hk.1.2⟩)), (by (with_reducible repeat (first | refine blk_drewN ?_ _ | refine blk_drew ?_ | refine blk_alloc ?_ _)); exact BK124.out), (by (with_reducible repeat (first | refine blk_drewN ?_ _ | refine blk_drew ?_ | refine blk_alloc ?_ _)); exact BK125.out), (by repeat (first | (with_reducible first | exact HB.out | apply below_alloc | apply pw_below_drewN | apply below_drew1 | refine below_set ?_ GE124.out | refine below_set ?_ GE125.out) | exact HB.out))⟩)
     rintro ⟨v132, v135⟩ w40 ⟨hS_, h0_, h1_, h2_, h3_, h4_⟩
     have n0_ : Aside0 (Kd.R k26 26 w40 w.heap.size (fun k_ => some k_ ≠ (v135 : Value).ownBlock ∧ k_ ≠ gb124) v132 t131) := ⟨h0_⟩
     have n1_ : Aside0 (Kd.R k26 26 w40 w.heap.size (fun k_ => some k_ ≠ (v132 : Value).ownBlock ∧ k_ ≠ gb124) v135 y134) := ⟨h1_⟩
     have n2_ : Aside0 (w40.heap[gb124]? = some (.cells #[.int .i64 a1_0, .int .i64 a1_1, .int .i64 a1_2, .int .i64 a1_3] 26 (0, 0))) := ⟨h2_⟩
     have n3_ : Aside0 (w40.heap[gb125]? = some (.cells #[.int .i64 0, .int .i64 0, .slice none 0 0] 30 (0, 0))) := ⟨h3_⟩
     have n4_ : Aside0 (Below w.heap.size w w40) := ⟨h4_⟩
     clear BK124
     clear BK125
     clear HB
     clear h0_ h1_ h2_ h3_ h4_
     have HO133 := n0_
     have HO136 := n1_
     have BK124 := n2_
     have BK125 := n3_
     have HB := n4_
     clear n0_ n1_ n2_ n3_ n4_
     have hHeld : w40.cell? ⟨gb124, 0, none⟩ = some (.int .i64 a1_0) ∧ w40.cell? ⟨gb124, 1, none⟩ = some (.int .i64 a1_1) ∧ w40.cell? ⟨gb124, 2, none⟩ = some (.int .i64 a1_2) ∧ w40.cell? ⟨gb124, 3, none⟩ = some (.int .i64 a1_3) := hS_
     obtain ⟨Ao42, co42, eo42⟩ := Kd.R_slice HO136.out
     (first | subst eo42 | (injection eo42 with f1_ f2_ f3_; have f4_ := f1_.symm; have f5_ := f3_.symm; clear f1_ f2_ f3_; subst f4_; subst f5_))
     refine norm_ (a' := ?_) ?_ ?_
     rotate_left
     ·simp only [putAll, Act.put, lA_, lZ_, lS_]
      rfl
     refine one_ (i := 6) (N := some 33) #[true, true, true, true, true, true, true, false, false] rfl rfl (one_of HT_.out (by kernel_rfl)) (by decide) (fun K hK => ?_)
     refine Kd.R_append_rows_step k26 (w0 := w) w.heap.size (by rfl) (.tmp 30) (.tmp 32) 24 26 (.agg #[(.int .i64 0), (.int .i64 0), (.int .i64 0), (.int .i64 0)]) 32 rfl Try.underlying24 info26 rfl (by decide) (by omega) v132 t131 y134 _ _ _ (fun k_ => some k_ ≠ (.slice Ao42 y134.length co42 : Value).ownBlock ∧ k_ ≠ gb124) (fun _ => False) rfl rfl ?aO ?aR (fun _ _ h => h) (fun _ h => h.elim) ?aF ?aB ?aS ?aL ?_
     (case aR => repeat (first | exact (Kd.R_reads' HO136.out).2.2 | (with_reducible refine Kd.C_alloc ?_ _) | (with_reducible refine Kd.C_drewN ?_ _) | (with_reducible refine Kd.C_drew ?_)))
     (case aB => exact (by repeat (first | (with_reducible first | exact HB.out | apply below_alloc | apply pw_below_drewN | apply below_drew1 | refine below_set ?_ GE124.out | refine below_set ?_ GE125.out) | exact HB.out)))
     (case aF => exact (fun k_ hk => ⟨Kd.fresh' (Kd.R_lt (by (with_reducible repeat (first | apply Kd.R_alloc | apply Kd.R_drewN | apply Kd.R_drew)); exact HO136.out)) k_ hk, Kd.freshB (g := gb124) (o := .cells #[.int .i64 a1_0, .int .i64 a1_1, .int .i64 a1_2, .int .i64 a1_3] 26 (0, 0)) (by (with_reducible repeat (first | refine blk_drewN ?_ _ | refine blk_drew ?_ | refine blk_alloc ?_ _)); exact BK124.out) k_ hk⟩))
     (case aO => exact (by (with_reducible repeat (first | apply Kd.R_alloc | apply Kd.R_drewN | apply Kd.R_drew)); exact HO133.out))
     (case aS => exact (below_size (by repeat (first | (with_reducible first | exact HB.out | apply below_alloc | apply pw_below_drewN | apply below_drew1 | refine below_set ?_ GE124.out | refine below_set ?_ GE125.out) | exact HB.out))))
     (case aL => have := LMc28.out; omega)
     intro v138 w41 ho hb hg hat
     rw [← Ny137.out] at ho
     have n0_ := Aside0.mk (blk_grown (g := gb124) (o := .cells #[.int .i64 a1_0, .int .i64 a1_1, .int .i64 a1_2, .int .i64 a1_3] 26 (0, 0)) (by (with_reducible repeat (first | refine blk_drewN ?_ _ | refine blk_drew ?_ | refine blk_alloc ?_ _)); exact BK124.out) hg (Kd.R_away HO133.out (fun _ hk => hk.2)))
     have n1_ := Aside0.mk (blk_grown (g := gb125) (o := .cells #[.int .i64 0, .int .i64 0, .slice none 0 0] 30 (0, 0)) (by (with_reducible repeat (first | refine blk_drewN ?_ _ | refine blk_drew ?_ | refine blk_alloc ?_ _)); exact BK125.out) hg (Kd.R_ne HO133.out BK125.out (by decide)))
     have n2_ := Aside0.mk (Kd.R_after (ok := (fun k_ => k_ ≠ gb124)) (by (with_reducible repeat (first | apply Kd.R_alloc | apply Kd.R_drewN | apply Kd.R_drew)); exact Kd.R_mono HO136.out (fun _ hk => ⟨hk.2, hk.1⟩)) hg hat)
     have n3_ := Aside0.mk (hb)
     have n4_ := Aside0.mk (ho)
     clear BK124
     clear BK125
     clear HO136
     clear HB
     clear HO133
     have BK124 := n0_
     have BK125 := n1_
     have HO136 := n2_
     have HB := n3_
     have HO139 := n4_
     clear n0_ n1_ n2_ n3_ n4_
     clear ho hb hg hat
     obtain ⟨Ao43, co43, eo43⟩ := Kd.R_slice HO139.out
     (first | subst eo43 | (injection eo43 with f1_ f2_ f3_; have f4_ := f1_.symm; have f5_ := f3_.symm; clear f1_ f2_ f3_; subst f4_; subst f5_))
     refine hK.out _ _ ⟨(blk_cell BK124.out 0).trans rfl, (blk_cell BK124.out 1).trans rfl, (blk_cell BK124.out 2).trans rfl, (blk_cell BK124.out 3).trans rfl⟩ (fun hHeld => ?_)
     clear hK K
     refine norm_ (a' := ?_) ?_ ?_
     rotate_left
     ·show Act.put _ (some 33) _ = _
      simp only [Act.put, lA_, lZ_, lS_, i64_w, i32_w]
      rfl
     refine pure_ (i := 7) (N := some 34) (v := ?_) (a' := ?_) #[true, true, true, true, true, true, true, true, false] rfl rfl (any_of HT_.out (by kernel_rfl)) (fun _ _ _ h => h) (Or.inl ⟨by rfl, ?_⟩) ?_ ?_
     rotate_left
     ·intro w'
      go_simp
      with_reducible rfl
     rotate_left
     ·simp only [Act.put, lA_, lZ_, lS_, i64_w, i32_w]
      rfl
     refine one_ (i := 8) (N := none) #[true, true, true, true, true, true, true, true, true] rfl rfl (one_of HT_.out (by kernel_rfl)) (by decide) (fun K hK => ?_)
     have hs44 : w41.cell? ⟨gb125, 0, none⟩ = some (.int .i64 0) := (blk_cell BK125.out 0).trans rfl
     have hfs44 := blk_frozen BK125.out 0
     have hns44_0 := NB124_125.out
     have hms44_0 := NB125_124.out
     have hs45 : w41.cell? ⟨gb125, 1, none⟩ = some (.int .i64 0) := (blk_cell BK125.out 1).trans rfl
     have hfs45 := blk_frozen BK125.out 1
     have hns45_0 := NB124_125.out
     have hms45_0 := NB125_124.out
     have hs46 : w41.cell? ⟨gb125, 2, none⟩ = some (.slice none 0 0) := (blk_cell BK125.out 2).trans rfl
     have hfs46 := blk_frozen BK125.out 2
     have hns46_0 := NB124_125.out
     have hms46_0 := NB125_124.out
     refine skip_ (w1 := ?_) (by rfl) rfl ?_ ?_
     rotate_left
     ·go_simp
      rfl
     refine hK.out _ _ ⟨((cell_far (p := ⟨gb125, _, none⟩) NB124_125.out _).trans (((cell_far (p := ⟨gb125, _, none⟩) NB124_125.out _).trans (((cell_far (p := ⟨gb125, _, none⟩) NB124_125.out _).trans (hHeld.1)))))), ((cell_far (p := ⟨gb125, _, none⟩) NB124_125.out _).trans (((cell_far (p := ⟨gb125, _, none⟩) NB124_125.out _).trans (((cell_far (p := ⟨gb125, _, none⟩) NB124_125.out _).trans (hHeld.2.1)))))), ((cell_far (p := ⟨gb125, _, none⟩) NB124_125.out _).trans (((cell_far (p := ⟨gb125, _, none⟩) NB124_125.out _).trans (((cell_far (p := ⟨gb125, _, none⟩) NB124_125.out _).trans (hHeld.2.2.1)))))), ((cell_far (p := ⟨gb125, _, none⟩) NB124_125.out _).trans (((cell_far (p := ⟨gb125, _, none⟩) NB124_125.out _).trans (((cell_far (p := ⟨gb125, _, none⟩) NB124_125.out _).trans (hHeld.2.2.2))))))⟩ (fun hHeld => ?_)
     clear hK K
     refine done_ (done_of HT_.out (by kernel_rfl)) ?_
     try go_wp2
     refine bodyPost_ret (results_cell_row rfl _ _ gb125 30 #[.int .i64 0, .int .i64 (l0.length : Int), .slice Ao43 y137.length co43] (0, 0) _ rfl (by (with_reducible repeat (first | refine blk_drewN ?_ _ | refine blk_drew ?_ | refine blk_alloc ?_ _)); refine blk_put (cs := #[.int .i64 0, .int .i64 (l0.length : Int), .slice none 0 0]) ?_ 2 _ rfl; (with_reducible repeat (first | refine blk_drewN ?_ _ | refine blk_drew ?_ | refine blk_alloc ?_ _)); refine blk_put (cs := #[.int .i64 0, .int .i64 0, .slice none 0 0]) ?_ 1 _ rfl; (with_reducible repeat (first | refine blk_drewN ?_ _ | refine blk_drew ?_ | refine blk_alloc ?_ _)); refine blk_put (cs := #[.int .i64 0, .int .i64 0, .slice none 0 0]) ?_ 0 _ rfl; (with_reducible repeat (first | refine blk_drewN ?_ _ | refine blk_drew ?_ | refine blk_alloc ?_ _)); exact BK125.out) Try.underlying30 rfl (by kernel_rfl)) rfl ?_
     exact ⟨_, by first | rfl | (simp [errW_none, errW_some] <;> rfl) | (simp [*, errW_none, errW_some] <;> rfl), by (with_reducible repeat (first | apply Kd.R_alloc | apply Kd.R_drewN | apply Kd.R_drew)); exact Kd.R_mono (Kd.R_far (p := ⟨gb125, 2, none⟩) (Kd.R_far (p := ⟨gb125, 1, none⟩) (Kd.R_far (p := ⟨gb125, 0, none⟩) (Kd.R_types HO139.out BK125.out (by decide)) (fun _ hk => hk.2) (.int .i64 0)) (fun _ hk => hk.2) (.int .i64 (l0.length : Int))) (fun _ hk => hk.2) (.slice Ao43 y137.length co43)) (fun _ hk => trivial), by repeat (first | (with_reducible first | exact HB.out | apply below_alloc | apply pw_below_drewN | apply below_drew1 | refine below_set ?_ GE124.out | refine below_set ?_ GE125.out) | exact HB.out)⟩
    ·rw [if_neg c28] at H
     exact absurd H (by simp)
 ·rw [if_neg c4] at H
  have c4b0 : (t126 == 0) = false := beq_eq_false_iff_ne.mpr c4
  have c4b1 : (t126 != 0) = true := bne_iff_ne.mpr c4
  simp only [Option.some.injEq, Prod.mk.injEq] at H
  obtain ⟨rfl, rfl, rfl⟩ := H
  go_enter Try.func58, Try.ntmps58
  go_wp2_with (first | ((with_reducible refine gate_dst (N := 3) rfl ?_); refine box_event ?hg (N := 3) ?hd (cs := #[.int .i64 a1_0, .int .i64 a1_1, .int .i64 a1_2, .int .i64 a1_3]) (t := 26) ?hr ?_; (case hd => rfl); (case hg => rfl); (case hr => first | (go_simp; done) | (go_simp; rfl)); intro gb124 hg w47 hbox hb; have n0_ := Aside0.mk (below_step (by repeat (first | (with_reducible first | exact HB.out | apply below_alloc | apply pw_below_drewN | apply below_drew1) | exact HB.out)) hb); have n1_ := Aside0.mk (hbox); have n2_ := Aside0.mk ((by rw [hg]; exact (below_size (by repeat (first | (with_reducible first | exact HB.out | apply below_alloc | apply pw_below_drewN | apply below_drew1) | exact HB.out))) : w.heap.size ≤ gb124)); have n3_ := Aside0.mk ((by rw [hg]; exact (below_size (by repeat (first | (with_reducible first | exact HB.out | apply below_alloc | apply pw_below_drewN | apply below_drew1) | exact HB.out))) : w.heap.size ≤ gb124)); clear HB; have HB := n0_; have BK124 := n1_; have GW124 := n2_; have GE124 := n3_; clear n0_ n1_ n2_ n3_; clear hb hbox hg) | ((with_reducible refine gate_dst (N := 4) rfl ?_); refine box_event ?hg (N := 4) ?hd (cs := #[.int .i64 0, .int .i64 0, .slice none 0 0]) (t := 30) ?hr ?_; (case hd => rfl); (case hg => rfl); (case hr => first | (go_simp; done) | (go_simp; rfl)); intro gb125 hg w48 hbox hb; have n0_ := Aside0.mk (blk_below (g := gb124) (o := .cells #[.int .i64 a1_0, .int .i64 a1_1, .int .i64 a1_2, .int .i64 a1_3] 26 (0, 0)) (by (with_reducible repeat (first | refine blk_drewN ?_ _ | refine blk_drew ?_ | refine blk_alloc ?_ _)); exact BK124.out) hb); have n1_ := Aside0.mk (below_step (by repeat (first | (with_reducible first | exact HB.out | apply below_alloc | apply pw_below_drewN | apply below_drew1 | refine below_set ?_ GE124.out) | exact HB.out)) hb); have n2_ := Aside0.mk (hbox); have n3_ := Aside0.mk ((by rw [hg]; exact (below_size (by repeat (first | (with_reducible first | exact HB.out | apply below_alloc | apply pw_below_drewN | apply below_drew1 | refine below_set ?_ GE124.out) | exact HB.out))) : w.heap.size ≤ gb125)); have n4_ := Aside0.mk ((by rw [hg]; exact (below_size (by repeat (first | (with_reducible first | exact HB.out | apply below_alloc | apply pw_below_drewN | apply below_drew1 | refine below_set ?_ GE124.out) | exact HB.out))) : w.heap.size ≤ gb125)); have n5_ := Aside0.mk ((by rw [hg]; exact Nat.ne_of_lt (blk_lt (g := gb124) (o := .cells #[.int .i64 a1_0, .int .i64 a1_1, .int .i64 a1_2, .int .i64 a1_3] 26 (0, 0)) (by (with_reducible repeat (first | refine blk_drewN ?_ _ | refine blk_drew ?_ | refine blk_alloc ?_ _)); exact BK124.out)) : gb124 ≠ gb125)); have n6_ := Aside0.mk ((by rw [hg]; exact Nat.ne_of_gt (blk_lt (g := gb124) (o := .cells #[.int .i64 a1_0, .int .i64 a1_1, .int .i64 a1_2, .int .i64 a1_3] 26 (0, 0)) (by (with_reducible repeat (first | refine blk_drewN ?_ _ | refine blk_drew ?_ | refine blk_alloc ?_ _)); exact BK124.out)) : gb125 ≠ gb124)); clear BK124; clear HB; have BK124 := n0_; have HB := n1_; have BK125 := n2_; have GW125 := n3_; have GE125 := n4_; have NB124_125 := n5_; have NB125_124 := n6_; clear n0_ n1_ n2_ n3_ n4_ n5_ n6_; clear hb hbox hg; have hnb49 := NB124_125.out; have hnc49 := NB125_124.out; have hcz50_0 : w48.cell? ⟨gb124, 0, none⟩ = some (.int .i64 a1_0) := (blk_cell BK124.out 0).trans rfl; have hcz50_1 : w48.cell? ⟨gb124, 1, none⟩ = some (.int .i64 a1_1) := (blk_cell BK124.out 1).trans rfl; have hcz50_2 : w48.cell? ⟨gb124, 2, none⟩ = some (.int .i64 a1_2) := (blk_cell BK124.out 2).trans rfl; have hcz50_3 : w48.cell? ⟨gb124, 3, none⟩ = some (.int .i64 a1_3) := (blk_cell BK124.out 3).trans rfl; have hfz50_0 := blk_frozen BK124.out 0; have hfz50_1 := blk_frozen BK124.out 1; have hfz50_2 := blk_frozen BK124.out 2; have hfz50_3 := blk_frozen BK124.out 3) | ((with_reducible refine gate_callee (f := 92) rfl ?_); refine goesL_ (some 9) rfl rfl Try.func92 (by kernel_rfl) rfl #[.slice A0 l0.length c0, .agg #[.int .i64 a1_0, .int .i64 a1_1, .int .i64 a1_2, .int .i64 a1_3]] rfl (by (try simp only [List.map_toArray, List.map_cons, List.map_nil]); first | done | rfl | (simp only [List.length_drop, List.length_take]; rfl)) ?_; (with_reducible refine (spec_l5Term.calls k _ _ l0 a1_0 a1_1 a1_2 a1_3 t126 _ ?side1 ?side2 A3.out).mono ?_); (case side1 => repeat (first | exact (Kd.C_below HR0.out HB.out) | (with_reducible refine Kd.C_alloc ?_ _) | (with_reducible refine Kd.C_drewN ?_ _) | (with_reducible refine Kd.C_drew ?_))); (case side2 => exact HC0.out); rintro e w51 ⟨rfl, hb⟩; refine ⟨_, rfl, ?_⟩; have n0_ := Aside0.mk (blk_below (g := gb124) (o := .cells #[.int .i64 a1_0, .int .i64 a1_1, .int .i64 a1_2, .int .i64 a1_3] 26 (0, 0)) (by (with_reducible repeat (first | refine blk_drewN ?_ _ | refine blk_drew ?_ | refine blk_alloc ?_ _)); exact BK124.out) hb); have n1_ := Aside0.mk (blk_below (g := gb125) (o := .cells #[.int .i64 0, .int .i64 0, .slice none 0 0] 30 (0, 0)) (by (with_reducible repeat (first | refine blk_drewN ?_ _ | refine blk_drew ?_ | refine blk_alloc ?_ _)); exact BK125.out) hb); have n2_ := Aside0.mk (below_step (by repeat (first | (with_reducible first | exact HB.out | apply below_alloc | apply pw_below_drewN | apply below_drew1 | refine below_set ?_ GE124.out | refine below_set ?_ GE125.out) | exact HB.out)) hb); clear BK124; clear BK125; clear HB; have BK124 := n0_; have BK125 := n1_; have HB := n2_; clear n0_ n1_ n2_; (try clear hb); (try clear hb2); (try clear hk); (try clear hi); have hcz52_0 : w51.cell? ⟨gb125, 0, none⟩ = some (.int .i64 0) := (blk_cell BK125.out 0).trans rfl; have hcz52_1 : w51.cell? ⟨gb125, 1, none⟩ = some (.int .i64 0) := (blk_cell BK125.out 1).trans rfl; have hcz52_2 : w51.cell? ⟨gb125, 2, none⟩ = some (.slice none 0 0) := (blk_cell BK125.out 2).trans rfl; have hfz52_0 := blk_frozen BK125.out 0; have hfz52_1 := blk_frozen BK125.out 1; have hfz52_2 := blk_frozen BK125.out 2))
  refine bodyPost_ret (results_cell_row rfl _ _ gb125 30 #[.int .i64 t126, .int .i64 0, .slice none 0 0] (0, 0) _ rfl (by (with_reducible repeat (first | refine blk_drewN ?_ _ | refine blk_drew ?_ | refine blk_alloc ?_ _)); refine blk_put (cs := #[.int .i64 t126, .int .i64 0, .slice none 0 0]) ?_ 2 _ rfl; (with_reducible repeat (first | refine blk_drewN ?_ _ | refine blk_drew ?_ | refine blk_alloc ?_ _)); refine blk_put (cs := #[.int .i64 t126, .int .i64 0, .slice none 0 0]) ?_ 1 _ rfl; (with_reducible repeat (first | refine blk_drewN ?_ _ | refine blk_drew ?_ | refine blk_alloc ?_ _)); refine blk_put (cs := #[.int .i64 0, .int .i64 0, .slice none 0 0]) ?_ 0 _ rfl; (with_reducible repeat (first | refine blk_drewN ?_ _ | refine blk_drew ?_ | refine blk_alloc ?_ _)); exact BK125.out) Try.underlying30 rfl (by kernel_rfl)) rfl ?_
  exact ⟨_, by first | rfl | (simp [errW_none, errW_some] <;> rfl) | (simp [*, errW_none, errW_some] <;> rfl), by first | exact Kd.R_nil _ _ _ _ _ | exact Kd.N_nil _ _ _ _ _ | exact Kd.V_nil _ _ _ _ _ | exact Kd.Q_nil _ _ _ _ _ | exact Kd.S_nil _ _ _ _ _, by repeat (first | (with_reducible first | exact HB.out | apply below_alloc | apply pw_below_drewN | apply below_drew1 | refine below_set ?_ GE124.out | refine below_set ?_ GE125.out) | exact HB.out)⟩
end Go.Proofs.Ytomaeijhljpgdaa.G
namespace Go.Proofs.Ytomaeijhljpgdaa.G
open Go.RowKit Go.Proofs.YtomaeijhljpgdaaW.PrintWords Go.Proofs.YtomaeijhljpgdaaW.PrintLast Go.Proofs.YtomaeijhljpgdaaW.PrintMore
attribute [local go_sem] max2_int min2_int max_two min_two max_three min_three max_four min_four   -- for this text's walks alone
set_option linter.unusedVariables false
set_option linter.unusedSimpArgs false
def spec_l9Put.f (k : Nat) (l : List S26) (c t0 t1 t2 t3 : Int) : Option (Int × List S26 × Int) := if c = 0 then ((spec_l5Put.f k l t0 t1 t2 t3).bind fun q => (if q.1 = 0 then (some (q.2.1, q.2.2, 0)) else (some (0, l, q.1)))) else (some (0, l, c))
theorem R_okT {w : World} {b : Nat} {v : Value} {l : List S26} {p : Nat → Prop} (h : k26.R 26 w b (fun _ => True) v l) (hp : ∀ k, v.ownBlock = some k → p k) : k26.R 26 w b p v l := by
  obtain ⟨h0, inner, hown, hr⟩ := h
  exact ⟨hp, inner, hown, hr.imp_ (fun x cs hm => by obtain rfl := k26_openM hm; exact k26_mkM _ _ _ _)⟩
theorem se_keep {Q N S : Nat} {w W : World} {v x : Value} {l : List S26} (hv : StV Q w N S v x l) (hb : Below w.heap.size w W) (j : Nat) (y : Value) : KeepT Q N w (W.setCell ⟨S, j, none⟩ y) :=
  ⟨Nat.le_trans hb.size (by simp), fun i hi hn => (Below.heap_setCell W ⟨S, j, none⟩ y i (fun e => hn (by have e2 : i = S := e; rw [e2]; exact ⟨hv.2.1, _, _, hv.1, .inl rfl⟩))).trans (hb.block i hi)⟩
theorem se_set1 {Q N S : Nat} {w W : World} {v x : Value} {l : List S26} (hv : StV Q w N S v x l) (hb : Below w.heap.size w W) (y : Value) : SE Q N S w (W.setCell ⟨S, 1, none⟩ y) l y :=
  ⟨⟨v, blk_put (blk_below hv.1 hb) 1 y rfl, hv.2.1, Kd.R_far (Kd.R_below hv.2.2 hb) (p := ⟨S, 1, none⟩) (fun k hk => hk) y⟩, se_keep hv hb 1 y, (hb.mono hv.size).setCell (p := ⟨S, 1, none⟩) hv.2.1 y⟩
theorem se_set0 {Q N S : Nat} {w W : World} {v x v2 : Value} {l l2 : List S26} (hv : StV Q w N S v x l) (hb : Below w.heap.size w W) (hr : k26.R 26 W w.heap.size (fun _ => True) v2 l2) : SE Q N S w (W.setCell ⟨S, 0, none⟩ v2) l2 x :=
  ⟨⟨v2, blk_put (blk_below hv.1 hb) 0 v2 rfl, hv.2.1, Kd.R_far (R_okT (Kd.R_lower hr hv.size) (fun k hk => by have := Kd.R_base hr k hk; have := blk_lt hv.1; show k ≠ S; omega)) (p := ⟨S, 0, none⟩) (fun k hk => hk) v2⟩, se_keep hv hb 0 v2, (hb.mono hv.size).setCell (p := ⟨S, 0, none⟩) hv.2.1 v2⟩
set_option maxHeartbeats 4000000 in
set_option maxRecDepth 100000 in
theorem spec_l9Put.callsE {N S : Nat} {w0 w : World} {l : List S26} {c : Int} (k : Nat) (t0 t1 t2 t3 : Int) (r : Int × List S26 × Int) (h : SE 94 N S w0 w l (.int .i64 c)) (hr : spec_l9Put.f k l c t0 t1 t2 t3 = some r) :
    Calls Try.prog 109 #[.pointer (some ⟨S, 0, none⟩), .agg #[.int .i64 t0, .int .i64 t1, .int .i64 t2, .int .i64 t3]] w fun e w' => e = .returned (.int .i64 r.1) ∧ SE 94 N S w0 w' r.2.1 (.int .i64 r.2.2) ∧ KeepT 94 N w w' := by
  refine SE.call h (fun v hv => ?_)
  clear h
  obtain ⟨A, cc, rfl⟩ := Kd.R_slice hv.2.2
  unfold spec_l9Put.f at hr
  have HV := Aside0.mk hv
  have BS := Aside0.mk hv.1
  have HB := Aside0.mk (Below.refl w.heap.size w)
  have HC := Aside0.mk (Kd.R_reads' hv.2.2).2.2
  have HCC := Aside0.mk (Kd.R_reads' hv.2.2).2.1
  clear hv
  by_cases hz : c = 0
  · rw [if_pos hz] at hr
    subst hz
    obtain ⟨q, hq, hr⟩ := Option.bind_eq_some_iff.mp hr
    have HQ := Aside0.mk hq
    clear hq
    have p0_ : w.cell? ⟨S, 1, none⟩ = some (.int .i64 0) := (blk_cell BS.out 1).trans rfl
    go_enter Try.func109, Try.ntmps109
    go_wp2_with (first | ((with_reducible refine gate_dst (N := 3) rfl ?_); refine box_event ?hg (N := 3) ?hd (cs := #[.int .i64 t0, .int .i64 t1, .int .i64 t2, .int .i64 t3]) (t := 26) ?hr ?_; (case hd => rfl); (case hg => rfl); (case hr => first | (go_simp; done) | (go_simp; rfl)); intro g3 hg w2 hbox hb; have n0_ := Aside0.mk (below_step HB.out hb); have B3 := Aside0.mk hbox; have p1_ : w2.cell? ⟨S, 1, none⟩ = some (.int .i64 0) := (blk_cell (blk_below BS.out n0_.out) 1).trans rfl; clear HB; have HB := n0_; clear n0_ hb hbox hg))
    clear p0_ p1_
    have n0_ := Aside0.mk (below_drew HB.out)
    have n1_ := Aside0.mk (blk_drew B3.out)
    clear HB B3
    have HB := n0_; have B3 := n1_
    clear n0_ n1_
    refine start_ (n := 8) (S := fun w' => w'.cell? ⟨S, 0, none⟩ = some (.slice A l.length cc) ∧ w'.cell? ⟨g3, 0, none⟩ = some (.int .i64 t0) ∧ w'.cell? ⟨g3, 1, none⟩ = some (.int .i64 t1) ∧ w'.cell? ⟨g3, 2, none⟩ = some (.int .i64 t2) ∧ w'.cell? ⟨g3, 3, none⟩ = some (.int .i64 t3)) (ds := [7]) #[false, false, false, false, false, false, false, false] (by kernel_rfl) rfl rfl ⟨(blk_cell (blk_below BS.out HB.out) 0).trans rfl, (blk_cell B3.out 0).trans rfl, (blk_cell B3.out 1).trans rfl, (blk_cell B3.out 2).trans rfl, (blk_cell B3.out 3).trans rfl⟩ (fun hHeld => ?_)
    generalize hw3 : w2.drew = w3 at HB B3 hHeld ⊢
    clear hw3
    refine pure_ (i := 0) (N := some 11) (v := ?_) (a' := ?_) #[true, false, false, false, false, false, false, false] rfl rfl (by kernel_rfl) (fun _ _ _ h => h) (Or.inl ⟨by rfl, ?_⟩) ?_ ?_
    rotate_left
    · intro w'
      go_simp
      with_reducible rfl
    rotate_left
    · simp only [Act.put, lA_, lZ_, lS_, i64_w, i32_w]
      rfl
    refine pure_ (i := 1) (N := some 12) (v := ?_) (a' := ?_) #[true, true, false, false, false, false, false, false] rfl rfl (by kernel_rfl) (fun _ _ _ h => h) (Or.inl ⟨by rfl, ?_⟩) ?_ ?_
    rotate_left
    · intro w'
      go_simp
      with_reducible rfl
    rotate_left
    · simp only [Act.put, lA_, lZ_, lS_, i64_w, i32_w]
      rfl
    refine pure_ (i := 2) (N := some 13) (v := ?_) (a' := ?_) #[true, true, true, false, false, false, false, false] rfl rfl (by kernel_rfl) (fun _ _ _ h => h) (Or.inl ⟨by rfl, ?_⟩) ?_ ?_
    rotate_left
    · intro w'
      go_simp
      with_reducible rfl
    rotate_left
    · simp only [Act.put, lA_, lZ_, lS_, i64_w, i32_w]
      rfl
    refine take_ (i := 3) (N := some 14) (v := ?_) (a' := ?_) #[true, true, true, true, false, false, false, false] rfl rfl (by kernel_rfl) (fun _ _ _ h => h) (Or.inl ⟨by rfl, ?_⟩) hHeld ?_ ?_
    rotate_left
    · rintro w' ⟨s0, s1, s2, s3, s4⟩
      go_simp
      with_reducible rfl
    rotate_left
    · simp only [Act.put, lA_, lZ_, lS_, i64_w, i32_w]
      rfl
    refine take_ (i := 4) (N := some 15) (v := ?_) (a' := ?_) #[true, true, true, true, true, false, false, false] rfl rfl (by kernel_rfl) (fun _ _ _ h => h) (Or.inl ⟨by rfl, ?_⟩) hHeld ?_ ?_
    rotate_left
    · rintro w' ⟨s0, s1, s2, s3, s4⟩
      go_simp
      with_reducible rfl
    rotate_left
    · simp only [Act.put, lA_, lZ_, lS_, i64_w, i32_w]
      rfl
    refine join_ (σ := Nat × Value) 1 #[true, true, true, true, true, true, true, false] (fun s_ => [(16, .agg #[.int .i64 q.1, .int .i64 q.2.1, s_.2]), (5, .pointer (some ⟨s_.1, 0, none⟩))]) (fun s_ W => ( W.cell? ⟨S, 0, none⟩ = some (.slice A l.length cc) ∧ W.cell? ⟨g3, 0, none⟩ = some (.int .i64 t0) ∧ W.cell? ⟨g3, 1, none⟩ = some (.int .i64 t1) ∧ W.cell? ⟨g3, 2, none⟩ = some (.int .i64 t2) ∧ W.cell? ⟨g3, 3, none⟩ = some (.int .i64 t3)) ∧ W.heap[s_.1]? = some (.cells #[.int .i64 0, .int .i64 0, .slice none 0 0] 30 (0, 0)) ∧ w.heap.size ≤ s_.1 ∧ W.heap[g3]? = some (.cells #[.int .i64 t0, .int .i64 t1, .int .i64 t2, .int .i64 t3] 26 (0, 0)) ∧ k26.R 26 W w.heap.size (fun k => k ≠ s_.1) s_.2 q.2.2 ∧ Below w.heap.size w W) ?_ ?_
    rotate_left
    · intro hCont
      refine two_ (i := 5) (j := 6) (Ni := some 16) (Nj := some 5) #[true, true, true, true, true, true, false, false] #[true, true, true, true, true, false, true, false] rfl rfl rfl rfl (by kernel_rfl) (by decide) (by decide) (fun K hK => ?_) (fun K hK => ?_)
      · skip
        refine goes_ Try.func58 (by kernel_rfl) rfl #[.slice A l.length cc, .agg #[.int .i64 t0, .int .i64 t1, .int .i64 t2, .int .i64 t3]] (by rfl) rfl rfl (by (try simp only [List.map_toArray, List.map_cons, List.map_nil]); first | done | rfl) ?_
        refine (spec_l5Put.calls k A cc l t0 t1 t2 t3 q.1 q.2.1 q.2.2 _ (Kd.C_below HC.out HB.out) HCC.out HQ.out).mono ?_
        rintro e w5 ⟨v2, rfl, ho, hb⟩
        refine ⟨_, rfl, ?_⟩
        have HR := Aside0.mk (Kd.R_lower ho (below_size HB.out))
        have n0_ := Aside0.mk (below_step HB.out hb)
        have n1_ := Aside0.mk (blk_below B3.out hb)
        clear HB B3 ho
        have HB := n0_; have B3 := n1_
        clear n0_ n1_ hb
        refine hK.out _ _ ⟨(blk_cell (blk_below BS.out HB.out) 0).trans rfl, (blk_cell B3.out 0).trans rfl, (blk_cell B3.out 1).trans rfl, (blk_cell B3.out 2).trans rfl, (blk_cell B3.out 3).trans rfl⟩ (fun hHeld => ?_)
        clear hK K
        refine norm_ (a' := ?_) ?_ ?_
        rotate_left
        · show Act.put _ (some 16) _ = _
          simp only [Act.put, lA_, lZ_, lS_, i64_w, i32_w]
          rfl
        refine one_ (i := 6) (N := some 5) #[true, true, true, true, true, true, true, false] rfl rfl (by kernel_rfl) (by decide) (fun K hK => ?_)
        refine value_ (w1 := ?_) (v := ?_) (by rfl) rfl ?_ ?_
        rotate_left 2
        · go_simp
          first | rfl | (constructor <;> rfl)
        have B5 := Aside0.mk (blk_new w5 (.cells #[.int .i64 0, .int .i64 0, .slice none 0 0] 30))
        have GE := Aside0.mk (below_size HB.out)
        have n0_ := Aside0.mk (below_alloc HB.out (.cells #[.int .i64 0, .int .i64 0, .slice none 0 0] 30))
        have n1_ := Aside0.mk (blk_alloc B3.out (.cells #[.int .i64 0, .int .i64 0, .slice none 0 0] 30))
        have HG := Aside0.mk (show ∀ k, v2.ownBlock = some k → k ≠ w5.heap.size from fun k hk => by obtain ⟨_, hi⟩ := Kd.R_own HR.out; have := own_lt hi k hk; omega)
        have n2_ := Aside0.mk (Kd.R_alloc HR.out (.cells #[.int .i64 0, .int .i64 0, .slice none 0 0] 30))
        clear HR
        have HR := n2_
        clear HB B3
        have HB := n0_; have B3 := n1_
        clear n0_ n1_
        refine hK.out _ _ ⟨(blk_cell (blk_below BS.out HB.out) 0).trans rfl, (blk_cell B3.out 0).trans rfl, (blk_cell B3.out 1).trans rfl, (blk_cell B3.out 2).trans rfl, (blk_cell B3.out 3).trans rfl⟩ (fun hHeld => ?_)
        clear hK K
        refine norm_ (a' := ?_) ?_ ?_
        rotate_left
        · show Act.put _ (some 5) _ = _
          simp only [Act.put, lA_, lZ_, lS_, i64_w, i32_w]
          rfl
        exact norm_ (by simp only [putAll, Act.put, lA_, lZ_, lS_]) (hCont (w5.heap.size, v2) _ ⟨hHeld, B5.out, GE.out, B3.out, R_okT HR.out HG.out, HB.out⟩)
      · skip
        refine value_ (w1 := ?_) (v := ?_) (by rfl) rfl ?_ ?_
        rotate_left 2
        · go_simp
          first | rfl | (constructor <;> rfl)
        have B5 := Aside0.mk (blk_new w3 (.cells #[.int .i64 0, .int .i64 0, .slice none 0 0] 30))
        have GE := Aside0.mk (below_size HB.out)
        have n0_ := Aside0.mk (below_alloc HB.out (.cells #[.int .i64 0, .int .i64 0, .slice none 0 0] 30))
        have n1_ := Aside0.mk (blk_alloc B3.out (.cells #[.int .i64 0, .int .i64 0, .slice none 0 0] 30))
        clear HB B3
        have HB := n0_; have B3 := n1_
        clear n0_ n1_
        refine hK.out _ _ ⟨(blk_cell (blk_below BS.out HB.out) 0).trans rfl, (blk_cell B3.out 0).trans rfl, (blk_cell B3.out 1).trans rfl, (blk_cell B3.out 2).trans rfl, (blk_cell B3.out 3).trans rfl⟩ (fun hHeld => ?_)
        clear hK K
        refine norm_ (a' := ?_) ?_ ?_
        rotate_left
        · show Act.put _ (some 5) _ = _
          simp only [Act.put, lA_, lZ_, lS_, i64_w, i32_w]
          rfl
        refine one_ (i := 5) (N := some 16) #[true, true, true, true, true, true, true, false] rfl rfl (by kernel_rfl) (by decide) (fun K hK => ?_)
        refine goes_ Try.func58 (by kernel_rfl) rfl #[.slice A l.length cc, .agg #[.int .i64 t0, .int .i64 t1, .int .i64 t2, .int .i64 t3]] (by rfl) rfl rfl (by (try simp only [List.map_toArray, List.map_cons, List.map_nil]); first | done | rfl) ?_
        refine (spec_l5Put.calls k A cc l t0 t1 t2 t3 q.1 q.2.1 q.2.2 _ (Kd.C_below HC.out HB.out) HCC.out HQ.out).mono ?_
        rintro e w5 ⟨v2, rfl, ho, hb⟩
        refine ⟨_, rfl, ?_⟩
        have HR := Aside0.mk (Kd.R_lower ho (below_size HB.out))
        have HG := Aside0.mk (Kd.R_base ho)
        have n0_ := Aside0.mk (below_step HB.out hb)
        have n1_ := Aside0.mk (blk_below B3.out hb)
        have n2_ := Aside0.mk (blk_below B5.out hb)
        clear B5
        clear HB B3 ho
        have HB := n0_; have B3 := n1_
        have B5 := n2_
        clear n2_
        clear n0_ n1_ hb
        refine hK.out _ _ ⟨(blk_cell (blk_below BS.out HB.out) 0).trans rfl, (blk_cell B3.out 0).trans rfl, (blk_cell B3.out 1).trans rfl, (blk_cell B3.out 2).trans rfl, (blk_cell B3.out 3).trans rfl⟩ (fun hHeld => ?_)
        clear hK K
        refine norm_ (a' := ?_) ?_ ?_
        rotate_left
        · show Act.put _ (some 16) _ = _
          simp only [Act.put, lA_, lZ_, lS_, i64_w, i32_w]
          rfl
        exact norm_ (by simp only [putAll, Act.put, lA_, lZ_, lS_]) (hCont (w3.heap.size, v2) _ ⟨hHeld, B5.out, GE.out, B3.out, R_okT HR.out (fun k hk e => by have := HG.out k hk; simp at this; omega), HB.out⟩)
    rintro ⟨g5, v2⟩ w6 ⟨hHeld, b5, ge5, b3, ho2, hb⟩
    obtain ⟨A2, c2, e2⟩ := Kd.R_slice ho2
    dsimp only at e2
    subst e2
    clear HB B3
    have B5 := Aside0.mk b5; have GE := Aside0.mk ge5; have HR := Aside0.mk ho2; have HB := Aside0.mk hb
    clear b5 ge5 b3 ho2 hb hHeld
    dsimp only at B5 GE HR HB ⊢
    refine norm_ (a' := ?_) ?_ ?_
    rotate_left
    · simp only [putAll, Act.put, lA_, lZ_, lS_]
      rfl
    refine last_ (i := 7) (N := none) #[true, true, true, true, true, true, true, true] rfl rfl (by kernel_rfl) (by decide) (fun K hK => ?_)
    have x0_ : w6.cell? ⟨g5, 0, none⟩ = some (.int .i64 0) := (blk_cell B5.out 0).trans rfl; have x1_ : w6.cell? ⟨g5, 1, none⟩ = some (.int .i64 0) := (blk_cell B5.out 1).trans rfl; have x2_ : w6.cell? ⟨g5, 2, none⟩ = some (.slice none 0 0) := (blk_cell B5.out 2).trans rfl
    have y0_ := blk_frozen B5.out 0; have y1_ := blk_frozen B5.out 1; have y2_ := blk_frozen B5.out 2
    refine skip_ (w1 := ?_) (by rfl) rfl ?_ ?_
    rotate_left
    · go_simp
      rfl
    refine hK.out _ _ ?_
    clear hK K
    refine done_ (by kernel_rfl) ?_
    have n0_ := Aside0.mk (below_set (j := 2) (v := (.slice A2 q.2.2.length c2)) (below_set (j := 1) (v := .int .i64 q.2.1) (below_set (j := 0) (v := .int .i64 q.1) HB.out GE.out) GE.out) GE.out)
    have n1_ := Aside0.mk (Kd.R_mono (Kd.R_far (Kd.R_far (Kd.R_far HR.out (p := ⟨g5, 0, none⟩) (fun k hk => hk) (.int .i64 q.1)) (p := ⟨g5, 1, none⟩) (fun k hk => hk) (.int .i64 q.2.1)) (p := ⟨g5, 2, none⟩) (fun k hk => hk) (.slice A2 q.2.2.length c2)) (fun _ _ => trivial))
    have n2_ : Aside0 ((((w6.setCell ⟨g5, 0, none⟩ (.int .i64 q.1)).setCell ⟨g5, 1, none⟩ (.int .i64 q.2.1)).setCell ⟨g5, 2, none⟩ (.slice A2 q.2.2.length c2)).heap[g5]? = some (.cells #[.int .i64 q.1, .int .i64 q.2.1, .slice A2 q.2.2.length c2] 30 (0, 0))) := Aside0.mk (blk_put (blk_put (blk_put B5.out 0 _ rfl) 1 _ rfl) 2 _ rfl)
    clear HB HR B5 x0_ x1_ x2_ y0_ y1_ y2_
    have HB := n0_; have HR := n1_; have B5 := n2_
    clear n0_ n1_ n2_
    generalize ((w6.setCell ⟨g5, 0, none⟩ (.int .i64 q.1)).setCell ⟨g5, 1, none⟩ (.int .i64 q.2.1)).setCell ⟨g5, 2, none⟩ (.slice A2 q.2.2.length c2) = w7 at HB HR B5 ⊢
    have x0_ : w7.cell? ⟨g5, 0, none⟩ = some (.int .i64 q.1) := (blk_cell B5.out 0).trans rfl
    have x1_ : w7.cell? ⟨g5, 1, none⟩ = some (.int .i64 q.2.1) := (blk_cell B5.out 1).trans rfl
    have x2_ : w7.cell? ⟨g5, 2, none⟩ = some (.slice A2 q.2.2.length c2) := (blk_cell B5.out 2).trans rfl
    have z0_ : w7.cell? ⟨S, 0, none⟩ = some (.slice A l.length cc) := (blk_cell (blk_below BS.out HB.out) 0).trans rfl
    have z1_ : w7.cell? ⟨S, 1, none⟩ = some (.int .i64 0) := (blk_cell (blk_below BS.out HB.out) 1).trans rfl
    have f0_ := blk_frozen (blk_below BS.out HB.out) 0
    have f1_ := blk_frozen (blk_below BS.out HB.out) 1
    by_cases hq : q.1 = 0
    · rw [if_pos hq] at hr
      injection hr with hr
      subst hr
      have hq0 : (q.1 == 0) = true := by simpa using hq
      have hq1 : (q.1 != 0) = false := by simpa using hq
      have hne : S ≠ g5 := by have := GE.out; have := blk_lt BS.out; omega
      have hne2 : g5 ≠ S := hne.symm
      go_wp2
      go_ret
      exact ⟨rfl, se_set0 HV.out HB.out HR.out⟩
    · rw [if_neg hq] at hr
      injection hr with hr
      subst hr
      have hq0 : (q.1 == 0) = false := by simpa using hq
      have hq1 : (q.1 != 0) = true := by simpa using hq
      go_wp2
      go_ret
      exact ⟨rfl, se_set1 HV.out HB.out _⟩
  · rw [if_neg hz] at hr
    injection hr with hr
    subst hr
    have hz0 : (c == 0) = false := by simpa using hz
    have hz1 : (c != 0) = true := by simpa using hz
    have p0_ : w.cell? ⟨S, 1, none⟩ = some (.int .i64 c) := (blk_cell BS.out 1).trans rfl
    go_enter Try.func109, Try.ntmps109
    go_wp2_with (first | ((with_reducible refine gate_dst (N := 3) rfl ?_); refine box_event ?hg (N := 3) ?hd (cs := #[.int .i64 t0, .int .i64 t1, .int .i64 t2, .int .i64 t3]) (t := 26) ?hr ?_; (case hd => rfl); (case hg => rfl); (case hr => first | (go_simp; done) | (go_simp; rfl)); intro g3 hg w2 hbox hb; have n0_ := Aside0.mk (below_step HB.out hb); have p1_ : w2.cell? ⟨S, 1, none⟩ = some (.int .i64 c) := (blk_cell (blk_below BS.out n0_.out) 1).trans rfl; clear HB; have HB := n0_; clear n0_ hb hbox hg))
    go_ret
    exact ⟨rfl, (SE.start HV.out).below HB.out⟩
theorem st_new {Q N M : Nat} {w : World} {a b v x : Value} {l : List S26} (h : w.heap[M]? = some (.cells #[a, b] Q (0, 0))) (hN : N ≤ M) (hr : k26.R 26 w N (fun k => k ≠ M) v l) : StV Q ((w.setCell ⟨M, 0, none⟩ v).setCell ⟨M, 1, none⟩ x) N M v x l :=
  ⟨blk_put (blk_put h 0 v rfl) 1 x rfl, hN, Kd.R_far (Kd.R_far hr (p := ⟨M, 0, none⟩) (fun k hk => hk) v) (p := ⟨M, 1, none⟩) (fun k hk => hk) x⟩
theorem R_below_ne {w W : World} {b g : Nat} {v : Value} {l : List S26} (h : k26.R 26 w b (fun _ => True) v l) (hb : Below w.heap.size w W) (hg : w.heap.size ≤ g) : k26.R 26 W b (fun k => k ≠ g) v l :=
  Kd.R_below (R_okT h (fun k hk => by obtain ⟨_, hi⟩ := Kd.R_own h; have := own_lt hi k hk; show k ≠ g; omega)) hb
end Go.Proofs.Ytomaeijhljpgdaa.G
namespace Go.Proofs.Ytomaeijhljpgdaa.G
open Go.RowKit Go.Proofs.YtomaeijhljpgdaaW.PrintWords Go.Proofs.YtomaeijhljpgdaaW.PrintLast Go.Proofs.YtomaeijhljpgdaaW.PrintMore
attribute [local go_sem] max2_int min2_int max_two min_two max_three min_three max_four min_four   -- for this text's walks alone
set_option linter.unusedVariables false
set_option linter.unusedSimpArgs false
set_option maxHeartbeats 4000000 in
set_option maxRecDepth 100000 in
theorem impl_sheet_pair.callsV (S N : Nat) (v : Value) (l : List S26) (full : Bool) (a b : Int) (w : World) (hS : SheetV w N S v l full) (hN : N ≤ w.heap.size) (hl : l.length ≤ 400) :
    Calls Try.prog 97 #[.pointer (some ⟨S, 0, none⟩), .int .i64 a, .int .i64 b] w fun e w' => e = .returned (.int .i64 (putT l full ⟨3, a, b, 0⟩).1) ∧ (∃ v', SheetV w' N S v' (putT l full ⟨3, a, b, 0⟩).2.1 (putT l full ⟨3, a, b, 0⟩).2.2 ∧ ∀ k, v'.ownBlock = some k → v.ownBlock = some k ∨ w.heap.size ≤ k) ∧ KeepV w w' S v ∧ Below N w w' := by
  have HC := Aside0.mk (impl_sheet_put.callsV 402 S N v l full 3 a b 0 _ w hS hN (tix_f l hl ⟨3, a, b, 0⟩))
  unfold putT
  clear hS hN
  generalize putP l full ⟨3, a, b, 0⟩ (tix l ⟨3, a, b, 0⟩ 0) = r at HC ⊢
  go_enter Try.func97, Try.ntmps97
  go_wp2_with (go_at_call 56; refine HC.out.mono ?_; rintro e w' ⟨rfl, hs, hk, hb⟩)
  go_ret
  exact ⟨rfl, hs, hk, hb⟩
theorem impl_sheet_pair.callsE {N S : Nat} {w0 w : World} {l : List S26} {full : Bool} (a b : Int) (r : Int × List S26 × Bool) (h : SE 107 N S w0 w l (.bool full)) (hl : l.length ≤ 400) (hr : putT l full ⟨3, a, b, 0⟩ = r) :
    Calls Try.prog 97 #[.pointer (some ⟨S, 0, none⟩), .int .i64 a, .int .i64 b] w fun e w' => e = .returned (.int .i64 r.1) ∧ SE 107 N S w0 w' r.2.1 (.bool r.2.2) ∧ KeepT 107 N w w' := by
  subst hr
  exact SE.call h (fun v hv => (impl_sheet_pair.callsV S N v l full a b w hv hv.size hl).mono (fun e w' ⟨h1, h2⟩ => ⟨h1, se_of_V hv h2⟩))
end Go.Proofs.Ytomaeijhljpgdaa.G
namespace Go.Proofs.Ytomaeijhljpgdaa.G
open Go.RowKit Go.Proofs.YtomaeijhljpgdaaW.PrintWords Go.Proofs.YtomaeijhljpgdaaW.PrintLast Go.Proofs.YtomaeijhljpgdaaW.PrintMore
attribute [local go_sem] max2_int min2_int max_two min_two max_three min_three max_four min_four   -- for this text's walks alone
set_option linter.unusedVariables false
set_option linter.unusedSimpArgs false
section
open Go.Shelf
attribute [local go_sem] Oper.semAt_some
def pairT (st : Int × List S26 × Bool) (x : Int) : Int × List S26 × Bool := putT st.2.1 st.2.2 ⟨3, x, st.1, 0⟩
def listP (l : List S26) (full : Bool) (xs : List Int) : Int × List S26 × Bool :=
  if xs.length = 0 then putT l full ⟨1, 0, 0, 0⟩ else ((backTo (xs.take (xs.length - 1)) (xs.length - 1)).map Prod.snd).foldl pairT (xs[xs.length - 1]?.getD 0, l, full)
theorem sheetV_below {W W' : World} {N S : Nat} {v : Value} {l : List S26} {full : Bool} (h : SheetV W N S v l full) (hb : Below W.heap.size W W') : SheetV W' N S v l full := ⟨blk_below h.1 hb, h.2.1, Kd.R_below h.2.2 hb⟩
theorem sheetV_alloc {W : World} {N S : Nat} {v : Value} {l : List S26} {full : Bool} (h : SheetV W N S v l full) (o : Obj) : SheetV (W.alloc o) N S v l full := sheetV_below h (below_alloc (Below.refl _ _) o)
def ListI (N S z b : Nat) (v0 : Value) (st : Int × List S26 × Bool) (w W : World) : Prop := ∃ v, W.heap[z]? = some (.cells #[.pointer (some ⟨S, 0, none⟩)] 79 (0, 0)) ∧ W.heap[z + 1]? = some (.cells #[.int .i64 st.1] 2 (0, 0)) ∧ SheetV W N S v st.2.1 st.2.2 ∧ st.2.1.length ≤ 400 ∧ (∀ k, v.ownBlock = some k → k ≠ z ∧ k ≠ z + 1 ∧ k ≠ z + 1 + 1 ∧ k ≠ b) ∧ z + 3 ≤ W.heap.size ∧ KeepV w W S v0 ∧ (∀ k, v.ownBlock = some k → v0.ownBlock = some k ∨ w.heap.size ≤ k) ∧ Below N w W
theorem R_and {W : World} {N : Nat} {ok : Nat → Prop} {q : Nat → Prop} {v : Value} {l : List S26} (h : k26.R 26 W N ok v l) (hq : ∀ k, v.ownBlock = some k → q k) : k26.R 26 W N (fun k => ok k ∧ q k) v l := by
  obtain ⟨h0, inner, hown, hr⟩ := h
  exact ⟨fun k hk => ⟨h0 k hk, hq k hk⟩, inner, hown, hr.imp_ (fun x cs hm => by obtain rfl := k26_openM hm; exact k26_mkM _ _ _ _)⟩
theorem R_cellsRow {W : World} {N : Nat} {ok : Nat → Prop} {v : Value} {l : List S26} (h : k26.R 26 W N ok v l) (k : Nat) (hk : v.ownBlock = some k) : ∃ cells, W.heap[k]? = some (.cells cells 26 (0, 0)) := by
  obtain ⟨_, hi⟩ := Kd.R_own h
  exact own_typed hi k hk
theorem R_heap {W W' : World} {N : Nat} {ok : Nat → Prop} {v : Value} {l : List S26} (h : k26.R 26 W N ok v l) (hm : ∀ k, v.ownBlock = some k → W'.heap[k]? = W.heap[k]?) : k26.R 26 W' N ok v l := by
  obtain ⟨h0, inner, hown, hr⟩ := h
  exact ⟨h0, inner, own_move hown hm, hr.imp_ (fun x cs hm => by obtain rfl := k26_openM hm; exact k26_mkM _ _ _ _)⟩
theorem R_putObj {W : World} {N D : Nat} {ok : Nat → Prop} {v : Value} {l : List S26} {o o' : Obj} (h : k26.R 26 W N ok v l) (hD : W.heap[D]? = some o) (ho : o.isCells = false) : k26.R 26 (W.putObj D o') N ok v l :=
  R_heap h (fun k hk => World.putObj_heap_other (fun e => by
    obtain ⟨cells, hc⟩ := R_cellsRow h k hk
    rw [e, hD] at hc
    injection hc with hc
    rw [hc] at ho
    cases ho))
theorem listI_own {α : Type} (N S z b B : Nat) (v0 : Value) (hN : N ≤ B) (hS : S < B) (hz : z + 3 ≤ B) (f : α → Int × List S26 × Bool) (w : World) (hw : w.heap.size ≤ B) : OwnFrom B (fun s W => ListI N S z b v0 (f s) w W) := by
  rintro s W W' row ⟨v, q2, q6, ⟨h1, h2, h3⟩, hl, ho, hs, hkp, hov, hb⟩ hg hr
  have far : ∀ k, k < B → some k ≠ row := fun k hk e => by have := (hr k e.symm).1; omega
  have blk : ∀ k, k < W.heap.size → k < B → W'.heap[k]? = W.heap[k]? := fun k h1 h2 => hg.block k h1 (far k h2)
  have hNW : N ≤ W.heap.size := Nat.le_trans h2 (Nat.le_of_lt (blk_lt h1))
  refine ⟨v, (blk _ (by omega) (by omega)).trans q2, (blk _ (by omega) (by omega)).trans q6, ⟨(blk _ (blk_lt h1) hS).trans h1, h2, R_heap h3 (fun k hk => ?_)⟩, hl, ho, by have := hg.size; omega, fun k h1 h2 h3 => (blk k (Nat.lt_of_lt_of_le h1 hb.size) (by omega)).trans (hkp k h1 h2 h3), hov, ?_⟩
  · obtain ⟨cells, hc⟩ := R_cellsRow h3 k hk
    refine hg.block k (blk_lt hc) (fun e => ?_)
    obtain ⟨_, o, ho1, ho2⟩ := hr k e.symm
    rw [hc] at ho1
    injection ho1 with ho1
    rw [← ho1] at ho2
    cases ho2
  · exact pw_below_grown hb row (by omega) hg (fun k e => by have := (hr k e).1; omega)
theorem keepsOthers_put {W W' : World} {N S : Nat} {v : Value} {l : List S26} {full : Bool} (h : SheetV W N S v l full) (hk : KeepV W W' S v) (hs : W.heap.size ≤ W'.heap.size) : KeepsOthers W W' :=
  ⟨hs, fun k o ho hc => by
    refine (hk k (blk_lt ho) (fun e => ?_) (fun e => ?_)).trans ho
    · rw [e, h.1] at ho
      injection ho with ho
      rw [← ho] at hc
      cases hc
    · obtain ⟨cells, hcc⟩ := R_cellsRow h.2.2 k e
      rw [hcc] at ho
      injection ho with ho
      rw [← ho] at hc
      cases hc⟩
set_option maxRecDepth 100000 in
set_option maxHeartbeats 4000000 in
theorem impl_sheet_list.callsV (S N : Nat) (v : Value) (l : List S26) (full : Bool) (A1 : Option Addr) (c1 : Nat) (xs : List Int) (w : World) (hS : SheetV w N S v l full) (hN : N ≤ w.heap.size) (hl : l.length ≤ 400) (hr1 : Kd.C (Kd.int .i64) w A1 xs.length xs) (hc1 : xs.length ≤ c1) (hfar : 0 < xs.length → ∀ ad, A1 = some ad → ad.block ≠ S ∧ v.ownBlock ≠ some ad.block) :
    Calls Try.prog 61 #[.pointer (some ⟨S, 0, none⟩), .slice A1 xs.length c1] w fun e w' => e = .returned (.int .i64 (listP l full xs).1) ∧ (∃ v', SheetV w' N S v' (listP l full xs).2.1 (listP l full xs).2.2 ∧ ∀ k, v'.ownBlock = some k → v.ownBlock = some k ∨ w.heap.size ≤ k) ∧ KeepV w w' S v ∧ Below N w w' := by
  have hF_a : Fence.wide.fn 95 := trivial
  have hF_b : Fence.wide.fn 96 := trivial
  have hF_c : Fence.wide.fn 97 := trivial
  have hF_d : Fence.wide.fn 108 := trivial
  by_cases h0 : xs.length = 0
  · have hnm := fun (W : World) (h : SheetV W N S v l full) (h2 : N ≤ W.heap.size) => impl_sheet_name.callsV S N v l full 0 W h h2 hl
    have hP : listP l full xs = putT l full ⟨1, 0, 0, 0⟩ := by unfold listP; rw [if_pos h0]
    rw [hP, h0]
    generalize putT l full ⟨1, 0, 0, 0⟩ = r at hnm ⊢
    go_enter Try.func61, Try.ntmps61
    go_wp2_with (go_at_call 95; refine (hnm _ (sheetV_alloc hS _) (Nat.le_trans hN (by simp))).mono ?_; rintro e w' ⟨rfl, hs, hk, hb⟩)
    go_ret
    refine ⟨rfl, ?_, ?_, ((Below.refl N w).alloc hN _).trans hb⟩
    · obtain ⟨v', hv, ho⟩ := hs
      exact ⟨v', hv, fun k hk => (ho k hk).imp id (fun h => by simp at h; omega)⟩
    · exact fun b h1 h2 h3 => (hk b (by simp; omega) h2 h3).trans ((below_alloc (Below.refl _ _) _).block b h1)
  · obtain ⟨m, hm⟩ : ∃ m, xs.length = m + 1 := ⟨xs.length - 1, by omega⟩
    obtain ⟨ad, e, hx0⟩ := Kd.at_int hr1 (m : Int) (by omega) (by omega)
    subst e
    rw [Int.toNat_natCast] at hx0
    have hmx : m ≤ 9223372036854775807 := by have := hr1.2.1; omega
    generalize hx : rd xs (m : Int) = x at hx0
    rw [hm]
    refine (callsIn_wide (n := 6)).1 ?_
    refine callsIn_of_wp_marks Try.func61 rfl trivial ?_ rfl
    simp only [Try.ntmps61, List.size_toArray, List.length_cons, List.length_nil, Nat.reduceAdd, Nat.reduceSub, Array.replicate_succ, Array.replicate_zero, List.push_toArray, List.append_toArray, List.nil_append, List.cons_append]
    have hw1 : wrap64 (((m + 1 : Nat) : Int) - 1) = (m : Int) := by unfold wrap64; omega
    have hadl := World.block_lt_of_cell? w _ hx0
    gi_wp2_with (gi_at_call 96; refine (callsIn_wide.2 (backward_in _ _ _ _)).mono ?_; rintro e w' ⟨rfl, rfl⟩)
    obtain ⟨hadS, hadV⟩ := hfar (by omega) ad rfl
    have hSl := blk_lt hS.1
    obtain ⟨W0, hW0⟩ : ∃ W0, ((w.alloc (.cells #[.pointer (some ⟨S, 0, none⟩)] 79)).alloc (.cells #[.int .i64 x] 2)).alloc (.cells #[.slice (some ad) m c1] 33) = W0 := ⟨_, rfl⟩
    have hb0 : Below w.heap.size w W0 := by rw [← hW0]; exact below_alloc (below_alloc (below_alloc (Below.refl _ _) _) _) _
    have hz0 : W0.heap.size = w.heap.size + 3 := by rw [← hW0]; simp
    have k2 : W0.heap[w.heap.size]? = some (.cells #[.pointer (some ⟨S, 0, none⟩)] 79 (0, 0)) := by
      rw [← hW0]; exact blk_alloc (blk_alloc Array.getElem?_push_size _) _
    have k6 : W0.heap[w.heap.size + 1]? = some (.cells #[.int .i64 x] 2 (0, 0)) := by
      have h : ((w.alloc (.cells #[.pointer (some ⟨S, 0, none⟩)] 79)).alloc (.cells #[.int .i64 x] 2)).heap[w.heap.size + 1]? = some (.cells #[.int .i64 x] 2 (0, 0)) := by
        have := Array.getElem?_push_size (xs := (w.alloc (.cells #[.pointer (some ⟨S, 0, none⟩)] 79)).heap) (x := Obj.cells #[.int .i64 x] 2 (0, 0))
        rw [show (w.alloc (.cells #[.pointer (some ⟨S, 0, none⟩)] 79)).heap.size = w.heap.size + 1 by simp] at this
        exact this
      rw [← hW0]; exact blk_alloc h _
    have kB : W0.cell? ⟨w.heap.size + 1 + 1, 0, none⟩ = some (.slice (some ad) m c1) := by
      have h : W0.heap[w.heap.size + 1 + 1]? = some (.cells #[.slice (some ad) m c1] 33 (0, 0)) := by
        have := Array.getElem?_push_size (xs := ((w.alloc (.cells #[.pointer (some ⟨S, 0, none⟩)] 79)).alloc (.cells #[.int .i64 x] 2)).heap) (x := Obj.cells #[.slice (some ad) m c1] 33 (0, 0))
        rw [show ((w.alloc (.cells #[.pointer (some ⟨S, 0, none⟩)] 79)).alloc (.cells #[.int .i64 x] 2)).heap.size = w.heap.size + 1 + 1 by simp] at this
        rw [← hW0]; exact this
      exact (blk_cell h 0).trans rfl
    obtain ⟨zs, hzs⟩ : ∃ zs, zs = xs.take m := ⟨_, rfl⟩
    have hzl : zs.length = m := by rw [hzs, List.length_take]; omega
    have hcz : ∀ j, j < zs.length → W0.cell? (ad.add j) = some (.int .i64 (zs[j]?.getD 0)) := by
      intro j hj
      obtain ⟨ad2, e2, hx2⟩ := Kd.at_int hr1 (j : Int) (by omega) (by omega)
      obtain rfl : ad = ad2 := by injection e2
      rw [Int.toNat_natCast] at hx2
      have e3 : zs[j]?.getD 0 = rd xs (j : Int) := by rw [hzs, List.getElem?_take, if_pos (by omega)]; simp [rd, List.getD]
      rw [e3]
      exact (hb0.cell (World.block_lt_of_cell? w _ hx2)).trans hx2
    rw [hW0]
    have kB' : W0.cell? ⟨w.heap.size + 1 + 1, 0, none⟩ = some (.slice (some ad) zs.length c1) := by rw [hzl]; exact kB
    have hadw : ad.block < w.heap.size := by rw [add_block_] at hadl; exact hadl
    refine wpIn_rangeFunc_ownG (F := Fence.wide) (n := 6) rfl (by omega) (gf := 108) (lb := #[.pointer (some ⟨w.heap.size + 1 + 1, 0, none⟩)]) rfl trivial (enters_of Try.func108 (by kernel_rfl) rfl)
      (backward_stops 5 (by omega) (w.heap.size + 1 + 1) c1 ad zs (by omega) W0 kB' (by omega) hcz)
      (fun h1 h2 => ⟨h2.1.trans h1.1, h2.2.trans h1.2⟩) (fun W l' o o' hl' _ _ _ => ⟨World.putObj_heap_other (by omega), World.putObj_heap_other (by omega)⟩) (Below.refl _ _) (fun _ => rfl)
      (fun (pre : List (Int × Int)) W => ListI N S w.heap.size ad.block v ((pre.map Prod.snd).foldl pairT (x, l, full)) w W)
      (fun _ _ _ => False)
      (listI_own N S w.heap.size ad.block W0.heap.size v (by omega) (by omega) (by omega) (fun (pre : List (Int × Int)) => (pre.map Prod.snd).foldl pairT (x, l, full)) w (by omega))
      (fun _ _ _ _ _ hs _ _ => hs)
      ⟨v, k2, k6, sheetV_below hS hb0, hl, fun k hk => by obtain ⟨_, hi⟩ := Kd.R_own hS.2.2; have hlt := own_lt hi k hk; exact ⟨by omega, by omega, by omega, fun e => hadV (e ▸ hk)⟩, by omega, fun b h1 _ _ => hb0.block b h1, fun k hk => .inl hk, hb0.mono hN⟩
      (fun x' => { tmps := #[.pointer (some ⟨S, 0, none⟩), .slice (some ad) (m + 1) c1, .pointer (some ⟨w.heap.size, 0, none⟩), undef, .int .i64 0, .int .i64 m, .pointer (some ⟨w.heap.size + 1, 0, none⟩), undef, .int .i64 x'.2, .slice (some ad) (m + 1) c1, .int .i64 ((m : Int) + 1), .bool false, undef, undef, .slice (some ad) (m + 1) c1, .int .i64 ((m : Int) + 1), .int .i64 m, .slice (some ad) (m + 1) c1, .int .i64 m, .pointer (some (ad.add m)), .int .i64 x, .slice (some ad) (m + 1) c1, .int .i64 m, .slice (some ad) m c1, .func (.func 108) #[] #[.pointer (some ⟨w.heap.size + 1 + 1, 0, none⟩)], .int .i64 x'.1, .int .i64 x'.2, undef, undef, undef, undef, undef], defers := [] }) ?assign ?body ?done ?stop
    case assign =>
      intro l' x' W K hK
      gi_wp2
      exact hK
    case body =>
      rintro l' pre x' W ⟨v', q2, q6, hSV, hlen, hown, hsz, hkp, hov, hB⟩ hlt
      have hst : ((pre ++ [x']).map Prod.snd).foldl pairT (x, l, full) = pairT ((pre.map Prod.snd).foldl pairT (x, l, full)) x'.2 := by simp
      generalize (pre.map Prod.snd).foldl pairT (x, l, full) = st at q2 q6 hSV hlen hst
      have c2 : W.cell? ⟨w.heap.size, 0, none⟩ = some (.pointer (some ⟨S, 0, none⟩)) := (blk_cell q2 0).trans rfl
      have c6 : W.cell? ⟨w.heap.size + 1, 0, none⟩ = some (.int .i64 st.1) := (blk_cell q6 0).trans rfl
      have hpr := impl_sheet_pair.callsV S N v' st.2.1 st.2.2 x'.2 st.1 W hSV (by omega) hlen
      have hpT : putT st.2.1 st.2.2 ⟨3, x'.2, st.1, 0⟩ = pairT st x'.2 := rfl
      rw [hpT] at hpr
      have hlen2 : (pairT st x'.2).2.1.length ≤ 400 := putT_len hlen
      generalize pairT st x'.2 = st2 at hpr hlen2 hst
      gi_wp2_with (gi_at_call 97; refine (CallsIn.inRound l' (callsIn_wide.2 hpr)).mono ?_; rintro e W2 ⟨rfl, hs2, hk2, hb2⟩; have d6 : W2.cell? ⟨w.heap.size + 1, 0, none⟩ = some (.int .i64 st.1) := (cell_block_ (hk2 (w.heap.size + 1) (by omega) (by omega) (fun e => (hown _ e).2.1 rfl))).trans c6; have d6f : W2.frozen? ⟨w.heap.size + 1, 0, none⟩ = false := blk_frozen ((hk2 (w.heap.size + 1) (by omega) (by omega) (fun e => (hown _ e).2.1 rfl)).trans q6) 0)
      obtain ⟨v2, hSV2, hown2⟩ := hs2
      have e2 := (hk2 w.heap.size (by omega) (by omega) (fun e => (hown _ e).1 rfl)).trans q2
      have e6 := (hk2 (w.heap.size + 1) (by omega) (by omega) (fun e => (hown _ e).2.1 rfl)).trans q6
      refine ⟨?_, ?_, ?_⟩
      rotate_left 2
      · show ListI N S w.heap.size ad.block v (((pre ++ [x']).map Prod.snd).foldl pairT (x, l, full)) w _
        rw [hst]
        refine ⟨v2, ?_, ?_, ?_, hlen2, ?_, ?_, ?_, ?_, ?_⟩
        · exact (Below.heap_setCell W2 ⟨w.heap.size + 1, 0, none⟩ _ _ (by simp)).trans e2
        · exact blk_put e6 0 _ rfl
        · exact ⟨(Below.heap_setCell W2 ⟨w.heap.size + 1, 0, none⟩ _ _ (by simp; omega)).trans hSV2.1, hSV2.2.1, Kd.R_mono (Kd.R_far (Kd.R_mono (R_and hSV2.2.2 (fun k hk => show k ≠ w.heap.size + 1 by rcases hown2 k hk with h | h; exact (hown k h).2.1; omega)) (fun k hk => hk)) (p := ⟨w.heap.size + 1, 0, none⟩) (fun k hk => hk.2) _) (fun k hk => hk.1)⟩
        · intro k hk
          rcases hown2 k hk with h | h
          · exact hown k h
          · exact ⟨by omega, by omega, by omega, by omega⟩
        · simp; have := hb2.size; omega
        · intro b h1 h2 h3
          refine (Below.heap_setCell W2 ⟨w.heap.size + 1, 0, none⟩ _ _ (by simp; omega)).trans ((hk2 b (by omega) h2 (fun e => ?_)).trans (hkp b h1 h2 h3))
          rcases hov b e with h | h
          · exact h3 h
          · omega
        · intro k hk
          rcases hown2 k hk with h | h
          · exact hov k h
          · exact .inr (by omega)
        · exact (hB.trans hb2).setCell (p := ⟨w.heap.size + 1, 0, none⟩) (by simp; omega) _
      · exact ((keepsOthers_put hSV hk2 hb2.size).trans (KeepsOthers.setCell _ _ _)).from _
      · exact ⟨(Below.heap_setCell W2 ⟨w.heap.size + 1, 0, none⟩ _ _ (by simp)).trans (hk2 _ (by omega) (by omega) (fun e => (hown _ e).2.2.1 rfl)), (Below.heap_setCell W2 ⟨w.heap.size + 1, 0, none⟩ _ _ (by simp; omega)).trans (hk2 _ (by omega) hadS (fun e => (hown _ e).2.2.2 rfl))⟩
    case done =>
      rintro D ys W hD rfl ⟨v', q2, q6, hSV, hlen, hown, hsz, hkp, hov, hB⟩ hK
      have hlp : listP l full xs = ((backTo zs zs.length).map Prod.snd).foldl pairT (x, l, full) := by
        unfold listP
        rw [if_neg h0, hm, Nat.add_sub_cancel, ← hzs, hzl]
        have : xs[m]?.getD 0 = x := by rw [← hx]; simp [rd, List.getD]
        rw [this]
      obtain ⟨st, hst⟩ : ∃ st, st = ((backTo zs zs.length).map Prod.snd).foldl pairT (x, l, full) := ⟨_, rfl⟩
      rw [← hst] at hlp q6 hSV hlen
      clear hst
      have c6 : W.cell? ⟨w.heap.size + 1, 0, none⟩ = some (.int .i64 st.1) := (blk_cell q6 0).trans rfl
      gi_wp2
      refine ⟨by simp, .inl ⟨_, _, rfl, run_takeDeferred hK, ?_⟩⟩
      rw [hlp]
      refine ⟨_, results_tmp rfl _ _ _, rfl, ⟨v', ?_, hov⟩, ?_, ?_⟩
      · have hDS : S ≠ D := by omega
        exact ⟨(World.putObj_heap_other hDS).trans hSV.1, hSV.2.1, Kd.R_mono (R_putObj hSV.2.2 hK rfl) (fun k hk => hk)⟩
      · exact fun b h1 h2 h3 => (World.putObj_heap_other (by omega)).trans (hkp b h1 h2 h3)
      · exact hB.trans (belowK_b (w := w) hN W D _ _ (by omega) hK rfl rfl)
    case stop =>
      rintro D c pre W _ _ h _
      exact h.elim
end
theorem fold_len : ∀ (ys : List Int) (st : Int × List S26 × Bool), st.2.1.length ≤ 400 → (ys.foldl pairT st).2.1.length ≤ 400
  | [], _, h => h
  | y :: ys, st, h => fold_len ys (pairT st y) (putT_len h)
theorem listP_len {l : List S26} {full : Bool} {xs : List Int} (hl : l.length ≤ 400) : (listP l full xs).2.1.length ≤ 400 := by
  unfold listP
  split
  · exact putT_len hl
  · exact fold_len _ _ hl
theorem impl_sheet_list.callsE {N S : Nat} {w0 w : World} {l : List S26} {full : Bool} (A1 : Option Addr) (c1 : Nat) (xs : List Int) (n : Nat) (r : Int × List S26 × Bool) (h : SE 107 N S w0 w l (.bool full)) (hl : l.length ≤ 400) (hn : xs.length = n) (hC : Kd.C (Kd.int .i64) w A1 xs.length xs) (hc : xs.length ≤ c1) (hf : FarT 107 N w A1 xs.length) (hr : listP l full xs = r) :
    Calls Try.prog 61 #[.pointer (some ⟨S, 0, none⟩), .slice A1 n c1] w fun e w' => e = .returned (.int .i64 r.1) ∧ SE 107 N S w0 w' r.2.1 (.bool r.2.2) ∧ KeepT 107 N w w' := by
  subst hr
  subst hn
  refine SE.call h (fun v hv => (impl_sheet_list.callsV S N v l full A1 c1 xs w hv hv.size hl hC hc (fun h0 ad e => ?_)).mono (fun e w' ⟨h1, h2⟩ => ⟨h1, se_of_V hv h2⟩))
  obtain ⟨_, ho⟩ := Kd.R_own hv.2.2
  rcases hf h0 ad e with hlt | ⟨cs, q, h4, h5, h6⟩
  · exact ⟨by have := hv.2.1; omega, fun e2 => by have := own_base ho _ e2; omega⟩
  · refine ⟨fun e2 => ?_, fun e2 => ?_⟩
    · rw [e2, hv.1] at h4
      injection h4 with h4
      injection h4 with _ h4
      exact h5 h4.symm
    · obtain ⟨cells, hcc⟩ := own_typed ho _ e2
      rw [hcc] at h4
      injection h4 with h4
      injection h4 with _ h4
      exact h6 h4.symm
end Go.Proofs.Ytomaeijhljpgdaa.G
namespace Go.Proofs.Ytomaeijhljpgdaa.G
open Go.RowKit Go.Proofs.YtomaeijhljpgdaaW.PrintWords Go.Proofs.YtomaeijhljpgdaaW.PrintLast Go.Proofs.YtomaeijhljpgdaaW.PrintMore
attribute [local go_sem] max2_int min2_int max_two min_two max_three min_three max_four min_four   -- for this text's walks alone
set_option linter.unusedVariables false
set_option linter.unusedSimpArgs false
def nameP (st : List Int × List S26 × Bool) (n : Int) : List Int × List S26 × Bool := (st.1 ++ [(putT st.2.1 st.2.2 ⟨1, 0, 0, n⟩).1], (putT st.2.1 st.2.2 ⟨1, 0, 0, n⟩).2)
def namesL (l : List S26) (full : Bool) (ns : List Int) : List Int × List S26 × Bool := ns.foldl nameP ([], l, full)
def namesT (l : List S26) (full : Bool) (ns : List Int) : Int × List S26 × Bool := listP (namesL l full ns).2.1 (namesL l full ns).2.2 (namesL l full ns).1
theorem namesF_len : ∀ (ns : List Int) (st : List Int × List S26 × Bool), st.2.1.length ≤ 400 → (ns.foldl nameP st).2.1.length ≤ 400
  | [], _, h => h
  | n :: ns, st, h => namesF_len ns (nameP st n) (putT_len h)
theorem namesF_one : ∀ (ns : List Int) (st : List Int × List S26 × Bool), (ns.foldl nameP st).1.length = st.1.length + ns.length
  | [], _ => by simp
  | n :: ns, st => by
    rw [List.foldl_cons, namesF_one ns]
    simp [nameP]
    omega
theorem namesT_len {l : List S26} {full : Bool} {ns : List Int} (hl : l.length ≤ 400) : (namesT l full ns).2.1.length ≤ 400 := listP_len (namesF_len _ _ hl)
theorem namesL_take (l : List S26) (full : Bool) (ns : List Int) (k : Nat) (h : k < ns.length) : namesL l full (ns.take (k + 1)) = nameP (namesL l full (ns.take k)) (rd ns (k : Int)) := by
  have e : ns.take (k + 1) = ns.take k ++ [rd ns (k : Int)] := by
    rw [List.take_succ_eq_append_getElem h]
    simp [rd, List.getD, List.getElem?_eq_getElem h]
  unfold namesL
  rw [e, List.foldl_append]
  rfl
theorem reps_ints {w : World} {base : Nat} {ok : Nat → Prop} : ∀ xs : List Int, Reps ((Kd.int .i64).M w base ok) (Kd.int .i64).sz xs (xs.map (Value.int .i64))
  | xs => ⟨by simp [Kd.int, Kd.scalar], fun j p h => by
    obtain ⟨hj, rfl⟩ := List.getElem?_eq_some_iff.1 h
    show ((xs.map (Value.int .i64)).drop (j * 1)).take 1 = [Value.int .i64 xs[j]]
    rw [Nat.mul_one, List.drop_eq_getElem_cons (by simpa using hj)]
    simp⟩
theorem far_row {T N : Nat} {w : World} {α : Type} {d : Kd α} {e base n c : Nat} {ok : Nat → Prop} {A : Option Addr} {xs : List α} (h : d.R e w base ok (.slice A n c) xs) (h1 : e ≠ T) (h2 : e ≠ 26) : FarT T N w A xs.length := fun _ ad he => by
  obtain ⟨_, hi⟩ := Kd.R_own h
  subst he
  obtain ⟨cells, hc⟩ := own_typed hi ad.block (by simp [Value.ownBlock])
  exact .inr ⟨cells, e, hc, h1, h2⟩
set_option maxHeartbeats 4000000 in
set_option maxRecDepth 100000 in
theorem impl_sheet_names.callsE {N S : Nat} {w0 w : World} {l : List S26} {full : Bool} (A1 : Option Addr) (c1 : Nat) (ns : List Int) (n : Nat) (r : Int × List S26 × Bool) (h : SE 107 N S w0 w l (.bool full)) (hl : l.length ≤ 400) (hn : ns.length = n) (hC : Kd.C (Kd.int .i64) w A1 ns.length ns) (hc : ns.length ≤ c1) (hf : FarT 107 N w A1 ns.length) (hm : ns.length ≤ 1000000000) (hr : namesT l full ns = r) :
    Calls Try.prog 71 #[.pointer (some ⟨S, 0, none⟩), .slice A1 n c1] w fun e w' => e = .returned (.int .i64 r.1) ∧ SE 107 N S w0 w' r.2.1 (.bool r.2.2) ∧ KeepT 107 N w w' := by
  subst hn
  refine SE.call h (fun v hv => ?_)
  have HS := Aside0.mk (SE.start hv)
  have HL := Aside0.mk hl
  have HN := Aside0.mk hv.size
  have HC := Aside0.mk hC
  have HC1 := Aside0.mk hc
  have HF := Aside0.mk hf
  have HM := Aside0.mk hm
  have HR := Aside0.mk hr
  clear h hv hl hC hc hf hm hr
  go_enter Try.func71, Try.ntmps71
  go_wp2_with (first | ((with_reducible refine gate_dst (N := 8) rfl ?_); refine Kd.R_lit (Kd.int .i64) _ 2 ?hg (N := 8) ?hd (xs := ([] : List Int)) (inner := []) (ok := fun _ => True) (okp := fun _ => True) ?hr ?hp (fun _ hk => hk) trivial (Below.refl _ _) (Nat.le_refl _) (by simp) ?_; (case hd => rfl); (case hg => rfl); (case hr => first | (go_simp; done) | (go_simp; rfl)); (case hp => exact (Reps.none _ _)); intro v1 w1 ho hb hg hn; clear hg hn; obtain ⟨AP, cP, eP⟩ := Kd.R_slice ho; subst eP; have HP := Aside0.mk (Kd.R_lower ho HS.out.2.1.1); have n0_ := Aside0.mk (HS.out.below hb); clear HS ho hb; have HS := n0_; clear n0_))
  go_loopg [5, 11] ns.length (fun kq v5 v11 w' => ∃ kk : Nat, kk + kq = ns.length ∧ v11 = .int .i64 kk ∧ Aside0 (Kd.R (Kd.int .i64) 2 w' w.heap.size (fun _ => True) v5 (namesL l full (ns.take kk)).1) ∧ Aside0 (SE 107 N S w w' (namesL l full (ns.take kk)).2.1 (.bool (namesL l full (ns.take kk)).2.2)))
  case atStart => exact ⟨0, by omega, rfl, by simpa [namesL] using HP, by simpa [namesL] using HS⟩
  case round =>
    clear HP HS
    obtain ⟨kk, hkk, rfl, HO, HS⟩ := hrel
    have hlen : (namesL l full (ns.take kk)).1.length = kk := by
      unfold namesL
      rw [namesF_one, List.length_take]
      simp
      omega
    have hl2 : (namesL l full (ns.take kk)).2.1.length ≤ 400 := namesF_len _ _ HL.out
    have HCw := Aside0.mk (C_keepT HC.out HS.out.2.1 HF.out)
    by_cases hlt : kk < ns.length
    · have HT := Aside0.mk (namesL_take l full ns kk hlt)
      obtain ⟨st, hst⟩ : ∃ st, st = namesL l full (ns.take kk) := ⟨_, rfl⟩
      rw [← hst] at HO HS HT hlen hl2
      have HLEN := Aside0.mk hlen
      have HL2 := Aside0.mk hl2
      clear hst hlen hl2
      obtain ⟨ad, e, hx⟩ := Kd.at_int HCw.out (kk : Int) (by omega) (by omega)
      subst e
      rw [Int.toNat_natCast] at hx
      obtain ⟨x, hxx⟩ : ∃ x, x = rd ns (kk : Int) := ⟨_, rfl⟩
      rw [← hxx] at hx HT
      have HW := Aside0.mk (show wrap64 ((kk : Int) + 1) = ((kk + 1 : Nat) : Int) by have := HM.out; unfold wrap64; omega)
      obtain ⟨q, hq⟩ : ∃ q, putT st.2.1 st.2.2 ⟨1, 0, 0, x⟩ = q := ⟨_, rfl⟩
      have HQ := Aside0.mk hq
      have d1 : decide ((kk : Int) < (ns.length : Int)) = true := decide_eq_true (by omega)
      have p1 : 0 ≤ (kk : Int) := by omega
      have p2 : (kk : Int) < (ns.length : Int) := by omega
      replace p1 := eq_true p1
      replace p2 := eq_true p2
      clear hq hxx
      go_wp2_with (first | (go_at_call 95; refine (impl_sheet_name.callsE x q HS.out HL2.out HQ.out).mono ?_; rintro e w' ⟨rfl, hs, hk⟩; have k0_ := Aside0.mk (R_keepT HO.out hk (by decide)); clear HS HO; have HO := k0_; have HS := Aside0.mk hs; clear hs hk k0_) | ((with_reducible refine gate_builtin (b := .append) (xs := #[.tmp 15, .tmp 19]) rfl ?_); at_builtin; refine Kd.R_append (Kd.int .i64) w.heap.size rfl (.tmp 15) (.tmp 19) 33 2 (.int .i64 0) 8 rfl Try.underlying33 info2 rfl (by decide) (by omega) u5 st.1 q.1 [.int .i64 q.1] (fun _ => True) (fun _ => False) rfl rfl ?aP (fun _ hk => hk.elim) ?aF ?aO (Below.refl _ _) ?aS ?aL ?_; (case aP => exact rfl); (case aF => exact (fun _ _ => trivial)); (case aO => exact (by (with_reducible repeat (first | apply Kd.R_alloc | apply Kd.R_drewN | apply Kd.R_drew)); exact HO.out)); (case aS => exact HS.out.2.1.1); (case aL => have := HLEN.out; have := HM.out; omega); intro v513 w11 ho hb hg hat; have n0_ := Aside0.mk (SE.grown HS.out hg HN.out (fun b e => by obtain ⟨_, hi⟩ := Kd.R_own HO.out; obtain ⟨cells, hc⟩ := own_typed hi b e; exact ⟨own_base hi b e, cells, _, hc, by decide, by decide⟩)); clear HS HO hb hg hat; have HS := n0_; have HO := Aside0.mk ho; clear n0_ ho))
      go_roundg (gk - 1)
      case measure => omega
      case rel =>
        refine ⟨kk + 1, by omega, by rw [HW.out], ?_, ?_⟩
        · rw [HT.out]; unfold nameP; rw [HQ.out]; exact HO
        · rw [HT.out]; unfold nameP; rw [HQ.out]; exact HS
    · have hkl : kk = ns.length := by omega
      have hR : listP (namesL l full ns).2.1 (namesL l full ns).2.2 (namesL l full ns).1 = r := HR.out
      rw [hkl, List.take_of_length_le (Nat.le_refl _)] at HO HS hl2
      generalize namesL l full ns = st at HO HS hl2 hR
      have HL2 := Aside0.mk hl2
      have HR2 := Aside0.mk hR
      have d1 : decide ((kk : Int) < (ns.length : Int)) = false := decide_eq_false (by omega)
      obtain ⟨A5, c5, e5⟩ := Kd.R_slice HO.out
      subst e5
      clear hlen hR hl2
      go_wp2_with (first | (go_at_call 61; refine (impl_sheet_list.callsE A5 c5 st.1 _ r HS.out HL2.out rfl (Kd.R_reads' HO.out).2.2 (Kd.R_reads' HO.out).2.1 (far_row HO.out (by decide) (by decide)) HR2.out).mono ?_; rintro e w' ⟨rfl, hs, hk⟩; clear HS; have HS := Aside0.mk hs; clear hs hk))
      go_ret
      exact ⟨rfl, HS.out⟩
theorem R_not_ {w : World} {b g : Nat} {p : Nat → Prop} {v : Value} {l : List S26} (h : k26.R 26 w b p v l) (hp : ∀ k, v.ownBlock = some k → k ≠ g) : k26.R 26 w b (fun k => p k ∧ k ≠ g) v l := by
  obtain ⟨h0, inner, hown, hr⟩ := h
  exact ⟨fun k hk => ⟨h0 k hk, hp k hk⟩, inner, hown, hr.imp_ (fun x cs hm => by obtain rfl := k26_openM hm; exact k26_mkM _ _ _ _)⟩
theorem SE.far {Q N S : Nat} {w0 w : World} {x : Value} {l : List S26} {g q : Nat} {cs : Array Value} (h : SE Q N S w0 w l x) (hb : w.heap[g]? = some (.cells cs q (0, 0))) (h1 : q ≠ Q) (h2 : q ≠ 26) (h0 : w0.heap.size ≤ g) (hN : N ≤ g) (j : Nat) (u : Value) : SE Q N S w0 (w.setCell ⟨g, j, none⟩ u) l x := by
  obtain ⟨⟨v, hv⟩, hk, hB⟩ := h
  have hne : S ≠ g := fun e => by
    rw [← e, hv.1] at hb
    injection hb with hb
    injection hb with _ hb
    exact h1 hb.symm
  refine ⟨⟨v, blk_far hv.1 (p := ⟨g, j, none⟩) hne u, hv.2.1, Kd.R_mono (Kd.R_far (p := ⟨g, j, none⟩) (R_not_ hv.2.2 (fun k hk e => (Kd.R_ne hv.2.2 hb h2.symm) (by have e2 : k = g := e; rw [← e2]; exact hk.symm))) (fun k hk => hk.2) u) (fun _ hk => hk.1)⟩, hk.set (p := ⟨g, j, none⟩) h0 u, hB.setCell (p := ⟨g, j, none⟩) hN u⟩
theorem st_below {Q N S : Nat} {w W : World} {v x : Value} {l : List S26} (h : StV Q w N S v x l) (hb : Below w.heap.size w W) : StV Q W N S v x l := ⟨blk_below h.1 hb, h.2.1, Kd.R_below h.2.2 hb⟩
theorem st_drew {Q N S : Nat} {w : World} {v x : Value} {l : List S26} (h : StV Q w N S v x l) : StV Q w.drew N S v x l := ⟨blk_drew h.1, h.2.1, Kd.R_drew h.2.2⟩
theorem st_far {Q N S g q : Nat} {w : World} {v x : Value} {l : List S26} {cs : Array Value} (h : StV Q w N S v x l) (hb : w.heap[g]? = some (.cells cs q (0, 0))) (h1 : q ≠ Q) (h2 : q ≠ 26) (j : Nat) (u : Value) : StV Q (w.setCell ⟨g, j, none⟩ u) N S v x l := by
  have hne : S ≠ g := fun e => by
    rw [← e, h.1] at hb
    injection hb with hb
    injection hb with _ hb
    exact h1 hb.symm
  exact ⟨blk_far h.1 (p := ⟨g, j, none⟩) hne u, h.2.1, Kd.R_mono (Kd.R_far (p := ⟨g, j, none⟩) (R_not_ h.2.2 (fun k hk e => (Kd.R_ne h.2.2 hb h2.symm) (by have e2 : k = g := e; rw [← e2]; exact hk.symm))) (fun k hk => hk.2) u) (fun _ hk => hk.1)⟩
end Go.Proofs.Ytomaeijhljpgdaa.G
namespace Go.Proofs.Ytomaeijhljpgdaa.G
open Go.RowKit Go.Proofs.YtomaeijhljpgdaaW.PrintWords Go.Proofs.YtomaeijhljpgdaaW.PrintLast Go.Proofs.YtomaeijhljpgdaaW.PrintMore
attribute [local go_sem] max2_int min2_int max_two min_two max_three min_three max_four min_four   -- for this text's walks alone
set_option linter.unusedVariables false
set_option linter.unusedSimpArgs false
def spec_TermsFault.l0 : Nat → List (S26) → Int → Option (Int)
 | 0, _, _ => none
 | k + 1, x0, x3 => if x3 < (x0.length : Int) then (if 0 ≤ x3 then (if x3 ≤ (x0.length : Int) then ((spec_l5Term.f k (x0.take (x3 : Int).toNat) ((rd_T26 x0 x3).f0) ((rd_T26 x0 x3).f1) ((rd_T26 x0 x3).f2) ((rd_T26 x0 x3).f3)).bind fun t285 => (if t285 = 0 then ((spec_l5Find.f k (x0.take (x3 : Int).toNat) ((rd_T26 x0 x3).f0) ((rd_T26 x0 x3).f1) ((rd_T26 x0 x3).f2) ((rd_T26 x0 x3).f3)).bind fun t291 => (if t291 ≥ 0 then (some 7) else (spec_TermsFault.l0 k x0 (wrap64 (x3 + 1))))) else (some t285))) else (none)) else (none)) else (some 0)
def spec_TermsFault.f (k : Nat) (l0 : List (S26)) : Option (Int) := if (l0.length : Int) > 400 then (some 2) else (spec_TermsFault.l0 k l0 0)
def spec_TermsFault.T6 : Bool × List (List Nat × List Nat) := (true, [([], []), ([], []), ([0, 1], [0, 1]), ([], []), ([], []), ([3, 4], [3, 4]), ([5], [5]), ([2, 6], [2, 6]), ([7, 7, 0, 1, 2, 3, 4, 5, 6, 7], [7])])
def spec_TermsFault.B6 : List Nat := [0, 0, 3, 0, 0, 24, 56, 127, 255]
theorem spec_TermsFault.tab6 : rtab .any (opsOf Try.f57 6) = spec_TermsFault.T6 := by kernel_rfl
theorem spec_TermsFault.bits6 : waitsOk spec_TermsFault.T6.2 spec_TermsFault.B6 = true := by kernel_rfl
def spec_TermsFault.T9 : Bool × List (List Nat × List Nat) := (true, [([], []), ([], []), ([0, 1], [0, 1]), ([], []), ([], []), ([3, 4], [3, 4]), ([5], [5]), ([2, 6], [2, 6]), ([7], [7])])
def spec_TermsFault.B9 : List Nat := [0, 0, 3, 0, 0, 24, 56, 127, 255]
theorem spec_TermsFault.tab9 : rtab .any (opsOf Try.f57 9) = spec_TermsFault.T9 := by kernel_rfl
theorem spec_TermsFault.bits9 : waitsOk spec_TermsFault.T9.2 spec_TermsFault.B9 = true := by kernel_rfl
set_option maxHeartbeats 8000000 in
set_option maxRecDepth 100000 in
theorem spec_TermsFault.calls (k : Nat) (A0 : Option Addr) (c0 : Nat) (l0 : List (S26)) (r : Int) (w : World) (hr0 : Kd.C k26 w A0 l0.length l0) (hc0 : l0.length ≤ c0) (h : spec_TermsFault.f k l0 = some r) :
  Calls Try.prog 57 #[.slice A0 l0.length c0] w fun e w' => e = .returned (.int .i64 r) ∧ Below w.heap.size w w' := by
 have hu26 := Try.underlying26
 have HR0 := Aside0.mk hr0
 have HC0 := Aside0.mk hc0
 clear hr0 hc0
 have HB := Aside0.mk (Below.refl w.heap.size w)
 have H : (if (l0.length : Int) > 400 then (some 2) else (spec_TermsFault.l0 k l0 0)) = some r := h
 clear h
 by_cases c2 : (l0.length : Int) > 400
 ·rw [if_pos c2] at H
  have c2b0 : decide (400 < (l0.length : Int)) = true := decide_eq_true c2
  have c2b1 : decide (400 < l0.length) = true := decide_eq_true (by omega)
  clear c2
  obtain rfl := Option.some.inj H
  go_enter Try.func57, Try.ntmps57
  go_wp2
  go_ret
  exact ⟨by first | rfl | (simp [errW_none, errW_some] <;> rfl) | (simp [*, errW_none, errW_some] <;> rfl), by repeat (first | (with_reducible first | exact HB.out | apply below_alloc | apply pw_below_drewN | apply below_drew1) | exact HB.out)⟩
 ·rw [if_neg c2] at H
  have c2b0 : decide (400 < (l0.length : Int)) = false := decide_eq_false c2
  have c2b1 : decide (400 < l0.length) = false := decide_eq_false (by omega)
  clear c2
  have H' := Aside0.mk H
  clear H
  go_enter Try.func57, Try.ntmps57
  go_wp2
  go_loopg [3] k (fun kq v3 w' => ∃ (x3_1 : Int), v3 = .int .i64 x3_1 ∧ Aside0 (spec_TermsFault.l0 kq l0 x3_1 = some r) ∧ Aside0 (kq ≤ k) ∧ Aside0 (Below w.heap.size w w'))
  case atStart => exact ⟨(0), (by first | rfl | (simp; done) | (simp [*]; done)), H', ⟨Nat.le_refl _⟩, ⟨by repeat (first | (with_reducible first | exact HB.out | apply below_alloc | apply pw_below_drewN | apply below_drew1) | exact HB.out)⟩⟩
  case round =>
   clear H'
   try clear c2
   try clear c2b0
   try clear c2b1
   try clear p2
   obtain ⟨x3_1, rfl, HA, HK1, HB⟩ := hrel
   cases gk with
   | zero => exact absurd HA.out (by simp [spec_TermsFault.l0])
   | succ k1 =>
    have H := HA.out
    clear HA
    simp only [spec_TermsFault.l0] at H
    by_cases c3 : x3_1 < (l0.length : Int)
    ·rw [if_pos c3] at H
     have c3b0 : decide (x3_1 < (l0.length : Int)) = true := decide_eq_true c3
     clear c3
     by_cases c4 : 0 ≤ x3_1
     ·rw [if_pos c4] at H
      have c4b0 := eq_true c4
      have c4b1 : decide (0 ≤ x3_1) = true := decide_eq_true c4
      clear c4
      by_cases c5 : x3_1 ≤ (l0.length : Int)
      ·rw [if_pos c5] at H
       have c5b0 := eq_true c5
       have c5b1 : decide (x3_1 ≤ (l0.length : Int)) = true := decide_eq_true c5
       clear c5
       obtain ⟨y280, hy280⟩ : ∃ y_ : List (S26), y_ = (l0.take (x3_1 : Int).toNat) := ⟨_, rfl⟩
       replace H : ((spec_l5Term.f k1 y280 ((rd_T26 l0 x3_1).f0) ((rd_T26 l0 x3_1).f1) ((rd_T26 l0 x3_1).f2) ((rd_T26 l0 x3_1).f3)).bind fun t285 => (if t285 = 0 then ((spec_l5Find.f k1 (l0.take (x3_1 : Int).toNat) ((rd_T26 l0 x3_1).f0) ((rd_T26 l0 x3_1).f1) ((rd_T26 l0 x3_1).f2) ((rd_T26 l0 x3_1).f3)).bind fun t291 => (if t291 ≥ 0 then (some 7) else (spec_TermsFault.l0 k1 l0 (wrap64 (x3_1 + 1))))) else (some t285))) = some r := by first | (rw [hy280]; with_reducible exact H) | (have H2_ := (Option.bind_some _ _).symm.trans H; rw [hy280]; with_reducible exact H2_) | (have H2_ := (Option.bind_some _ _).symm.trans H; with_reducible exact H2_) | with_reducible exact H | (rw [hy280]; exact H) | exact H
       have Ny280 := Aside0.mk hy280
       clear hy280
       replace H := Option.bind_eq_some_iff.mp H
       obtain ⟨t285, A60, H⟩ := H
       try dsimp only at H
       have A6 := Aside0.mk A60
       clear A60
       by_cases c7 : t285 = 0
       ·rw [if_pos c7] at H
        have c7b0 : (t285 == 0) = true := beq_iff_eq.mpr c7
        have c7b1 : (t285 != 0) = false := bne_eq_false_iff_eq.mpr c7
        clear c7
        have c8b0 := eq_true (of_decide_eq_true (by first | (with_reducible assumption) | assumption) : 0 ≤ x3_1)
        have c9b0 := eq_true (of_decide_eq_true (by first | (with_reducible assumption) | assumption) : x3_1 ≤ (l0.length : Int))
        obtain ⟨y286, hy286⟩ : ∃ y_ : List (S26), y_ = (l0.take (x3_1 : Int).toNat) := ⟨_, rfl⟩
        replace H : ((spec_l5Find.f k1 y286 ((rd_T26 l0 x3_1).f0) ((rd_T26 l0 x3_1).f1) ((rd_T26 l0 x3_1).f2) ((rd_T26 l0 x3_1).f3)).bind fun t291 => (if t291 ≥ 0 then (some 7) else (spec_TermsFault.l0 k1 l0 (wrap64 (x3_1 + 1))))) = some r := by first | (rw [hy286]; with_reducible exact H) | (have H2_ := (Option.bind_some _ _).symm.trans H; rw [hy286]; with_reducible exact H2_) | (have H2_ := (Option.bind_some _ _).symm.trans H; with_reducible exact H2_) | with_reducible exact H | (rw [hy286]; exact H) | exact H
        have Ny286 := Aside0.mk hy286
        clear hy286
        replace H := Option.bind_eq_some_iff.mp H
        obtain ⟨t291, A100, H⟩ := H
        try dsimp only at H
        have A10 := Aside0.mk A100
        clear A100
        by_cases c11 : t291 ≥ 0
        ·rw [if_pos c11] at H
         have c11b0 : decide (0 ≤ t291) = true := decide_eq_true c11
         clear c11
         obtain rfl := Option.some.inj H
         try go_wp2
         have n0_ := Aside0.mk (below_drew1 HB.out)
         clear HB
         have HB := n0_
         clear n0_
         have q13 : (x3_1 : Int) ≤ ((l0.length : Int) : Int) := of_decide_eq_true (by first | (with_reducible assumption) | assumption)
         obtain ⟨i013, hi013, _, hsz13, _⟩ := info_parts info26
         have hroom13 : l0.length ≤ c0 := HC0.out
         have hC13 : Kd.C k26 _ A0 l0.length l0 := HR0.out
         have hcut13 := cut_to (P := Try.prog) 24 26 .i64 Try.underlying24 hi013 A0 l0.length c0 x3_1 (of_decide_eq_true (by first | (with_reducible assumption) | assumption)) q13 hroom13
         have hr13 := Kd.C_take (m := (x3_1 : Int).toNat) hC13 (by omega)
         have hy13 : y280.length = (x3_1 : Int).toNat := (by rw [Ny280.out, List.length_take]; omega)
         rw [← Ny280.out] at hr13
         rw [← hy13] at hcut13
         have HR283 := Aside0.mk hr13
         have HC283 := Aside0.mk (show y280.length ≤ c0 from by omega)
         clear hr13 hC13 hroom13 hi013 hsz13
         have KY13 := Aside0.mk hy13
         clear hy13
         replace q13 := eq_true q13
         have p284 : 0 ≤ (x3_1 : Int) := of_decide_eq_true (by first | (with_reducible assumption) | assumption)
         have q284 : x3_1 < (l0.length : Int) := of_decide_eq_true (by first | (with_reducible assumption) | assumption)
         obtain ⟨ad284, e284, hx284_0, hx284_1, hx284_2, hx284_3⟩ := at_T26 HR0.out x3_1 p284 q284
         have hw284_3 := hx284_3
         have hw284_2 := hx284_2
         have hw284_1 := hx284_1
         have hw284_0 := hx284_0
         cases e284
         replace hx284_0 := (HB.out.cell (World.block_lt_of_cell? w _ hx284_0)).trans hx284_0
         replace hx284_1 := (HB.out.cell (World.block_lt_of_cell? w _ hx284_1)).trans hx284_1
         replace hx284_2 := (HB.out.cell (World.block_lt_of_cell? w _ hx284_2)).trans hx284_2
         replace hx284_3 := (HB.out.cell (World.block_lt_of_cell? w _ hx284_3)).trans hx284_3
         replace p284 := eq_true p284
         replace q284 := eq_true q284
         refine start_ (n := 9) (S := fun w' => w'.cell? (ad284.add ((x3_1).toNat * 4)) = some (.int .i64 ((rd_T26 l0 x3_1).f0)) ∧ w'.cell? ⟨(ad284.add ((x3_1).toNat * 4)).block, (ad284.add ((x3_1).toNat * 4)).off + 1, none⟩ = some (.int .i64 ((rd_T26 l0 x3_1).f1)) ∧ w'.cell? ⟨(ad284.add ((x3_1).toNat * 4)).block, (ad284.add ((x3_1).toNat * 4)).off + 2, none⟩ = some (.int .i64 ((rd_T26 l0 x3_1).f2)) ∧ w'.cell? ⟨(ad284.add ((x3_1).toNat * 4)).block, (ad284.add ((x3_1).toNat * 4)).off + 3, none⟩ = some (.int .i64 ((rd_T26 l0 x3_1).f3))) (ds := []) #[false, false, false, false, false, false, false, false, false] (by kernel_rfl) rfl rfl ⟨((HB.out.cell (World.block_lt_of_cell? w _ hw284_0)).trans hw284_0), ((HB.out.cell (World.block_lt_of_cell? w _ hw284_1)).trans hw284_1), ((HB.out.cell (World.block_lt_of_cell? w _ hw284_2)).trans hw284_2), ((HB.out.cell (World.block_lt_of_cell? w _ hw284_3)).trans hw284_3)⟩ (fun hHeld => ?_); refine with_tabW spec_TermsFault.tab6 spec_TermsFault.bits6 (fun HT_ HW_ => ?_)
         generalize wr.drew = w12 at HB HR283 hx284_0 hx284_1 hx284_2 hx284_3 hHeld ⊢
         refine pure_ (i := 0) (N := some 14) (v := ?_) (a' := ?_) #[true, false, false, false, false, false, false, false, false] rfl rfl (any_of HT_.out (by kernel_rfl)) (fun _ _ _ h => h) (Or.inl ⟨by rfl, ?_⟩) ?_ ?_
         rotate_left
         ·intro w'
          go_simp
          with_reducible rfl
         rotate_left
         ·simp only [Act.put, lA_, lZ_, lS_, i64_w, i32_w]
          rfl
         refine pure_ (i := 1) (N := some 15) (v := ?_) (a' := ?_) #[true, true, false, false, false, false, false, false, false] rfl rfl (any_of HT_.out (by kernel_rfl)) (fun _ _ _ h => h) (Or.inl ⟨by rfl, ?_⟩) ?_ ?_
         rotate_left
         ·intro w'
          go_simp
          with_reducible rfl
         rotate_left
         ·simp only [Act.put, lA_, lZ_, lS_, i64_w, i32_w]
          rfl
         refine pure_ (i := 2) (N := some 16) (v := ?_) (a' := ?_) #[true, true, true, false, false, false, false, false, false] rfl rfl (any_of HT_.out (by kernel_rfl)) (fun _ _ _ h => h) (Or.inl ⟨by rfl, ?_⟩) ?_ ?_
         rotate_left
         ·intro w'
          go_simp
          with_reducible rfl
         rotate_left
         ·simp only [Act.put, lA_, lZ_, lS_, i64_w, i32_w]
          rfl
         refine pure_ (i := 3) (N := some 17) (v := ?_) (a' := ?_) #[true, true, true, true, false, false, false, false, false] rfl rfl (any_of HT_.out (by kernel_rfl)) (fun _ _ _ h => h) (Or.inl ⟨by rfl, ?_⟩) ?_ ?_
         rotate_left
         ·intro w'
          go_simp
          with_reducible rfl
         rotate_left
         ·simp only [Act.put, lA_, lZ_, lS_, i64_w, i32_w]
          rfl
         refine pure_ (i := 4) (N := some 18) (v := ?_) (a' := ?_) #[true, true, true, true, true, false, false, false, false] rfl rfl (any_of HT_.out (by kernel_rfl)) (fun _ _ _ h => h) (Or.inl ⟨by rfl, ?_⟩) ?_ ?_
         rotate_left
         ·intro w'
          go_simp
          with_reducible rfl
         rotate_left
         ·simp only [Act.put, lA_, lZ_, lS_, i64_w, i32_w]
          rfl
         refine pure_ (i := 5) (N := some 19) (v := ?_) (a' := ?_) #[true, true, true, true, true, true, false, false, false] rfl rfl (any_of HT_.out (by kernel_rfl)) (fun _ _ _ h => h) (Or.inl ⟨by rfl, ?_⟩) ?_ ?_
         rotate_left
         ·intro w'
          go_simp
          with_reducible rfl
         rotate_left
         ·simp only [Act.put, lA_, lZ_, lS_, i64_w, i32_w]
          rfl
         refine take_ (i := 6) (N := some 20) (v := ?_) (a' := ?_) #[true, true, true, true, true, true, true, false, false] rfl rfl (take_ofW HT_.out HW_.out (by kernel_rfl)) (fun _ _ _ h => h) (Or.inl ⟨by rfl, ?_⟩) hHeld ?_ ?_
         rotate_left
         ·rintro w' ⟨s0, s1, s2, s3⟩
          go_simp
          with_reducible rfl
         rotate_left
         ·simp only [Act.put, lA_, lZ_, lS_, i64_w, i32_w]
          rfl
         refine one_ (i := 7) (N := some 21) #[true, true, true, true, true, true, true, true, false] rfl rfl (one_of HT_.out (by kernel_rfl)) (by decide) (fun K hK => ?_)
         refine goes_ Try.func92 (by kernel_rfl) rfl #[.slice (some ad284) y280.length c0, .agg #[.int .i64 ((rd_T26 l0 x3_1).f0), .int .i64 ((rd_T26 l0 x3_1).f1), .int .i64 ((rd_T26 l0 x3_1).f2), .int .i64 ((rd_T26 l0 x3_1).f3)]] (by rfl) rfl rfl (by (try simp only [List.map_toArray, List.map_cons, List.map_nil]); first | done | rfl | (simp only [List.length_drop, List.length_take]; rfl)) ?_
         with_reducible refine (spec_l5Term.calls k1 _ _ y280 ((rd_T26 l0 x3_1).f0) ((rd_T26 l0 x3_1).f1) ((rd_T26 l0 x3_1).f2) ((rd_T26 l0 x3_1).f3) t285 _ ?side1 ?side2 A6.out).mono ?_
         (case side1 => repeat (first | exact (Kd.C_below HR283.out HB.out) | (with_reducible refine Kd.C_alloc ?_ _) | (with_reducible refine Kd.C_drewN ?_ _) | (with_reducible refine Kd.C_drew ?_)))
         (case side2 => exact HC283.out)
         rintro e w14 ⟨rfl, hb⟩
         refine ⟨_, rfl, ?_⟩
         have n0_ := Aside0.mk (below_step (by repeat (first | (with_reducible first | exact HB.out | apply below_alloc | apply pw_below_drewN | apply below_drew1) | exact HB.out)) hb)
         clear HB
         have HB := n0_
         clear n0_
         (try clear hb)
         (try clear hb2)
         (try clear hk)
         (try clear hi)
         refine hK.out _ _ ⟨((HB.out.cell (World.block_lt_of_cell? w _ hw284_0)).trans hw284_0), ((HB.out.cell (World.block_lt_of_cell? w _ hw284_1)).trans hw284_1), ((HB.out.cell (World.block_lt_of_cell? w _ hw284_2)).trans hw284_2), ((HB.out.cell (World.block_lt_of_cell? w _ hw284_3)).trans hw284_3)⟩ (fun hHeld => ?_)
         clear hK K
         refine norm_ (a' := ?_) ?_ ?_
         rotate_left
         ·show Act.put _ (some 21) _ = _
          simp only [Act.put, lA_, lZ_, lS_, i64_w, i32_w]
          rfl
         refine pure_ (i := 8) (N := some 4) (v := ?_) (a' := ?_) #[true, true, true, true, true, true, true, true, true] rfl rfl (any_of HT_.out (by kernel_rfl)) (fun _ _ _ h => h) (Or.inl ⟨by rfl, ?_⟩) ?_ ?_
         rotate_left
         ·intro w'
          go_simp
          with_reducible rfl
         rotate_left
         ·simp only [Act.put, lA_, lZ_, lS_, i64_w, i32_w]
          rfl
         refine done_ (done_of HT_.out (by kernel_rfl)) ?_
         try go_wp2
         have n0_ := Aside0.mk (below_drew1 HB.out)
         clear HB
         have HB := n0_
         clear n0_
         have q16 : (x3_1 : Int) ≤ ((l0.length : Int) : Int) := of_decide_eq_true (by first | (with_reducible assumption) | assumption)
         obtain ⟨i016, hi016, _, hsz16, _⟩ := info_parts info26
         have hroom16 : l0.length ≤ c0 := HC0.out
         have hC16 : Kd.C k26 _ (some ad284) l0.length l0 := HR0.out
         try clear hcut13
         have hcut16 := cut_to (P := Try.prog) 24 26 .i64 Try.underlying24 hi016 (some ad284) l0.length c0 x3_1 (of_decide_eq_true (by first | (with_reducible assumption) | assumption)) q16 hroom16
         have hr16 := Kd.C_take (m := (x3_1 : Int).toNat) hC16 (by omega)
         have hy16 : y286.length = (x3_1 : Int).toNat := (by rw [Ny286.out, List.length_take]; omega)
         rw [← Ny286.out] at hr16
         rw [← hy16] at hcut16
         have HR289 := Aside0.mk hr16
         have HC289 := Aside0.mk (show y286.length ≤ c0 from by omega)
         clear hr16 hC16 hroom16 hi016 hsz16
         have KY16 := Aside0.mk hy16
         clear hy16
         replace q16 := eq_true q16
         have p290 : 0 ≤ (x3_1 : Int) := of_decide_eq_true (by first | (with_reducible assumption) | assumption)
         have q290 : x3_1 < (l0.length : Int) := of_decide_eq_true (by first | (with_reducible assumption) | assumption)
         obtain ⟨ad290, e290, hx290_0, hx290_1, hx290_2, hx290_3⟩ := at_T26 HR0.out x3_1 p290 q290
         have hw290_3 := hx290_3
         have hw290_2 := hx290_2
         have hw290_1 := hx290_1
         have hw290_0 := hx290_0
         obtain rfl : ad284 = ad290 := (by injection e290)
         replace hx290_0 := (HB.out.cell (World.block_lt_of_cell? w _ hx290_0)).trans hx290_0
         replace hx290_1 := (HB.out.cell (World.block_lt_of_cell? w _ hx290_1)).trans hx290_1
         replace hx290_2 := (HB.out.cell (World.block_lt_of_cell? w _ hx290_2)).trans hx290_2
         replace hx290_3 := (HB.out.cell (World.block_lt_of_cell? w _ hx290_3)).trans hx290_3
         replace p290 := eq_true p290
         replace q290 := eq_true q290
         refine start_ (n := 9) (S := fun w' => w'.cell? (ad284.add ((x3_1).toNat * 4)) = some (.int .i64 ((rd_T26 l0 x3_1).f0)) ∧ w'.cell? ⟨(ad284.add ((x3_1).toNat * 4)).block, (ad284.add ((x3_1).toNat * 4)).off + 1, none⟩ = some (.int .i64 ((rd_T26 l0 x3_1).f1)) ∧ w'.cell? ⟨(ad284.add ((x3_1).toNat * 4)).block, (ad284.add ((x3_1).toNat * 4)).off + 2, none⟩ = some (.int .i64 ((rd_T26 l0 x3_1).f2)) ∧ w'.cell? ⟨(ad284.add ((x3_1).toNat * 4)).block, (ad284.add ((x3_1).toNat * 4)).off + 3, none⟩ = some (.int .i64 ((rd_T26 l0 x3_1).f3))) (ds := []) #[false, false, false, false, false, false, false, false, false] (by kernel_rfl) rfl rfl ⟨((HB.out.cell (World.block_lt_of_cell? w _ hw290_0)).trans hw290_0), ((HB.out.cell (World.block_lt_of_cell? w _ hw290_1)).trans hw290_1), ((HB.out.cell (World.block_lt_of_cell? w _ hw290_2)).trans hw290_2), ((HB.out.cell (World.block_lt_of_cell? w _ hw290_3)).trans hw290_3)⟩ (fun hHeld => ?_); refine with_tabW spec_TermsFault.tab9 spec_TermsFault.bits9 (fun HT_ HW_ => ?_)
         generalize w14.drew = w15 at HB HR289 hx290_0 hx290_1 hx290_2 hx290_3 hHeld ⊢
         refine pure_ (i := 0) (N := some 25) (v := ?_) (a' := ?_) #[true, false, false, false, false, false, false, false, false] rfl rfl (any_of HT_.out (by kernel_rfl)) (fun _ _ _ h => h) (Or.inl ⟨by rfl, ?_⟩) ?_ ?_
         rotate_left
         ·intro w'
          go_simp
          with_reducible rfl
         rotate_left
         ·simp only [Act.put, lA_, lZ_, lS_, i64_w, i32_w]
          rfl
         refine pure_ (i := 1) (N := some 26) (v := ?_) (a' := ?_) #[true, true, false, false, false, false, false, false, false] rfl rfl (any_of HT_.out (by kernel_rfl)) (fun _ _ _ h => h) (Or.inl ⟨by rfl, ?_⟩) ?_ ?_
         rotate_left
         ·intro w'
          go_simp
          with_reducible rfl
         rotate_left
         ·simp only [Act.put, lA_, lZ_, lS_, i64_w, i32_w]
          rfl
         refine pure_ (i := 2) (N := some 27) (v := ?_) (a' := ?_) #[true, true, true, false, false, false, false, false, false] rfl rfl (any_of HT_.out (by kernel_rfl)) (fun _ _ _ h => h) (Or.inl ⟨by rfl, ?_⟩) ?_ ?_
         rotate_left
         ·intro w'
          go_simp
          with_reducible rfl
         rotate_left
         ·simp only [Act.put, lA_, lZ_, lS_, i64_w, i32_w]
          rfl
         refine pure_ (i := 3) (N := some 28) (v := ?_) (a' := ?_) #[true, true, true, true, false, false, false, false, false] rfl rfl (any_of HT_.out (by kernel_rfl)) (fun _ _ _ h => h) (Or.inl ⟨by rfl, ?_⟩) ?_ ?_
         rotate_left
         ·intro w'
          go_simp
          with_reducible rfl
         rotate_left
         ·simp only [Act.put, lA_, lZ_, lS_, i64_w, i32_w]
          rfl
         refine pure_ (i := 4) (N := some 29) (v := ?_) (a' := ?_) #[true, true, true, true, true, false, false, false, false] rfl rfl (any_of HT_.out (by kernel_rfl)) (fun _ _ _ h => h) (Or.inl ⟨by rfl, ?_⟩) ?_ ?_
         rotate_left
         ·intro w'
          go_simp
          with_reducible rfl
         rotate_left
         ·simp only [Act.put, lA_, lZ_, lS_, i64_w, i32_w]
          rfl
         refine pure_ (i := 5) (N := some 30) (v := ?_) (a' := ?_) #[true, true, true, true, true, true, false, false, false] rfl rfl (any_of HT_.out (by kernel_rfl)) (fun _ _ _ h => h) (Or.inl ⟨by rfl, ?_⟩) ?_ ?_
         rotate_left
         ·intro w'
          go_simp
          with_reducible rfl
         rotate_left
         ·simp only [Act.put, lA_, lZ_, lS_, i64_w, i32_w]
          rfl
         refine take_ (i := 6) (N := some 31) (v := ?_) (a' := ?_) #[true, true, true, true, true, true, true, false, false] rfl rfl (take_ofW HT_.out HW_.out (by kernel_rfl)) (fun _ _ _ h => h) (Or.inl ⟨by rfl, ?_⟩) hHeld ?_ ?_
         rotate_left
         ·rintro w' ⟨s0, s1, s2, s3⟩
          go_simp
          with_reducible rfl
         rotate_left
         ·simp only [Act.put, lA_, lZ_, lS_, i64_w, i32_w]
          rfl
         refine one_ (i := 7) (N := some 32) #[true, true, true, true, true, true, true, true, false] rfl rfl (one_of HT_.out (by kernel_rfl)) (by decide) (fun K hK => ?_)
         refine goes_ Try.func93 (by kernel_rfl) rfl #[.slice (some ad284) y286.length c0, .agg #[.int .i64 ((rd_T26 l0 x3_1).f0), .int .i64 ((rd_T26 l0 x3_1).f1), .int .i64 ((rd_T26 l0 x3_1).f2), .int .i64 ((rd_T26 l0 x3_1).f3)]] (by rfl) rfl rfl (by (try simp only [List.map_toArray, List.map_cons, List.map_nil]); first | done | rfl | (simp only [List.length_drop, List.length_take]; rfl)) ?_
         with_reducible refine (spec_l5Find.calls k1 _ _ y286 ((rd_T26 l0 x3_1).f0) ((rd_T26 l0 x3_1).f1) ((rd_T26 l0 x3_1).f2) ((rd_T26 l0 x3_1).f3) t291 _ ?side1 ?side2 A10.out).mono ?_
         (case side1 => repeat (first | exact (Kd.C_below HR289.out HB.out) | (with_reducible refine Kd.C_alloc ?_ _) | (with_reducible refine Kd.C_drewN ?_ _) | (with_reducible refine Kd.C_drew ?_)))
         (case side2 => exact HC289.out)
         rintro e w17 ⟨rfl, hb⟩
         refine ⟨_, rfl, ?_⟩
         have n0_ := Aside0.mk (below_step (by repeat (first | (with_reducible first | exact HB.out | apply below_alloc | apply pw_below_drewN | apply below_drew1) | exact HB.out)) hb)
         clear HB
         have HB := n0_
         clear n0_
         (try clear hb)
         (try clear hb2)
         (try clear hk)
         (try clear hi)
         refine hK.out _ _ ⟨((HB.out.cell (World.block_lt_of_cell? w _ hw290_0)).trans hw290_0), ((HB.out.cell (World.block_lt_of_cell? w _ hw290_1)).trans hw290_1), ((HB.out.cell (World.block_lt_of_cell? w _ hw290_2)).trans hw290_2), ((HB.out.cell (World.block_lt_of_cell? w _ hw290_3)).trans hw290_3)⟩ (fun hHeld => ?_)
         clear hK K
         refine norm_ (a' := ?_) ?_ ?_
         rotate_left
         ·show Act.put _ (some 32) _ = _
          simp only [Act.put, lA_, lZ_, lS_, i64_w, i32_w]
          rfl
         refine pure_ (i := 8) (N := some 33) (v := ?_) (a' := ?_) #[true, true, true, true, true, true, true, true, true] rfl rfl (any_of HT_.out (by kernel_rfl)) (fun _ _ _ h => h) (Or.inl ⟨by rfl, ?_⟩) ?_ ?_
         rotate_left
         ·intro w'
          go_simp
          with_reducible rfl
         rotate_left
         ·simp only [Act.put, lA_, lZ_, lS_, i64_w, i32_w]
          rfl
         refine done_ (done_of HT_.out (by kernel_rfl)) ?_
         try go_wp2
         go_ret
         exact ⟨by first | rfl | (simp [errW_none, errW_some] <;> rfl) | (simp [*, errW_none, errW_some] <;> rfl), by repeat (first | (with_reducible first | exact HB.out | apply below_alloc | apply pw_below_drewN | apply below_drew1) | exact HB.out)⟩
        ·rw [if_neg c11] at H
         have c11b0 : decide (0 ≤ t291) = false := decide_eq_false c11
         clear c11
         have H' := Aside0.mk H
         clear H
         try go_wp2
         have n0_ := Aside0.mk (below_drew1 HB.out)
         clear HB
         have HB := n0_
         clear n0_
         have q19 : (x3_1 : Int) ≤ ((l0.length : Int) : Int) := of_decide_eq_true (by first | (with_reducible assumption) | assumption)
         obtain ⟨i019, hi019, _, hsz19, _⟩ := info_parts info26
         have hroom19 : l0.length ≤ c0 := HC0.out
         have hC19 : Kd.C k26 _ A0 l0.length l0 := HR0.out
         try clear hcut13
         try clear hcut16
         have hcut19 := cut_to (P := Try.prog) 24 26 .i64 Try.underlying24 hi019 A0 l0.length c0 x3_1 (of_decide_eq_true (by first | (with_reducible assumption) | assumption)) q19 hroom19
         have hr19 := Kd.C_take (m := (x3_1 : Int).toNat) hC19 (by omega)
         have hy19 : y280.length = (x3_1 : Int).toNat := (by rw [Ny280.out, List.length_take]; omega)
         rw [← Ny280.out] at hr19
         rw [← hy19] at hcut19
         have HR283 := Aside0.mk hr19
         have HC283 := Aside0.mk (show y280.length ≤ c0 from by omega)
         clear hr19 hC19 hroom19 hi019 hsz19
         have KY19 := Aside0.mk hy19
         clear hy19
         replace q19 := eq_true q19
         have p284 : 0 ≤ (x3_1 : Int) := of_decide_eq_true (by first | (with_reducible assumption) | assumption)
         have q284 : x3_1 < (l0.length : Int) := of_decide_eq_true (by first | (with_reducible assumption) | assumption)
         obtain ⟨ad284, e284, hx284_0, hx284_1, hx284_2, hx284_3⟩ := at_T26 HR0.out x3_1 p284 q284
         have hw284_3 := hx284_3
         have hw284_2 := hx284_2
         have hw284_1 := hx284_1
         have hw284_0 := hx284_0
         cases e284
         replace hx284_0 := (HB.out.cell (World.block_lt_of_cell? w _ hx284_0)).trans hx284_0
         replace hx284_1 := (HB.out.cell (World.block_lt_of_cell? w _ hx284_1)).trans hx284_1
         replace hx284_2 := (HB.out.cell (World.block_lt_of_cell? w _ hx284_2)).trans hx284_2
         replace hx284_3 := (HB.out.cell (World.block_lt_of_cell? w _ hx284_3)).trans hx284_3
         replace p284 := eq_true p284
         replace q284 := eq_true q284
         refine start_ (n := 9) (S := fun w' => w'.cell? (ad284.add ((x3_1).toNat * 4)) = some (.int .i64 ((rd_T26 l0 x3_1).f0)) ∧ w'.cell? ⟨(ad284.add ((x3_1).toNat * 4)).block, (ad284.add ((x3_1).toNat * 4)).off + 1, none⟩ = some (.int .i64 ((rd_T26 l0 x3_1).f1)) ∧ w'.cell? ⟨(ad284.add ((x3_1).toNat * 4)).block, (ad284.add ((x3_1).toNat * 4)).off + 2, none⟩ = some (.int .i64 ((rd_T26 l0 x3_1).f2)) ∧ w'.cell? ⟨(ad284.add ((x3_1).toNat * 4)).block, (ad284.add ((x3_1).toNat * 4)).off + 3, none⟩ = some (.int .i64 ((rd_T26 l0 x3_1).f3))) (ds := []) #[false, false, false, false, false, false, false, false, false] (by kernel_rfl) rfl rfl ⟨((HB.out.cell (World.block_lt_of_cell? w _ hw284_0)).trans hw284_0), ((HB.out.cell (World.block_lt_of_cell? w _ hw284_1)).trans hw284_1), ((HB.out.cell (World.block_lt_of_cell? w _ hw284_2)).trans hw284_2), ((HB.out.cell (World.block_lt_of_cell? w _ hw284_3)).trans hw284_3)⟩ (fun hHeld => ?_); refine with_tabW spec_TermsFault.tab6 spec_TermsFault.bits6 (fun HT_ HW_ => ?_)
         generalize wr.drew = w18 at HB HR283 hx284_0 hx284_1 hx284_2 hx284_3 hHeld ⊢
         refine pure_ (i := 0) (N := some 14) (v := ?_) (a' := ?_) #[true, false, false, false, false, false, false, false, false] rfl rfl (any_of HT_.out (by kernel_rfl)) (fun _ _ _ h => h) (Or.inl ⟨by rfl, ?_⟩) ?_ ?_
         rotate_left
         ·intro w'
          go_simp
          with_reducible rfl
         rotate_left
         ·simp only [Act.put, lA_, lZ_, lS_, i64_w, i32_w]
          rfl
         refine pure_ (i := 1) (N := some 15) (v := ?_) (a' := ?_) #[true, true, false, false, false, false, false, false, false] rfl rfl (any_of HT_.out (by kernel_rfl)) (fun _ _ _ h => h) (Or.inl ⟨by rfl, ?_⟩) ?_ ?_
         rotate_left
         ·intro w'
          go_simp
          with_reducible rfl
         rotate_left
         ·simp only [Act.put, lA_, lZ_, lS_, i64_w, i32_w]
          rfl
         refine pure_ (i := 2) (N := some 16) (v := ?_) (a' := ?_) #[true, true, true, false, false, false, false, false, false] rfl rfl (any_of HT_.out (by kernel_rfl)) (fun _ _ _ h => h) (Or.inl ⟨by rfl, ?_⟩) ?_ ?_
         rotate_left
         ·intro w'
          go_simp
          with_reducible rfl
         rotate_left
         ·simp only [Act.put, lA_, lZ_, lS_, i64_w, i32_w]
          rfl
         refine pure_ (i := 3) (N := some 17) (v := ?_) (a' := ?_) #[true, true, true, true, false, false, false, false, false] rfl rfl (any_of HT_.out (by kernel_rfl)) (fun _ _ _ h => h) (Or.inl ⟨by rfl, ?_⟩) ?_ ?_
         rotate_left
         ·intro w'
          go_simp
          with_reducible rfl
         rotate_left
         ·simp only [Act.put, lA_, lZ_, lS_, i64_w, i32_w]
          rfl
         refine pure_ (i := 4) (N := some 18) (v := ?_) (a' := ?_) #[true, true, true, true, true, false, false, false, false] rfl rfl (any_of HT_.out (by kernel_rfl)) (fun _ _ _ h => h) (Or.inl ⟨by rfl, ?_⟩) ?_ ?_
         rotate_left
         ·intro w'
          go_simp
          with_reducible rfl
         rotate_left
         ·simp only [Act.put, lA_, lZ_, lS_, i64_w, i32_w]
          rfl
         refine pure_ (i := 5) (N := some 19) (v := ?_) (a' := ?_) #[true, true, true, true, true, true, false, false, false] rfl rfl (any_of HT_.out (by kernel_rfl)) (fun _ _ _ h => h) (Or.inl ⟨by rfl, ?_⟩) ?_ ?_
         rotate_left
         ·intro w'
          go_simp
          with_reducible rfl
         rotate_left
         ·simp only [Act.put, lA_, lZ_, lS_, i64_w, i32_w]
          rfl
         refine take_ (i := 6) (N := some 20) (v := ?_) (a' := ?_) #[true, true, true, true, true, true, true, false, false] rfl rfl (take_ofW HT_.out HW_.out (by kernel_rfl)) (fun _ _ _ h => h) (Or.inl ⟨by rfl, ?_⟩) hHeld ?_ ?_
         rotate_left
         ·rintro w' ⟨s0, s1, s2, s3⟩
          go_simp
          with_reducible rfl
         rotate_left
         ·simp only [Act.put, lA_, lZ_, lS_, i64_w, i32_w]
          rfl
         refine one_ (i := 7) (N := some 21) #[true, true, true, true, true, true, true, true, false] rfl rfl (one_of HT_.out (by kernel_rfl)) (by decide) (fun K hK => ?_)
         refine goes_ Try.func92 (by kernel_rfl) rfl #[.slice (some ad284) y280.length c0, .agg #[.int .i64 ((rd_T26 l0 x3_1).f0), .int .i64 ((rd_T26 l0 x3_1).f1), .int .i64 ((rd_T26 l0 x3_1).f2), .int .i64 ((rd_T26 l0 x3_1).f3)]] (by rfl) rfl rfl (by (try simp only [List.map_toArray, List.map_cons, List.map_nil]); first | done | rfl | (simp only [List.length_drop, List.length_take]; rfl)) ?_
         with_reducible refine (spec_l5Term.calls k1 _ _ y280 ((rd_T26 l0 x3_1).f0) ((rd_T26 l0 x3_1).f1) ((rd_T26 l0 x3_1).f2) ((rd_T26 l0 x3_1).f3) t285 _ ?side1 ?side2 A6.out).mono ?_
         (case side1 => repeat (first | exact (Kd.C_below HR283.out HB.out) | (with_reducible refine Kd.C_alloc ?_ _) | (with_reducible refine Kd.C_drewN ?_ _) | (with_reducible refine Kd.C_drew ?_)))
         (case side2 => exact HC283.out)
         rintro e w20 ⟨rfl, hb⟩
         refine ⟨_, rfl, ?_⟩
         have n0_ := Aside0.mk (below_step (by repeat (first | (with_reducible first | exact HB.out | apply below_alloc | apply pw_below_drewN | apply below_drew1) | exact HB.out)) hb)
         clear HB
         have HB := n0_
         clear n0_
         (try clear hb)
         (try clear hb2)
         (try clear hk)
         (try clear hi)
         refine hK.out _ _ ⟨((HB.out.cell (World.block_lt_of_cell? w _ hw284_0)).trans hw284_0), ((HB.out.cell (World.block_lt_of_cell? w _ hw284_1)).trans hw284_1), ((HB.out.cell (World.block_lt_of_cell? w _ hw284_2)).trans hw284_2), ((HB.out.cell (World.block_lt_of_cell? w _ hw284_3)).trans hw284_3)⟩ (fun hHeld => ?_)
         clear hK K
         refine norm_ (a' := ?_) ?_ ?_
         rotate_left
         ·show Act.put _ (some 21) _ = _
          simp only [Act.put, lA_, lZ_, lS_, i64_w, i32_w]
          rfl
         refine pure_ (i := 8) (N := some 4) (v := ?_) (a' := ?_) #[true, true, true, true, true, true, true, true, true] rfl rfl (any_of HT_.out (by kernel_rfl)) (fun _ _ _ h => h) (Or.inl ⟨by rfl, ?_⟩) ?_ ?_
         rotate_left
         ·intro w'
          go_simp
          with_reducible rfl
         rotate_left
         ·simp only [Act.put, lA_, lZ_, lS_, i64_w, i32_w]
          rfl
         refine done_ (done_of HT_.out (by kernel_rfl)) ?_
         try go_wp2
         have n0_ := Aside0.mk (below_drew1 HB.out)
         clear HB
         have HB := n0_
         clear n0_
         have q22 : (x3_1 : Int) ≤ ((l0.length : Int) : Int) := of_decide_eq_true (by first | (with_reducible assumption) | assumption)
         obtain ⟨i022, hi022, _, hsz22, _⟩ := info_parts info26
         have hroom22 : l0.length ≤ c0 := HC0.out
         have hC22 : Kd.C k26 _ (some ad284) l0.length l0 := HR0.out
         try clear hcut13
         try clear hcut16
         try clear hcut19
         have hcut22 := cut_to (P := Try.prog) 24 26 .i64 Try.underlying24 hi022 (some ad284) l0.length c0 x3_1 (of_decide_eq_true (by first | (with_reducible assumption) | assumption)) q22 hroom22
         have hr22 := Kd.C_take (m := (x3_1 : Int).toNat) hC22 (by omega)
         have hy22 : y286.length = (x3_1 : Int).toNat := (by rw [Ny286.out, List.length_take]; omega)
         rw [← Ny286.out] at hr22
         rw [← hy22] at hcut22
         have HR289 := Aside0.mk hr22
         have HC289 := Aside0.mk (show y286.length ≤ c0 from by omega)
         clear hr22 hC22 hroom22 hi022 hsz22
         have KY22 := Aside0.mk hy22
         clear hy22
         replace q22 := eq_true q22
         have p290 : 0 ≤ (x3_1 : Int) := of_decide_eq_true (by first | (with_reducible assumption) | assumption)
         have q290 : x3_1 < (l0.length : Int) := of_decide_eq_true (by first | (with_reducible assumption) | assumption)
         obtain ⟨ad290, e290, hx290_0, hx290_1, hx290_2, hx290_3⟩ := at_T26 HR0.out x3_1 p290 q290
         have hw290_3 := hx290_3
         have hw290_2 := hx290_2
         have hw290_1 := hx290_1
         have hw290_0 := hx290_0
         obtain rfl : ad284 = ad290 := (by injection e290)
         replace hx290_0 := (HB.out.cell (World.block_lt_of_cell? w _ hx290_0)).trans hx290_0
         replace hx290_1 := (HB.out.cell (World.block_lt_of_cell? w _ hx290_1)).trans hx290_1
         replace hx290_2 := (HB.out.cell (World.block_lt_of_cell? w _ hx290_2)).trans hx290_2
         replace hx290_3 := (HB.out.cell (World.block_lt_of_cell? w _ hx290_3)).trans hx290_3
         replace p290 := eq_true p290
         replace q290 := eq_true q290
         refine start_ (n := 9) (S := fun w' => w'.cell? (ad284.add ((x3_1).toNat * 4)) = some (.int .i64 ((rd_T26 l0 x3_1).f0)) ∧ w'.cell? ⟨(ad284.add ((x3_1).toNat * 4)).block, (ad284.add ((x3_1).toNat * 4)).off + 1, none⟩ = some (.int .i64 ((rd_T26 l0 x3_1).f1)) ∧ w'.cell? ⟨(ad284.add ((x3_1).toNat * 4)).block, (ad284.add ((x3_1).toNat * 4)).off + 2, none⟩ = some (.int .i64 ((rd_T26 l0 x3_1).f2)) ∧ w'.cell? ⟨(ad284.add ((x3_1).toNat * 4)).block, (ad284.add ((x3_1).toNat * 4)).off + 3, none⟩ = some (.int .i64 ((rd_T26 l0 x3_1).f3))) (ds := []) #[false, false, false, false, false, false, false, false, false] (by kernel_rfl) rfl rfl ⟨((HB.out.cell (World.block_lt_of_cell? w _ hw290_0)).trans hw290_0), ((HB.out.cell (World.block_lt_of_cell? w _ hw290_1)).trans hw290_1), ((HB.out.cell (World.block_lt_of_cell? w _ hw290_2)).trans hw290_2), ((HB.out.cell (World.block_lt_of_cell? w _ hw290_3)).trans hw290_3)⟩ (fun hHeld => ?_); refine with_tabW spec_TermsFault.tab9 spec_TermsFault.bits9 (fun HT_ HW_ => ?_)
         generalize w20.drew = w21 at HB HR289 hx290_0 hx290_1 hx290_2 hx290_3 hHeld ⊢
         refine pure_ (i := 0) (N := some 25) (v := ?_) (a' := ?_) #[true, false, false, false, false, false, false, false, false] rfl rfl (any_of HT_.out (by kernel_rfl)) (fun _ _ _ h => h) (Or.inl ⟨by rfl, ?_⟩) ?_ ?_
         rotate_left
         ·intro w'
          go_simp
          with_reducible rfl
         rotate_left
         ·simp only [Act.put, lA_, lZ_, lS_, i64_w, i32_w]
          rfl
         refine pure_ (i := 1) (N := some 26) (v := ?_) (a' := ?_) #[true, true, false, false, false, false, false, false, false] rfl rfl (any_of HT_.out (by kernel_rfl)) (fun _ _ _ h => h) (Or.inl ⟨by rfl, ?_⟩) ?_ ?_
         rotate_left
         ·intro w'
          go_simp
          with_reducible rfl
         rotate_left
         ·simp only [Act.put, lA_, lZ_, lS_, i64_w, i32_w]
          rfl
         refine pure_ (i := 2) (N := some 27) (v := ?_) (a' := ?_) #[true, true, true, false, false, false, false, false, false] rfl rfl (any_of HT_.out (by kernel_rfl)) (fun _ _ _ h => h) (Or.inl ⟨by rfl, ?_⟩) ?_ ?_
         rotate_left
         ·intro w'
          go_simp
          with_reducible rfl
         rotate_left
         ·simp only [Act.put, lA_, lZ_, lS_, i64_w, i32_w]
          rfl
         refine pure_ (i := 3) (N := some 28) (v := ?_) (a' := ?_) #[true, true, true, true, false, false, false, false, false] rfl rfl (any_of HT_.out (by kernel_rfl)) (fun _ _ _ h => h) (Or.inl ⟨by rfl, ?_⟩) ?_ ?_
         rotate_left
         ·intro w'
          go_simp
          with_reducible rfl
         rotate_left
         ·simp only [Act.put, lA_, lZ_, lS_, i64_w, i32_w]
          rfl
         refine pure_ (i := 4) (N := some 29) (v := ?_) (a' := ?_) #[true, true, true, true, true, false, false, false, false] rfl rfl (any_of HT_.out (by kernel_rfl)) (fun _ _ _ h => h) (Or.inl ⟨by rfl, ?_⟩) ?_ ?_
         rotate_left
         ·intro w'
          go_simp
          with_reducible rfl
         rotate_left
         ·simp only [Act.put, lA_, lZ_, lS_, i64_w, i32_w]
          rfl
         refine pure_ (i := 5) (N := some 30) (v := ?_) (a' := ?_) #[true, true, true, true, true, true, false, false, false] rfl rfl (any_of HT_.out (by kernel_rfl)) (fun _ _ _ h => h) (Or.inl ⟨by rfl, ?_⟩) ?_ ?_
         rotate_left
         ·intro w'
          go_simp
          with_reducible rfl
         rotate_left
         ·simp only [Act.put, lA_, lZ_, lS_, i64_w, i32_w]
          rfl
         refine take_ (i := 6) (N := some 31) (v := ?_) (a' := ?_) #[true, true, true, true, true, true, true, false, false] rfl rfl (take_ofW HT_.out HW_.out (by kernel_rfl)) (fun _ _ _ h => h) (Or.inl ⟨by rfl, ?_⟩) hHeld ?_ ?_
         rotate_left
         ·rintro w' ⟨s0, s1, s2, s3⟩
          go_simp
          with_reducible rfl
         rotate_left
         ·simp only [Act.put, lA_, lZ_, lS_, i64_w, i32_w]
          rfl
         refine one_ (i := 7) (N := some 32) #[true, true, true, true, true, true, true, true, false] rfl rfl (one_of HT_.out (by kernel_rfl)) (by decide) (fun K hK => ?_)
         refine goes_ Try.func93 (by kernel_rfl) rfl #[.slice (some ad284) y286.length c0, .agg #[.int .i64 ((rd_T26 l0 x3_1).f0), .int .i64 ((rd_T26 l0 x3_1).f1), .int .i64 ((rd_T26 l0 x3_1).f2), .int .i64 ((rd_T26 l0 x3_1).f3)]] (by rfl) rfl rfl (by (try simp only [List.map_toArray, List.map_cons, List.map_nil]); first | done | rfl | (simp only [List.length_drop, List.length_take]; rfl)) ?_
         with_reducible refine (spec_l5Find.calls k1 _ _ y286 ((rd_T26 l0 x3_1).f0) ((rd_T26 l0 x3_1).f1) ((rd_T26 l0 x3_1).f2) ((rd_T26 l0 x3_1).f3) t291 _ ?side1 ?side2 A10.out).mono ?_
         (case side1 => repeat (first | exact (Kd.C_below HR289.out HB.out) | (with_reducible refine Kd.C_alloc ?_ _) | (with_reducible refine Kd.C_drewN ?_ _) | (with_reducible refine Kd.C_drew ?_)))
         (case side2 => exact HC289.out)
         rintro e w23 ⟨rfl, hb⟩
         refine ⟨_, rfl, ?_⟩
         have n0_ := Aside0.mk (below_step (by repeat (first | (with_reducible first | exact HB.out | apply below_alloc | apply pw_below_drewN | apply below_drew1) | exact HB.out)) hb)
         clear HB
         have HB := n0_
         clear n0_
         (try clear hb)
         (try clear hb2)
         (try clear hk)
         (try clear hi)
         refine hK.out _ _ ⟨((HB.out.cell (World.block_lt_of_cell? w _ hw290_0)).trans hw290_0), ((HB.out.cell (World.block_lt_of_cell? w _ hw290_1)).trans hw290_1), ((HB.out.cell (World.block_lt_of_cell? w _ hw290_2)).trans hw290_2), ((HB.out.cell (World.block_lt_of_cell? w _ hw290_3)).trans hw290_3)⟩ (fun hHeld => ?_)
         clear hK K
         refine norm_ (a' := ?_) ?_ ?_
         rotate_left
         ·show Act.put _ (some 32) _ = _
          simp only [Act.put, lA_, lZ_, lS_, i64_w, i32_w]
          rfl
         refine pure_ (i := 8) (N := some 33) (v := ?_) (a' := ?_) #[true, true, true, true, true, true, true, true, true] rfl rfl (any_of HT_.out (by kernel_rfl)) (fun _ _ _ h => h) (Or.inl ⟨by rfl, ?_⟩) ?_ ?_
         rotate_left
         ·intro w'
          go_simp
          with_reducible rfl
         rotate_left
         ·simp only [Act.put, lA_, lZ_, lS_, i64_w, i32_w]
          rfl
         refine done_ (done_of HT_.out (by kernel_rfl)) ?_
         try go_wp2
         go_roundg k1
         case measure => have := HK1.out; omega
         case rel => exact ⟨(wrap64 (x3_1 + 1)), (by first | rfl | (simp; done) | (simp [*]; done)), H', ⟨by have := HK1.out; omega⟩, ⟨by repeat (first | (with_reducible first | exact HB.out | apply below_alloc | apply pw_below_drewN | apply below_drew1) | exact HB.out)⟩⟩
       ·rw [if_neg c7] at H
        have c7b0 : (t285 == 0) = false := beq_eq_false_iff_ne.mpr c7
        have c7b1 : (t285 != 0) = true := bne_iff_ne.mpr c7
        obtain rfl := Option.some.inj H
        try go_wp2
        have n0_ := Aside0.mk (below_drew1 HB.out)
        clear HB
        have HB := n0_
        clear n0_
        have q25 : (x3_1 : Int) ≤ ((l0.length : Int) : Int) := of_decide_eq_true (by first | (with_reducible assumption) | assumption)
        obtain ⟨i025, hi025, _, hsz25, _⟩ := info_parts info26
        have hroom25 : l0.length ≤ c0 := HC0.out
        have hC25 : Kd.C k26 _ A0 l0.length l0 := HR0.out
        try clear hcut13
        try clear hcut16
        try clear hcut19
        try clear hcut22
        have hcut25 := cut_to (P := Try.prog) 24 26 .i64 Try.underlying24 hi025 A0 l0.length c0 x3_1 (of_decide_eq_true (by first | (with_reducible assumption) | assumption)) q25 hroom25
        have hr25 := Kd.C_take (m := (x3_1 : Int).toNat) hC25 (by omega)
        have hy25 : y280.length = (x3_1 : Int).toNat := (by rw [Ny280.out, List.length_take]; omega)
        rw [← Ny280.out] at hr25
        rw [← hy25] at hcut25
        have HR283 := Aside0.mk hr25
        have HC283 := Aside0.mk (show y280.length ≤ c0 from by omega)
        clear hr25 hC25 hroom25 hi025 hsz25
        have KY25 := Aside0.mk hy25
        clear hy25
        replace q25 := eq_true q25
        have p284 : 0 ≤ (x3_1 : Int) := of_decide_eq_true (by first | (with_reducible assumption) | assumption)
        have q284 : x3_1 < (l0.length : Int) := of_decide_eq_true (by first | (with_reducible assumption) | assumption)
        obtain ⟨ad284, e284, hx284_0, hx284_1, hx284_2, hx284_3⟩ := at_T26 HR0.out x3_1 p284 q284
        have hw284_3 := hx284_3
        have hw284_2 := hx284_2
        have hw284_1 := hx284_1
        have hw284_0 := hx284_0
        cases e284
        replace hx284_0 := (HB.out.cell (World.block_lt_of_cell? w _ hx284_0)).trans hx284_0
        replace hx284_1 := (HB.out.cell (World.block_lt_of_cell? w _ hx284_1)).trans hx284_1
        replace hx284_2 := (HB.out.cell (World.block_lt_of_cell? w _ hx284_2)).trans hx284_2
        replace hx284_3 := (HB.out.cell (World.block_lt_of_cell? w _ hx284_3)).trans hx284_3
        replace p284 := eq_true p284
        replace q284 := eq_true q284
        refine start_ (n := 9) (S := fun w' => w'.cell? (ad284.add ((x3_1).toNat * 4)) = some (.int .i64 ((rd_T26 l0 x3_1).f0)) ∧ w'.cell? ⟨(ad284.add ((x3_1).toNat * 4)).block, (ad284.add ((x3_1).toNat * 4)).off + 1, none⟩ = some (.int .i64 ((rd_T26 l0 x3_1).f1)) ∧ w'.cell? ⟨(ad284.add ((x3_1).toNat * 4)).block, (ad284.add ((x3_1).toNat * 4)).off + 2, none⟩ = some (.int .i64 ((rd_T26 l0 x3_1).f2)) ∧ w'.cell? ⟨(ad284.add ((x3_1).toNat * 4)).block, (ad284.add ((x3_1).toNat * 4)).off + 3, none⟩ = some (.int .i64 ((rd_T26 l0 x3_1).f3))) (ds := []) #[false, false, false, false, false, false, false, false, false] (by kernel_rfl) rfl rfl ⟨((HB.out.cell (World.block_lt_of_cell? w _ hw284_0)).trans hw284_0), ((HB.out.cell (World.block_lt_of_cell? w _ hw284_1)).trans hw284_1), ((HB.out.cell (World.block_lt_of_cell? w _ hw284_2)).trans hw284_2), ((HB.out.cell (World.block_lt_of_cell? w _ hw284_3)).trans hw284_3)⟩ (fun hHeld => ?_); refine with_tabW spec_TermsFault.tab6 spec_TermsFault.bits6 (fun HT_ HW_ => ?_)
        generalize wr.drew = w24 at HB HR283 hx284_0 hx284_1 hx284_2 hx284_3 hHeld ⊢
        refine pure_ (i := 0) (N := some 14) (v := ?_) (a' := ?_) #[true, false, false, false, false, false, false, false, false] rfl rfl (any_of HT_.out (by kernel_rfl)) (fun _ _ _ h => h) (Or.inl ⟨by rfl, ?_⟩) ?_ ?_
        rotate_left
        ·intro w'
         go_simp
         with_reducible rfl
        rotate_left
        ·simp only [Act.put, lA_, lZ_, lS_, i64_w, i32_w]
         rfl
        refine pure_ (i := 1) (N := some 15) (v := ?_) (a' := ?_) #[true, true, false, false, false, false, false, false, false] rfl rfl (any_of HT_.out (by kernel_rfl)) (fun _ _ _ h => h) (Or.inl ⟨by rfl, ?_⟩) ?_ ?_
        rotate_left
        ·intro w'
         go_simp
         with_reducible rfl
        rotate_left
        ·simp only [Act.put, lA_, lZ_, lS_, i64_w, i32_w]
         rfl
        refine pure_ (i := 2) (N := some 16) (v := ?_) (a' := ?_) #[true, true, true, false, false, false, false, false, false] rfl rfl (any_of HT_.out (by kernel_rfl)) (fun _ _ _ h => h) (Or.inl ⟨by rfl, ?_⟩) ?_ ?_
        rotate_left
        ·intro w'
         go_simp
         with_reducible rfl
        rotate_left
        ·simp only [Act.put, lA_, lZ_, lS_, i64_w, i32_w]
         rfl
        refine pure_ (i := 3) (N := some 17) (v := ?_) (a' := ?_) #[true, true, true, true, false, false, false, false, false] rfl rfl (any_of HT_.out (by kernel_rfl)) (fun _ _ _ h => h) (Or.inl ⟨by rfl, ?_⟩) ?_ ?_
        rotate_left
        ·intro w'
         go_simp
         with_reducible rfl
        rotate_left
        ·simp only [Act.put, lA_, lZ_, lS_, i64_w, i32_w]
         rfl
        refine pure_ (i := 4) (N := some 18) (v := ?_) (a' := ?_) #[true, true, true, true, true, false, false, false, false] rfl rfl (any_of HT_.out (by kernel_rfl)) (fun _ _ _ h => h) (Or.inl ⟨by rfl, ?_⟩) ?_ ?_
        rotate_left
        ·intro w'
         go_simp
         with_reducible rfl
        rotate_left
        ·simp only [Act.put, lA_, lZ_, lS_, i64_w, i32_w]
         rfl
        refine pure_ (i := 5) (N := some 19) (v := ?_) (a' := ?_) #[true, true, true, true, true, true, false, false, false] rfl rfl (any_of HT_.out (by kernel_rfl)) (fun _ _ _ h => h) (Or.inl ⟨by rfl, ?_⟩) ?_ ?_
        rotate_left
        ·intro w'
         go_simp
         with_reducible rfl
        rotate_left
        ·simp only [Act.put, lA_, lZ_, lS_, i64_w, i32_w]
         rfl
        refine take_ (i := 6) (N := some 20) (v := ?_) (a' := ?_) #[true, true, true, true, true, true, true, false, false] rfl rfl (take_ofW HT_.out HW_.out (by kernel_rfl)) (fun _ _ _ h => h) (Or.inl ⟨by rfl, ?_⟩) hHeld ?_ ?_
        rotate_left
        ·rintro w' ⟨s0, s1, s2, s3⟩
         go_simp
         with_reducible rfl
        rotate_left
        ·simp only [Act.put, lA_, lZ_, lS_, i64_w, i32_w]
         rfl
        refine one_ (i := 7) (N := some 21) #[true, true, true, true, true, true, true, true, false] rfl rfl (one_of HT_.out (by kernel_rfl)) (by decide) (fun K hK => ?_)
        refine goes_ Try.func92 (by kernel_rfl) rfl #[.slice (some ad284) y280.length c0, .agg #[.int .i64 ((rd_T26 l0 x3_1).f0), .int .i64 ((rd_T26 l0 x3_1).f1), .int .i64 ((rd_T26 l0 x3_1).f2), .int .i64 ((rd_T26 l0 x3_1).f3)]] (by rfl) rfl rfl (by (try simp only [List.map_toArray, List.map_cons, List.map_nil]); first | done | rfl | (simp only [List.length_drop, List.length_take]; rfl)) ?_
        with_reducible refine (spec_l5Term.calls k1 _ _ y280 ((rd_T26 l0 x3_1).f0) ((rd_T26 l0 x3_1).f1) ((rd_T26 l0 x3_1).f2) ((rd_T26 l0 x3_1).f3) t285 _ ?side1 ?side2 A6.out).mono ?_
        (case side1 => repeat (first | exact (Kd.C_below HR283.out HB.out) | (with_reducible refine Kd.C_alloc ?_ _) | (with_reducible refine Kd.C_drewN ?_ _) | (with_reducible refine Kd.C_drew ?_)))
        (case side2 => exact HC283.out)
        rintro e w26 ⟨rfl, hb⟩
        refine ⟨_, rfl, ?_⟩
        have n0_ := Aside0.mk (below_step (by repeat (first | (with_reducible first | exact HB.out | apply below_alloc | apply pw_below_drewN | apply below_drew1) | exact HB.out)) hb)
        clear HB
        have HB := n0_
        clear n0_
        (try clear hb)
        (try clear hb2)
        (try clear hk)
        (try clear hi)
        refine hK.out _ _ ⟨((HB.out.cell (World.block_lt_of_cell? w _ hw284_0)).trans hw284_0), ((HB.out.cell (World.block_lt_of_cell? w _ hw284_1)).trans hw284_1), ((HB.out.cell (World.block_lt_of_cell? w _ hw284_2)).trans hw284_2), ((HB.out.cell (World.block_lt_of_cell? w _ hw284_3)).trans hw284_3)⟩ (fun hHeld => ?_)
        clear hK K
        refine norm_ (a' := ?_) ?_ ?_
        rotate_left
        ·show Act.put _ (some 21) _ = _
         simp only [Act.put, lA_, lZ_, lS_, i64_w, i32_w]
         rfl
        refine pure_ (i := 8) (N := some 4) (v := ?_) (a' := ?_) #[true, true, true, true, true, true, true, true, true] rfl rfl (any_of HT_.out (by kernel_rfl)) (fun _ _ _ h => h) (Or.inl ⟨by rfl, ?_⟩) ?_ ?_
        rotate_left
        ·intro w'
         go_simp
         with_reducible rfl
        rotate_left
        ·simp only [Act.put, lA_, lZ_, lS_, i64_w, i32_w]
         rfl
        refine done_ (done_of HT_.out (by kernel_rfl)) ?_
        try go_wp2
        go_ret
        exact ⟨by first | rfl | (simp [errW_none, errW_some] <;> rfl) | (simp [*, errW_none, errW_some] <;> rfl), by repeat (first | (with_reducible first | exact HB.out | apply below_alloc | apply pw_below_drewN | apply below_drew1) | exact HB.out)⟩
      ·rw [if_neg c5] at H
       exact absurd H (by simp)
     ·rw [if_neg c4] at H
      exact absurd H (by simp)
    ·rw [if_neg c3] at H
     have c3b0 : decide (x3_1 < (l0.length : Int)) = false := decide_eq_false c3
     clear c3
     obtain rfl := Option.some.inj H
     go_wp2
     go_ret
     exact ⟨by first | rfl | (simp [errW_none, errW_some] <;> rfl) | (simp [*, errW_none, errW_some] <;> rfl), by repeat (first | (with_reducible first | exact HB.out | apply below_alloc | apply pw_below_drewN | apply below_drew1) | exact HB.out)⟩
end Go.Proofs.Ytomaeijhljpgdaa.G
namespace Go.Proofs.Ytomaeijhljpgdaa.G
open Go.RowKit Go.Proofs.YtomaeijhljpgdaaW.PrintWords Go.Proofs.YtomaeijhljpgdaaW.PrintLast Go.Proofs.YtomaeijhljpgdaaW.PrintMore
attribute [local go_sem] max2_int min2_int max_two min_two max_three min_three max_four min_four   -- for this text's walks alone
set_option linter.unusedVariables false
set_option linter.unusedSimpArgs false
def spec_l5At.f (l0 : List (S26)) (a1 : Int) : Option (Bool) := (spec_l1In.f a1 0 (wrap64 ((l0.length : Int) - 1))).bind fun t366 => (some t366)
set_option maxHeartbeats 8000000 in
set_option maxRecDepth 100000 in
theorem spec_l5At.calls (A0 : Option Addr) (c0 : Nat) (l0 : List (S26)) (a1 : Int) (r : Bool) (w : World) (hr0 : Kd.C k26 w A0 l0.length l0) (hc0 : l0.length ≤ c0) (h : spec_l5At.f l0 a1 = some r) :
  Calls Try.prog 62 #[.slice A0 l0.length c0, .int .i64 a1] w fun e w' => e = .returned (.bool r) ∧ Drawn0 w w' := by
 have HR0 := Aside0.mk hr0
 have HC0 := Aside0.mk hc0
 clear hr0 hc0
 have H : ((spec_l1In.f a1 0 (wrap64 ((l0.length : Int) - 1))).bind fun t366 => (some t366)) = some r := h
 clear h
 replace H := Option.bind_eq_some_iff.mp H
 obtain ⟨t366, A30, H⟩ := H
 try dsimp only at H
 have A3 := Aside0.mk A30
 clear A30
 obtain rfl := Option.some.inj H
 go_enter Try.func62, Try.ntmps62
 go_wp2_with (first | ((with_reducible refine gate_callee (f := 98) rfl ?_); refine goesL_ (some 9) rfl rfl Try.func98 (by kernel_rfl) rfl #[.int .i64 a1, .int .i64 0, .int .i64 (wrap64 ((l0.length : Int) - 1))] rfl (by (try simp only [List.map_toArray, List.map_cons, List.map_nil]); first | done | rfl | (simp only [List.length_drop, List.length_take]; rfl)) ?_; (with_reducible refine (spec_l1In.calls a1 0 (wrap64 ((l0.length : Int) - 1)) t366 _ A3.out).mono ?_); rintro e w' ⟨rfl, ⟨nd, rfl⟩⟩; refine ⟨_, rfl, ?_⟩))
 go_ret
 exact ⟨by first | rfl | (simp; done) | (simp [*]; done), by repeat (first | exact Drawn0.refl _ | apply Drawn0.step)⟩
end Go.Proofs.Ytomaeijhljpgdaa.G
namespace Go.Proofs.Ytomaeijhljpgdaa.G
open Go.RowKit Go.Proofs.YtomaeijhljpgdaaW.PrintWords Go.Proofs.YtomaeijhljpgdaaW.PrintLast Go.Proofs.YtomaeijhljpgdaaW.PrintMore
attribute [local go_sem] max2_int min2_int max_two min_two max_three min_three max_four min_four   -- for this text's walks alone
set_option linter.unusedVariables false
set_option linter.unusedSimpArgs false
def spec_l9Asked.l0 : Nat → List (S26) → List Int → Int → Option (Int)
 | 0, _, _, _ => none
 | k + 1, x0, x1, x6 => if x6 < (x1.length : Int) then (if 0 ≤ x6 then ((spec_l5At.f x0 (rd x1 x6)).bind fun t562 => (if t562 = true then (spec_l9Asked.l0 k x0 x1 (wrap64 (x6 + 1))) else (some 3))) else (none)) else (some 0)
def spec_l9Asked.f (k : Nat) (l0 : List (S26)) (l1 : List Int) : Option (Int) := (spec_TermsFault.f k l0).bind fun t560 => (if t560 = 0 then (spec_l9Asked.l0 k l0 l1 0) else (some t560))
set_option maxHeartbeats 8000000 in
set_option maxRecDepth 100000 in
theorem spec_l9Asked.calls (k : Nat) (A0 : Option Addr) (c0 : Nat) (l0 : List (S26)) (A1 : Option Addr) (c1 : Nat) (l1 : List Int) (r : Int) (w : World) (hr0 : Kd.C k26 w A0 l0.length l0) (hc0 : l0.length ≤ c0) (hr1 : Kd.C (Kd.int .i64) w A1 l1.length l1) (hc1 : l1.length ≤ c1) (h : spec_l9Asked.f k l0 l1 = some r) :
  Calls Try.prog 74 #[.slice A0 l0.length c0, .slice A1 l1.length c1] w fun e w' => e = .returned (.int .i64 r) ∧ Below w.heap.size w w' := by
 have HR0 := Aside0.mk hr0
 have HC0 := Aside0.mk hc0
 clear hr0 hc0
 have HR1 := Aside0.mk hr1
 have HC1 := Aside0.mk hc1
 clear hr1 hc1
 have HB := Aside0.mk (Below.refl w.heap.size w)
 have H : ((spec_TermsFault.f k l0).bind fun t560 => (if t560 = 0 then (spec_l9Asked.l0 k l0 l1 0) else (some t560))) = some r := h
 clear h
 replace H := Option.bind_eq_some_iff.mp H
 obtain ⟨t560, A30, H⟩ := H
 try dsimp only at H
 have A3 := Aside0.mk A30
 clear A30
 by_cases c4 : t560 = 0
 ·rw [if_pos c4] at H
  have c4b0 : (t560 == 0) = true := beq_iff_eq.mpr c4
  have c4b1 : (t560 != 0) = false := bne_eq_false_iff_eq.mpr c4
  clear c4
  have H' := Aside0.mk H
  clear H
  go_enter Try.func74, Try.ntmps74
  go_wp2_with (first | ((with_reducible refine gate_callee (f := 57) rfl ?_); refine goesL_ (some 8) rfl rfl Try.func57 (by kernel_rfl) rfl #[.slice A0 l0.length c0] rfl (by (try simp only [List.map_toArray, List.map_cons, List.map_nil]); first | done | rfl | (simp only [List.length_drop, List.length_take]; rfl)) ?_; (with_reducible refine (spec_TermsFault.calls k _ _ l0 t560 _ ?side1 ?side2 A3.out).mono ?_); (case side1 => repeat (first | exact HR0.out | (with_reducible refine Kd.C_alloc ?_ _) | (with_reducible refine Kd.C_drewN ?_ _) | (with_reducible refine Kd.C_drew ?_))); (case side2 => exact HC0.out); rintro e w5 ⟨rfl, hb⟩; refine ⟨_, rfl, ?_⟩; have n0_ := Aside0.mk (below_step (by repeat (first | (with_reducible first | exact HB.out | apply below_alloc | apply pw_below_drewN | apply below_drew1) | exact HB.out)) hb); clear HB; have HB := n0_; clear n0_; (try clear hb); (try clear hb2); (try clear hk); (try clear hi)))
  go_loopg [6] k (fun kq v6 w' => ∃ (x6_1 : Int), v6 = .int .i64 x6_1 ∧ Aside0 (spec_l9Asked.l0 kq l0 l1 x6_1 = some r) ∧ Aside0 (kq ≤ k) ∧ Aside0 (Below w.heap.size w w'))
  case atStart => exact ⟨(0), (by first | rfl | (simp; done) | (simp [*]; done)), H', ⟨Nat.le_refl _⟩, ⟨by repeat (first | (with_reducible first | exact HB.out | apply below_alloc | apply pw_below_drewN | apply below_drew1) | exact HB.out)⟩⟩
  case round =>
   clear H'
   try clear c1
   try clear p2
   try clear c4
   try clear c4b0
   try clear c4b1
   try clear c5
   obtain ⟨x6_1, rfl, HA, HK1, HB⟩ := hrel
   cases gk with
   | zero => exact absurd HA.out (by simp [spec_l9Asked.l0])
   | succ k1 =>
    have H := HA.out
    clear HA
    simp only [spec_l9Asked.l0] at H
    by_cases c6 : x6_1 < (l1.length : Int)
    ·rw [if_pos c6] at H
     have c6b0 : decide (x6_1 < (l1.length : Int)) = true := decide_eq_true c6
     clear c6
     by_cases c7 : 0 ≤ x6_1
     ·rw [if_pos c7] at H
      have c7b0 : decide (0 ≤ x6_1) = true := decide_eq_true c7
      clear c7
      replace H := Option.bind_eq_some_iff.mp H
      obtain ⟨t562, A80, H⟩ := H
      try dsimp only at H
      have A8 := Aside0.mk A80
      clear A80
      by_cases c9 : t562 = true
      ·subst c9
       rw [if_pos rfl] at H
       have H' := Aside0.mk H
       clear H
       have p561 : 0 ≤ (x6_1 : Int) := of_decide_eq_true (by first | (with_reducible assumption) | assumption)
       have q561 : x6_1 < (l1.length : Int) := of_decide_eq_true (by first | (with_reducible assumption) | assumption)
       obtain ⟨ad561, e561, hx561_0⟩ := Kd.at_int HR1.out x6_1 p561 q561
       cases e561
       replace hx561_0 := (HB.out.cell (World.block_lt_of_cell? w _ hx561_0)).trans hx561_0
       replace p561 := eq_true p561
       replace q561 := eq_true q561
       go_wp2_with (first | ((with_reducible refine gate_callee (f := 62) rfl ?_); refine goesL_ (some 23) rfl rfl Try.func62 (by kernel_rfl) rfl #[.slice A0 l0.length c0, .int .i64 (rd l1 x6_1)] rfl (by (try simp only [List.map_toArray, List.map_cons, List.map_nil]); first | done | rfl | (simp only [List.length_drop, List.length_take]; rfl)) ?_; (with_reducible refine (spec_l5At.calls _ _ l0 (rd l1 x6_1) true _ ?side1 ?side2 A8.out).mono ?_); (case side1 => repeat (first | exact (Kd.C_below HR0.out HB.out) | (with_reducible refine Kd.C_alloc ?_ _) | (with_reducible refine Kd.C_drewN ?_ _) | (with_reducible refine Kd.C_drew ?_))); (case side2 => exact HC0.out); rintro e w' ⟨rfl, ⟨nd, rfl⟩⟩; refine ⟨_, rfl, ?_⟩))
       go_roundg k1
       case measure => have := HK1.out; omega
       case rel => exact ⟨(wrap64 (x6_1 + 1)), (by first | rfl | (simp; done) | (simp [*]; done)), H', ⟨by have := HK1.out; omega⟩, ⟨by repeat (first | (with_reducible first | exact HB.out | apply below_alloc | apply pw_below_drewN | apply below_drew1) | exact HB.out)⟩⟩
      ·replace c9 := Bool.eq_false_iff.mpr c9
       subst c9
       rw [if_neg (show ¬ (false = true) by decide)] at H
       obtain rfl := Option.some.inj H
       have p561 : 0 ≤ (x6_1 : Int) := of_decide_eq_true (by first | (with_reducible assumption) | assumption)
       have q561 : x6_1 < (l1.length : Int) := of_decide_eq_true (by first | (with_reducible assumption) | assumption)
       obtain ⟨ad561, e561, hx561_0⟩ := Kd.at_int HR1.out x6_1 p561 q561
       cases e561
       replace hx561_0 := (HB.out.cell (World.block_lt_of_cell? w _ hx561_0)).trans hx561_0
       replace p561 := eq_true p561
       replace q561 := eq_true q561
       go_wp2_with (first | ((with_reducible refine gate_callee (f := 62) rfl ?_); refine goesL_ (some 23) rfl rfl Try.func62 (by kernel_rfl) rfl #[.slice A0 l0.length c0, .int .i64 (rd l1 x6_1)] rfl (by (try simp only [List.map_toArray, List.map_cons, List.map_nil]); first | done | rfl | (simp only [List.length_drop, List.length_take]; rfl)) ?_; (with_reducible refine (spec_l5At.calls _ _ l0 (rd l1 x6_1) false _ ?side1 ?side2 A8.out).mono ?_); (case side1 => repeat (first | exact (Kd.C_below HR0.out HB.out) | (with_reducible refine Kd.C_alloc ?_ _) | (with_reducible refine Kd.C_drewN ?_ _) | (with_reducible refine Kd.C_drew ?_))); (case side2 => exact HC0.out); rintro e w' ⟨rfl, ⟨nd, rfl⟩⟩; refine ⟨_, rfl, ?_⟩))
       go_ret
       exact ⟨by first | rfl | (simp [errW_none, errW_some] <;> rfl) | (simp [*, errW_none, errW_some] <;> rfl), by repeat (first | (with_reducible first | exact HB.out | apply below_alloc | apply pw_below_drewN | apply below_drew1) | exact HB.out)⟩
     ·rw [if_neg c7] at H
      exact absurd H (by simp)
    ·rw [if_neg c6] at H
     have c6b0 : decide (x6_1 < (l1.length : Int)) = false := decide_eq_false c6
     clear c6
     obtain rfl := Option.some.inj H
     go_wp2
     go_ret
     exact ⟨by first | rfl | (simp [errW_none, errW_some] <;> rfl) | (simp [*, errW_none, errW_some] <;> rfl), by repeat (first | (with_reducible first | exact HB.out | apply below_alloc | apply pw_below_drewN | apply below_drew1) | exact HB.out)⟩
 ·rw [if_neg c4] at H
  have c4b0 : (t560 == 0) = false := beq_eq_false_iff_ne.mpr c4
  have c4b1 : (t560 != 0) = true := bne_iff_ne.mpr c4
  obtain rfl := Option.some.inj H
  go_enter Try.func74, Try.ntmps74
  go_wp2_with (first | ((with_reducible refine gate_callee (f := 57) rfl ?_); refine goesL_ (some 8) rfl rfl Try.func57 (by kernel_rfl) rfl #[.slice A0 l0.length c0] rfl (by (try simp only [List.map_toArray, List.map_cons, List.map_nil]); first | done | rfl | (simp only [List.length_drop, List.length_take]; rfl)) ?_; (with_reducible refine (spec_TermsFault.calls k _ _ l0 t560 _ ?side1 ?side2 A3.out).mono ?_); (case side1 => repeat (first | exact HR0.out | (with_reducible refine Kd.C_alloc ?_ _) | (with_reducible refine Kd.C_drewN ?_ _) | (with_reducible refine Kd.C_drew ?_))); (case side2 => exact HC0.out); rintro e w10 ⟨rfl, hb⟩; refine ⟨_, rfl, ?_⟩; have n0_ := Aside0.mk (below_step (by repeat (first | (with_reducible first | exact HB.out | apply below_alloc | apply pw_below_drewN | apply below_drew1) | exact HB.out)) hb); clear HB; have HB := n0_; clear n0_; (try clear hb); (try clear hb2); (try clear hk); (try clear hi)))
  go_ret
  exact ⟨by first | rfl | (simp [errW_none, errW_some] <;> rfl) | (simp [*, errW_none, errW_some] <;> rfl), by repeat (first | (with_reducible first | exact HB.out | apply below_alloc | apply pw_below_drewN | apply below_drew1) | exact HB.out)⟩
end Go.Proofs.Ytomaeijhljpgdaa.G
namespace Go.Proofs.Ytomaeijhljpgdaa.G
open Go.RowKit Go.Proofs.YtomaeijhljpgdaaW.PrintWords Go.Proofs.YtomaeijhljpgdaaW.PrintLast Go.Proofs.YtomaeijhljpgdaaW.PrintMore
attribute [local go_sem] max2_int min2_int max_two min_two max_three min_three max_four min_four   -- for this text's walks alone
set_option linter.unusedVariables false
set_option linter.unusedSimpArgs false
def spec_l1Max.f (a0 : Int) (a1 : Int) : Option (Int) := if a0 > a1 then (some a0) else (some a1)
set_option maxHeartbeats 8000000 in
set_option maxRecDepth 100000 in
theorem spec_l1Max.calls (a0 : Int) (a1 : Int) (r : Int) (w : World) (h : spec_l1Max.f a0 a1 = some r) :
  Calls Try.prog 48 #[.int .i64 a0, .int .i64 a1] w fun e w' => e = .returned (.int .i64 r) ∧ Drawn0 w w' := by
 have H : (if a0 > a1 then (some a0) else (some a1)) = some r := h
 clear h
 by_cases c3 : a0 > a1
 ·rw [if_pos c3] at H
  have c3b0 : decide (a1 < a0) = true := decide_eq_true c3
  clear c3
  obtain rfl := Option.some.inj H
  go_enter Try.func48, Try.ntmps48
  go_wp2
  go_ret
  exact ⟨by first | rfl | (simp; done) | (simp [*]; done), by repeat (first | exact Drawn0.refl _ | apply Drawn0.step)⟩
 ·rw [if_neg c3] at H
  have c3b0 : decide (a1 < a0) = false := decide_eq_false c3
  clear c3
  obtain rfl := Option.some.inj H
  go_enter Try.func48, Try.ntmps48
  go_wp2
  go_ret
  exact ⟨by first | rfl | (simp; done) | (simp [*]; done), by repeat (first | exact Drawn0.refl _ | apply Drawn0.step)⟩
end Go.Proofs.Ytomaeijhljpgdaa.G
namespace Go.Proofs.Ytomaeijhljpgdaa.G
open Go.RowKit Go.Proofs.YtomaeijhljpgdaaW.PrintWords Go.Proofs.YtomaeijhljpgdaaW.PrintLast Go.Proofs.YtomaeijhljpgdaaW.PrintMore
attribute [local go_sem] max2_int min2_int max_two min_two max_three min_three max_four min_four   -- for this text's walks alone
set_option linter.unusedVariables false
set_option linter.unusedSimpArgs false
def spec_l1Min.f (a0 : Int) (a1 : Int) : Option (Int) := if a0 < a1 then (some a0) else (some a1)
set_option maxHeartbeats 8000000 in
set_option maxRecDepth 100000 in
theorem spec_l1Min.calls (a0 : Int) (a1 : Int) (r : Int) (w : World) (h : spec_l1Min.f a0 a1 = some r) :
  Calls Try.prog 104 #[.int .i64 a0, .int .i64 a1] w fun e w' => e = .returned (.int .i64 r) ∧ Drawn0 w w' := by
 have H : (if a0 < a1 then (some a0) else (some a1)) = some r := h
 clear h
 by_cases c3 : a0 < a1
 ·rw [if_pos c3] at H
  have c3b0 : decide (a0 < a1) = true := decide_eq_true c3
  clear c3
  obtain rfl := Option.some.inj H
  go_enter Try.func104, Try.ntmps104
  go_wp2
  go_ret
  exact ⟨by first | rfl | (simp; done) | (simp [*]; done), by repeat (first | exact Drawn0.refl _ | apply Drawn0.step)⟩
 ·rw [if_neg c3] at H
  have c3b0 : decide (a0 < a1) = false := decide_eq_false c3
  clear c3
  obtain rfl := Option.some.inj H
  go_enter Try.func104, Try.ntmps104
  go_wp2
  go_ret
  exact ⟨by first | rfl | (simp; done) | (simp [*]; done), by repeat (first | exact Drawn0.refl _ | apply Drawn0.step)⟩
end Go.Proofs.Ytomaeijhljpgdaa.G
namespace Go.Proofs.Ytomaeijhljpgdaa.G
open Go.RowKit Go.Proofs.YtomaeijhljpgdaaW.PrintWords Go.Proofs.YtomaeijhljpgdaaW.PrintLast Go.Proofs.YtomaeijhljpgdaaW.PrintMore
attribute [local go_sem] max2_int min2_int max_two min_two max_three min_three max_four min_four   -- for this text's walks alone
set_option linter.unusedVariables false
set_option linter.unusedSimpArgs false
def spec_l9Two.f (k : Nat) (l : List S26) (c o a b : Int) : Option (Int × List S26 × Int) := spec_l9Put.f k l c o a b 0
set_option maxHeartbeats 4000000 in
set_option maxRecDepth 100000 in
theorem spec_l9Two.callsE {N S : Nat} {w0 w : World} {l : List S26} {c : Int} (k : Nat) (o a b : Int) (r : Int × List S26 × Int) (h : SE 94 N S w0 w l (.int .i64 c)) (hr : spec_l9Two.f k l c o a b = some r) :
    Calls Try.prog 102 #[.pointer (some ⟨S, 0, none⟩), .int .i64 o, .int .i64 a, .int .i64 b] w fun e w' => e = .returned (.int .i64 r.1) ∧ SE 94 N S w0 w' r.2.1 (.int .i64 r.2.2) ∧ KeepT 94 N w w' := by
  refine SE.call h (fun v hv => ?_)
  have HS := Aside0.mk (SE.start hv)
  have HR := Aside0.mk (show spec_l9Put.f k l c o a b 0 = some r from hr)
  clear h hv hr
  go_enter Try.func102, Try.ntmps102
  go_wp2_with (first | (go_at_call 109; refine (spec_l9Put.callsE k o a b 0 r HS.out HR.out).mono ?_; rintro e w' ⟨rfl, hs, hk⟩; clear HS; have HS := Aside0.mk hs; clear hs hk))
  go_ret
  exact ⟨rfl, HS.out⟩
end Go.Proofs.Ytomaeijhljpgdaa.G
namespace Go.Proofs.Ytomaeijhljpgdaa.G
open Go.RowKit Go.Proofs.YtomaeijhljpgdaaW.PrintWords Go.Proofs.YtomaeijhljpgdaaW.PrintLast Go.Proofs.YtomaeijhljpgdaaW.PrintMore
attribute [local go_sem] max2_int min2_int max_two min_two max_three min_three max_four min_four   -- for this text's walks alone
set_option linter.unusedVariables false
set_option linter.unusedSimpArgs false
def spec_l9Name.f (k : Nat) (l : List S26) (c n : Int) : Option (Int × List S26 × Int) := spec_l9Put.f k l c 1 0 0 n
set_option maxHeartbeats 4000000 in
set_option maxRecDepth 100000 in
theorem spec_l9Name.callsE {N S : Nat} {w0 w : World} {l : List S26} {c : Int} (k : Nat) (n : Int) (r : Int × List S26 × Int) (h : SE 94 N S w0 w l (.int .i64 c)) (hr : spec_l9Name.f k l c n = some r) :
    Calls Try.prog 99 #[.pointer (some ⟨S, 0, none⟩), .int .i64 n] w fun e w' => e = .returned (.int .i64 r.1) ∧ SE 94 N S w0 w' r.2.1 (.int .i64 r.2.2) ∧ KeepT 94 N w w' := by
  refine SE.call h (fun v hv => ?_)
  have HS := Aside0.mk (SE.start hv)
  have HR := Aside0.mk (show spec_l9Put.f k l c 1 0 0 n = some r from hr)
  clear h hv hr
  go_enter Try.func99, Try.ntmps99
  go_wp2_with (first | (go_at_call 109; refine (spec_l9Put.callsE k 1 0 0 n r HS.out HR.out).mono ?_; rintro e w' ⟨rfl, hs, hk⟩; clear HS; have HS := Aside0.mk hs; clear hs hk))
  go_ret
  exact ⟨rfl, HS.out⟩
end Go.Proofs.Ytomaeijhljpgdaa.G
namespace Go.Proofs.Ytomaeijhljpgdaa.G
open Go.RowKit Go.Proofs.YtomaeijhljpgdaaW.PrintWords Go.Proofs.YtomaeijhljpgdaaW.PrintLast Go.Proofs.YtomaeijhljpgdaaW.PrintMore
attribute [local go_sem] max2_int min2_int max_two min_two max_three min_three max_four min_four   -- for this text's walks alone
set_option linter.unusedVariables false
set_option linter.unusedSimpArgs false
def l9Fold (k : Nat) : List Int → Int × List S26 × Int → Option (Int × List S26 × Int)
  | [], st => some st
  | x :: ys, st => (spec_l9Two.f k st.2.1 st.2.2 3 x st.1).bind fun q => l9Fold k ys q
def spec_l9List.f (k : Nat) (l : List S26) (c : Int) (xs : List Int) : Option (Int × List S26 × Int) := if xs.length = 0 then none else l9Fold k (xs.take (xs.length - 1)).reverse (rd xs ((xs.length - 1 : Nat) : Int), l, c)
theorem l9Fold_take (k : Nat) (xs : List Int) (d : Nat) (h : d < xs.length) (st : Int × List S26 × Int) : l9Fold k (xs.take (d + 1)).reverse st = (spec_l9Two.f k st.2.1 st.2.2 3 (rd xs (d : Int)) st.1).bind fun q => l9Fold k (xs.take d).reverse q := by
  have e : xs.take (d + 1) = xs.take d ++ [rd xs (d : Int)] := by
    rw [List.take_succ_eq_append_getElem h]
    simp [rd, List.getD, List.getElem?_eq_getElem h]
  rw [e, List.reverse_append]
  rfl
set_option maxHeartbeats 4000000 in
set_option maxRecDepth 100000 in
theorem spec_l9List.callsE {N S : Nat} {w0 w : World} {l : List S26} {c : Int} (k : Nat) (A1 : Option Addr) (c1 : Nat) (xs : List Int) (n : Nat) (r : Int × List S26 × Int) (h : SE 94 N S w0 w l (.int .i64 c)) (hn : xs.length = n) (hC : Kd.C (Kd.int .i64) w A1 xs.length xs) (hf : FarT 94 N w A1 xs.length) (hr : spec_l9List.f k l c xs = some r) :
    Calls Try.prog 100 #[.pointer (some ⟨S, 0, none⟩), .slice A1 n c1] w fun e w' => e = .returned (.int .i64 r.1) ∧ SE 94 N S w0 w' r.2.1 (.int .i64 r.2.2) ∧ KeepT 94 N w w' := by
  subst hn
  refine SE.call h (fun v hv => ?_)
  unfold spec_l9List.f at hr
  by_cases h0 : xs.length = 0
  · rw [if_pos h0] at hr; cases hr
  rw [if_neg h0] at hr
  have HS := Aside0.mk (SE.start hv)
  have HC := Aside0.mk hC
  have HF := Aside0.mk hf
  have HM := Aside0.mk (show xs.length ≤ 9223372036854775807 from hC.2.1)
  obtain ⟨m, hm⟩ : ∃ m, xs.length = m + 1 := ⟨xs.length - 1, by omega⟩
  rw [hm, Nat.add_sub_cancel] at hr
  obtain ⟨ad, e, hx0⟩ := Kd.at_int hC (m : Int) (by omega) (by omega)
  subst e
  rw [Int.toNat_natCast] at hx0
  obtain ⟨x0, hxx0⟩ : ∃ x0, x0 = rd xs (m : Int) := ⟨_, rfl⟩
  rw [← hxx0] at hx0 hr
  have HR := Aside0.mk hr
  have HW1 := Aside0.mk (show wrap64 ((xs.length : Int) - 1) = (m : Int) by have := HM.out; unfold wrap64; omega)
  have HW2 := Aside0.mk (show wrap64 ((xs.length : Int) - 2) = (m : Int) - 1 by have := HM.out; unfold wrap64; omega)
  have w1_ := HW1.out
  have w2_ := HW2.out
  have HML := Aside0.mk hm
  have p1 := eq_true (show 0 ≤ (m : Int) by omega)
  have p2 := eq_true (show (m : Int) < (xs.length : Int) by omega)
  clear h hv hC hf hr hm hxx0 h0
  go_enter Try.func100, Try.ntmps100
  go_wp2
  clear p1 p2
  go_loopg [5, 6] m (fun gg v5 v6 w' => ∃ (d : Nat) (st : Int × List S26 × Int), d ≤ m ∧ d ≤ gg ∧ v5 = .int .i64 st.1 ∧ v6 = .int .i64 ((d : Int) - 1) ∧ Aside0 (l9Fold k (xs.take d).reverse st = some r) ∧ Aside0 (SE 94 N S w w' st.2.1 (.int .i64 st.2.2)))
  case atStart => exact ⟨m, (x0, l, c), Nat.le_refl _, by omega, rfl, by first | rfl | (rw [HW2.out]) | simp [HW2.out], HR, HS⟩
  case round =>
    clear HS HR hx0 w1_ w2_
    obtain ⟨d, st, hd, hg, rfl, rfl, HR, HS⟩ := hrel
    by_cases hz : 0 < d
    · obtain ⟨e, rfl⟩ : ∃ e, d = e + 1 := ⟨d - 1, by omega⟩
      have hel : e < xs.length := by have := HML.out; omega
      have hr := HR.out
      rw [l9Fold_take k xs e hel st] at hr
      obtain ⟨q, hq, hr⟩ := Option.bind_eq_some_iff.mp hr
      have HCw := C_keepT HC.out HS.out.2.1 HF.out
      obtain ⟨ad2, e2, hx⟩ := Kd.at_int HCw (e : Int) (by omega) (by omega)
      obtain rfl : ad = ad2 := by injection e2
      rw [Int.toNat_natCast] at hx
      obtain ⟨x, hxx⟩ : ∃ x, x = rd xs (e : Int) := ⟨_, rfl⟩
      rw [← hxx] at hx hq
      have HQ := Aside0.mk hq
      have HR2 := Aside0.mk hr
      have HW := Aside0.mk (show wrap64 ((e : Int) - 1) = (e : Int) - 1 by have := HM.out; unfold wrap64; omega)
      have w1_ := HW.out
      have p1 := eq_true (show 0 ≤ (e : Int) by omega)
      have p2 := eq_true (show (e : Int) < (xs.length : Int) by omega)
      have d1 : decide ((e : Int) ≥ 0) = true := decide_eq_true (by omega)
      have d2 : decide (0 ≤ (e : Int)) = true := decide_eq_true (by omega)
      rw [show (((e + 1 : Nat) : Int) - 1) = (e : Int) by omega]
      clear HR hr hq hxx HCw e2
      go_wp2_with (first | (go_at_call 102; refine (spec_l9Two.callsE k 3 x st.1 q HS.out HQ.out).mono ?_; rintro e w' ⟨rfl, hs, hk⟩; clear HS; have HS := Aside0.mk hs; clear hs hk))
      go_roundg (gk - 1)
      case measure => omega
      case rel => exact ⟨e, q, by omega, by omega, rfl, by first | rfl | (rw [HW.out]) | simp [HW.out], HR2, HS⟩
    · obtain rfl : d = 0 := by omega
      have hr : some st = some r := HR.out
      injection hr with hr
      subst hr
      have d1 : decide ((((0 : Nat) : Int) - 1) ≥ 0) = false := by decide
      go_wp2
      go_ret
      exact ⟨rfl, HS.out⟩
end Go.Proofs.Ytomaeijhljpgdaa.G
namespace Go.Proofs.Ytomaeijhljpgdaa.G
open Go.RowKit Go.Proofs.YtomaeijhljpgdaaW.PrintWords Go.Proofs.YtomaeijhljpgdaaW.PrintLast Go.Proofs.YtomaeijhljpgdaaW.PrintMore
attribute [local go_sem] max2_int min2_int max_two min_two max_three min_three max_four min_four   -- for this text's walks alone
set_option linter.unusedVariables false
set_option linter.unusedSimpArgs false
def l9NamesF (k : Nat) : List Int → List Int × List S26 × Int → Option (List Int × List S26 × Int)
  | [], st => some st
  | n :: ns, st => (spec_l9Name.f k st.2.1 st.2.2 n).bind fun q => l9NamesF k ns (st.1 ++ [q.1], q.2)
def spec_l9Names.f (k : Nat) (l : List S26) (c : Int) (ns : List Int) : Option (Int × List S26 × Int) := if ns.length ≤ 1000000000 then ((l9NamesF k ns ([], l, c)).bind fun st => spec_l9List.f k st.2.1 st.2.2 st.1) else none
set_option maxHeartbeats 4000000 in
set_option maxRecDepth 100000 in
theorem spec_l9Names.callsE {N S : Nat} {w0 w : World} {l : List S26} {c : Int} (k : Nat) (A1 : Option Addr) (c1 : Nat) (ns : List Int) (n : Nat) (r : Int × List S26 × Int) (h : SE 94 N S w0 w l (.int .i64 c)) (hn : ns.length = n) (hC : Kd.C (Kd.int .i64) w A1 ns.length ns) (hf : FarT 94 N w A1 ns.length) (hr : spec_l9Names.f k l c ns = some r) :
    Calls Try.prog 68 #[.pointer (some ⟨S, 0, none⟩), .slice A1 n c1] w fun e w' => e = .returned (.int .i64 r.1) ∧ SE 94 N S w0 w' r.2.1 (.int .i64 r.2.2) ∧ KeepT 94 N w w' := by
  subst hn
  refine SE.call h (fun v hv => ?_)
  unfold spec_l9Names.f at hr
  by_cases hm : ns.length ≤ 1000000000
  rotate_left
  · rw [if_neg hm] at hr; cases hr
  rw [if_pos hm] at hr
  obtain ⟨st0, hf0, hr⟩ := Option.bind_eq_some_iff.mp hr
  have HS := Aside0.mk (SE.start hv)
  have HN := Aside0.mk hv.size
  have HC := Aside0.mk hC
  have HF := Aside0.mk hf
  have HM := Aside0.mk hm
  have HR := Aside0.mk hr
  have HF0 := Aside0.mk hf0
  clear h hv hC hf hm hr hf0
  go_enter Try.func68, Try.ntmps68
  go_wp2_with (first | ((with_reducible refine gate_dst (N := 7) rfl ?_); refine Kd.R_lit (Kd.int .i64) _ 2 ?hg (N := 7) ?hd (xs := ([] : List Int)) (inner := []) (ok := fun _ => True) (okp := fun _ => True) ?hr ?hp (fun _ hk => hk) trivial (Below.refl _ _) (Nat.le_refl _) (by simp) ?_; (case hd => rfl); (case hg => rfl); (case hr => first | (go_simp; done) | (go_simp; rfl)); (case hp => exact (Reps.none _ _)); intro v1 w1 ho hb hg hn; clear hg hn; obtain ⟨AP, cP, eP⟩ := Kd.R_slice ho; subst eP; have HP := Aside0.mk (Kd.R_lower ho HS.out.2.1.1); have n0_ := Aside0.mk (HS.out.below hb); clear HS ho hb; have HS := n0_; clear n0_))
  go_loopg [5, 6] ns.length (fun gg v5 v6 w' => ∃ (kk : Nat) (st : List Int × List S26 × Int), kk + gg = ns.length ∧ v6 = .int .i64 kk ∧ Aside0 (st.1.length = kk) ∧ Aside0 (l9NamesF k (ns.drop kk) st = some st0) ∧ Aside0 (Kd.R (Kd.int .i64) 2 w' w.heap.size (fun _ => True) v5 st.1) ∧ Aside0 (SE 94 N S w w' st.2.1 (.int .i64 st.2.2)))
  case atStart => exact ⟨0, ([], l, c), by omega, rfl, ⟨rfl⟩, by simpa using HF0, HP, HS⟩
  case round =>
    clear HP HS HF0
    obtain ⟨kk, st, hkk, rfl, HLEN, HF0, HO, HS⟩ := hrel
    have HCw := Aside0.mk (C_keepT HC.out HS.out.2.1 HF.out)
    by_cases hlt : kk < ns.length
    · have hf0 := HF0.out
      have hd : ns.drop kk = rd ns (kk : Int) :: ns.drop (kk + 1) := by
        rw [List.drop_eq_getElem_cons hlt]
        simp [rd, List.getD, List.getElem?_eq_getElem hlt]
      rw [hd] at hf0
      obtain ⟨ad, e, hx⟩ := Kd.at_int HCw.out (kk : Int) (by omega) (by omega)
      subst e
      rw [Int.toNat_natCast] at hx
      obtain ⟨x, hxx⟩ : ∃ x, x = rd ns (kk : Int) := ⟨_, rfl⟩
      rw [← hxx] at hx hf0
      unfold l9NamesF at hf0
      obtain ⟨q, hq, hf0⟩ := Option.bind_eq_some_iff.mp hf0
      have HF1 := Aside0.mk hf0
      have HQ := Aside0.mk hq
      have HW := Aside0.mk (show wrap64 ((kk : Int) + 1) = ((kk + 1 : Nat) : Int) by have := HM.out; unfold wrap64; omega)
      have d1 : decide ((kk : Int) < (ns.length : Int)) = true := decide_eq_true (by omega)
      have p1 := eq_true (show 0 ≤ (kk : Int) by omega)
      have p2 := eq_true (show (kk : Int) < (ns.length : Int) by omega)
      clear hq hxx hf0 hd HF0
      go_wp2_with (first | (go_at_call 99; refine (spec_l9Name.callsE k x q HS.out HQ.out).mono ?_; rintro e w' ⟨rfl, hs, hk⟩; have k0_ := Aside0.mk (R_keepT HO.out hk (by decide)); clear HS HO; have HO := k0_; have HS := Aside0.mk hs; clear hs hk k0_) | ((with_reducible refine gate_builtin (b := .append) (xs := #[.tmp 14, .tmp 21]) rfl ?_); at_builtin; refine Kd.R_append (Kd.int .i64) w.heap.size rfl (.tmp 14) (.tmp 21) 33 2 (.int .i64 0) 8 rfl Try.underlying33 info2 rfl (by decide) (by omega) u5 st.1 q.1 [.int .i64 q.1] (fun _ => True) (fun _ => False) rfl rfl ?aP (fun _ hk => hk.elim) ?aF ?aO (Below.refl _ _) ?aS ?aL ?_; (case aP => exact rfl); (case aF => exact (fun _ _ => trivial)); (case aO => exact (by (with_reducible repeat (first | apply Kd.R_alloc | apply Kd.R_drewN | apply Kd.R_drew)); exact HO.out)); (case aS => exact HS.out.2.1.1); (case aL => have := HLEN.out; have := HM.out; omega); intro v513 w11 ho hb hg hat; have n0_ := Aside0.mk (SE.grown HS.out hg HN.out (fun b e => by obtain ⟨_, hi⟩ := Kd.R_own HO.out; obtain ⟨cells, hc⟩ := own_typed hi b e; exact ⟨own_base hi b e, cells, _, hc, by decide, by decide⟩)); clear HS HO hb hg hat; have HS := n0_; have HO := Aside0.mk ho; clear n0_ ho))
      go_roundg (gk - 1)
      case measure => omega
      case rel => exact ⟨kk + 1, (st.1 ++ [q.1], q.2), by omega, by first | rfl | (rw [HW.out]) | simp [HW.out], ⟨by have := HLEN.out; simp; omega⟩, HF1, HO, HS⟩
    · have hf0 := HF0.out
      rw [List.drop_of_length_le (by omega)] at hf0
      have hf1 : some st = some st0 := hf0
      injection hf1 with hf1
      subst hf1
      have d1 : decide ((kk : Int) < (ns.length : Int)) = false := decide_eq_false (by omega)
      obtain ⟨A5, c5, e5⟩ := Kd.R_slice HO.out
      subst e5
      clear hf0 HF0
      go_wp2_with (first | (go_at_call 100; refine (spec_l9List.callsE k A5 c5 st.1 _ r HS.out rfl (Kd.R_reads' HO.out).2.2 (far_row HO.out (by decide) (by decide)) HR.out).mono ?_; rintro e w' ⟨rfl, hs, hk⟩; clear HS; have HS := Aside0.mk hs; clear hs hk))
      go_ret
      exact ⟨rfl, HS.out⟩
end Go.Proofs.Ytomaeijhljpgdaa.G
namespace Go.Proofs.Ytomaeijhljpgdaa.G
open Go.RowKit Go.Proofs.YtomaeijhljpgdaaW.PrintWords Go.Proofs.YtomaeijhljpgdaaW.PrintLast Go.Proofs.YtomaeijhljpgdaaW.PrintMore
attribute [local go_sem] max2_int min2_int max_two min_two max_three min_three max_four min_four   -- for this text's walks alone
set_option linter.unusedVariables false
set_option linter.unusedSimpArgs false
def spec_l9Keys.f (k : Nat) (l : List S26) (c ni nr own half sI sR : Int) : Option (Int × Int × Int × Int × List S26 × Int) := (spec_l9Two.f k l c 3 ni nr).bind fun r1 => (if 0 ≤ half ∧ half < (r1.2.1.length : Int) then (some (rd_T26 r1.2.1 half).f1).bind fun x => ((spec_l1Min.f own x).bind fun mi => ((spec_l1Max.f own x).bind fun ma => ((spec_l9Two.f k r1.2.1 r1.2.2 7 mi ma).bind fun r2 => ((spec_l9Two.f k r2.2.1 r2.2.2 4 r1.1 r2.1).bind fun r3 => ((spec_l9Names.f k r3.2.1 r3.2.2 [1, sI, sR]).bind fun r4 => ((spec_l9Two.f k r4.2.1 r4.2.2 4 r3.1 r4.1).bind fun r5 => ((spec_l9Names.f k r5.2.1 r5.2.2 [2, sI, sR]).bind fun r6 => ((spec_l9Two.f k r6.2.1 r6.2.2 4 r3.1 r6.1).bind fun r7 => ((spec_l9Names.f k r7.2.1 r7.2.2 [3, sI, sR]).bind fun r8 => ((spec_l9Two.f k r8.2.1 r8.2.2 4 r3.1 r8.1).bind fun r9 => (some (r3.1, r5.1, r7.1, r9.1, r9.2)))))))))))) else none)
set_option maxHeartbeats 8000000 in
set_option maxRecDepth 100000 in
theorem spec_l9Keys.callsE {N S : Nat} {w0 w : World} {l : List S26} {c : Int} (k : Nat) (ni nr own half sI sR : Int) (rr : Int × Int × Int × Int × List S26 × Int) (h : SE 94 N S w0 w l (.int .i64 c)) (hr : spec_l9Keys.f k l c ni nr own half sI sR = some rr) :
    Calls Try.prog 79 #[.pointer (some ⟨S, 0, none⟩), .int .i64 ni, .int .i64 nr, .int .i64 own, .int .i64 half, .int .i64 sI, .int .i64 sR] w fun e w' => e = .returned (.agg #[.int .i64 rr.1, .int .i64 rr.2.1, .int .i64 rr.2.2.1, .int .i64 rr.2.2.2.1]) ∧ SE 94 N S w0 w' rr.2.2.2.2.1 (.int .i64 rr.2.2.2.2.2) ∧ KeepT 94 N w w' := by
  refine SE.call h (fun v hv => ?_)
  have HS := Aside0.mk (SE.start hv)
  have HN := Aside0.mk hv.size
  unfold spec_l9Keys.f at hr
  obtain ⟨r1, h1, hr⟩ := Option.bind_eq_some_iff.mp hr
  have H1 := Aside0.mk h1
  by_cases hg : 0 ≤ half ∧ half < (r1.2.1.length : Int)
  rotate_left
  · rw [if_neg hg] at hr; cases hr
  rw [if_pos hg, Option.bind_some] at hr
  generalize hx : (rd_T26 r1.2.1 half).f1 = x at hr
  obtain ⟨mi, hmi, hr⟩ := Option.bind_eq_some_iff.mp hr
  obtain ⟨ma, hma, hr⟩ := Option.bind_eq_some_iff.mp hr
  have HMI := Aside0.mk hmi
  have HMA := Aside0.mk hma
  obtain ⟨r2, h2, hr⟩ := Option.bind_eq_some_iff.mp hr
  have H2 := Aside0.mk h2
  obtain ⟨r3, h3, hr⟩ := Option.bind_eq_some_iff.mp hr
  have H3 := Aside0.mk h3
  clear h3
  obtain ⟨r4, h4, hr⟩ := Option.bind_eq_some_iff.mp hr
  have H4 := Aside0.mk h4
  clear h4
  obtain ⟨r5, h5, hr⟩ := Option.bind_eq_some_iff.mp hr
  have H5 := Aside0.mk h5
  clear h5
  obtain ⟨r6, h6, hr⟩ := Option.bind_eq_some_iff.mp hr
  have H6 := Aside0.mk h6
  clear h6
  obtain ⟨r7, h7, hr⟩ := Option.bind_eq_some_iff.mp hr
  have H7 := Aside0.mk h7
  clear h7
  obtain ⟨r8, h8, hr⟩ := Option.bind_eq_some_iff.mp hr
  have H8 := Aside0.mk h8
  clear h8
  obtain ⟨r9, h9, hr⟩ := Option.bind_eq_some_iff.mp hr
  have H9 := Aside0.mk h9
  clear h9
  clear h1 h2 hmi hma
  injection hr with hr
  subst hr
  have p1 := eq_true hg.1
  have p2 := eq_true hg.2
  have HG := Aside0.mk hg
  have HX := Aside0.mk hx
  clear h hv hg hx
  go_enter Try.func79, Try.ntmps79
  go_wp2_with (first | ((with_reducible refine gate_dst (N := 14) rfl ?_); refine box_event ?hg (N := 14) ?hd (cs := #[.int .i64 0, .int .i64 0, .int .i64 0, .int .i64 0]) (t := 62) ?hr ?_; (case hd => rfl); (case hg => rfl); (case hr => first | (go_simp; done) | (go_simp; rfl)); intro g14 hg w2 hbox hb; have BK := Aside0.mk hbox; have GE := Aside0.mk (show w.heap.size ≤ g14 by rw [hg]; exact HS.out.2.1.1); have n0_ := Aside0.mk (HS.out.below hb); clear HS hb hbox hg; have HS := n0_; clear n0_) | (go_at_call 102; refine (spec_l9Two.callsE k 3 ni nr r1 HS.out H1.out).mono ?_; rintro e w9 ⟨rfl, hs, hk⟩; have k0_ := Aside0.mk (blk_keepT BK.out hk (by decide) (by decide)); clear HS BK; have BK := k0_; have HS := Aside0.mk hs; clear hs hk k0_; obtain ⟨v9, hv9⟩ := HS.out.1; obtain ⟨A9, c9, e9⟩ := Kd.R_slice hv9.2.2; subst e9; obtain ⟨ad9, e9, hx0, hx1, hx2, hx3⟩ := at_T26 (Kd.R_reads' hv9.2.2).2.2 half HG.out.1 HG.out.2; subst e9; rw [HX.out] at hx1; have p0_ : w9.cell? ⟨S, 0, none⟩ = some (.slice (some ad9) r1.2.1.length c9) := (blk_cell hv9.1 0).trans rfl; clear hx0 hx2 hx3 hv9) | (go_at_call 104; refine (spec_l1Min.calls own x mi _ HMI.out).mono ?_; rintro e w9 ⟨rfl, hd⟩; have hb := hd.below; clear hd; have n0_ := Aside0.mk (HS.out.below hb); have n1_ := Aside0.mk (blk_below BK.out hb); clear HS BK hb; have HS := n0_; have BK := n1_; clear n0_ n1_) | (go_at_call 48; refine (spec_l1Max.calls own x ma _ HMA.out).mono ?_; rintro e w9 ⟨rfl, hd⟩; have hb := hd.below; clear hd; have n0_ := Aside0.mk (HS.out.below hb); have n1_ := Aside0.mk (blk_below BK.out hb); clear HS BK hb; have HS := n0_; have BK := n1_; clear n0_ n1_) | (go_at_call 102; refine (spec_l9Two.callsE k 7 mi ma r2 HS.out H2.out).mono ?_; rintro e w9 ⟨rfl, hs, hk⟩; have k0_ := Aside0.mk (blk_keepT BK.out hk (by decide) (by decide)); clear HS BK; have BK := k0_; have HS := Aside0.mk hs; clear hs hk k0_) | (go_at_call 102; refine (spec_l9Two.callsE k 4 r1.1 r2.1 r3 HS.out H3.out).mono ?_; rintro e w9 ⟨rfl, hs, hk⟩; have k0_ := Aside0.mk (blk_keepT BK.out hk (by decide) (by decide)); clear HS BK; have BK := k0_; have HS := Aside0.mk hs; clear hs hk k0_) | ((with_reducible refine gate_dst (N := 18) rfl ?_); refine box_event ?hg (N := 18) ?hd (cs := #[.int .i64 0, .int .i64 0, .int .i64 0, .int .i64 0]) (t := 62) ?hr ?_; (case hd => rfl); (case hg => rfl); (case hr => first | (go_simp; done) | (go_simp; rfl)); intro gl hg w3 hbox hb; have BL := Aside0.mk hbox; have GL := Aside0.mk (show w.heap.size ≤ gl by rw [hg]; exact HS.out.2.1.1); have NE := Aside0.mk (show g14 ≠ gl by rw [hg]; exact Nat.ne_of_lt (blk_lt BK.out)); have n0_ := Aside0.mk (HS.out.below hb); have n1_ := Aside0.mk (blk_below BK.out hb); clear HS BK hb hbox hg; have HS := n0_; have BK := n1_; clear n0_ n1_; have y0_ : w3.cell? ⟨gl, 0, none⟩ = some (.int .i64 0) := (blk_cell BL.out 0).trans rfl; have y1_ : w3.cell? ⟨gl, 1, none⟩ = some (.int .i64 0) := (blk_cell BL.out 1).trans rfl; have y2_ : w3.cell? ⟨gl, 2, none⟩ = some (.int .i64 0) := (blk_cell BL.out 2).trans rfl; have y3_ : w3.cell? ⟨gl, 3, none⟩ = some (.int .i64 0) := (blk_cell BL.out 3).trans rfl; have z0_ := blk_frozen BL.out 0; have z1_ := blk_frozen BL.out 1; have z2_ := blk_frozen BL.out 2; have z3_ := blk_frozen BL.out 3))
  have n0_ := Aside0.mk (SE.far (SE.far (SE.far (SE.far HS.out BL.out (by decide) (by decide) GL.out (Nat.le_trans HN.out GL.out) 0 (.int .i64 r3.1)) (blk_put BL.out 0 (.int .i64 r3.1) rfl) (by decide) (by decide) GL.out (Nat.le_trans HN.out GL.out) 1 (.int .i64 0)) (blk_put (blk_put BL.out 0 (.int .i64 r3.1) rfl) 1 (.int .i64 0) rfl) (by decide) (by decide) GL.out (Nat.le_trans HN.out GL.out) 2 (.int .i64 0)) (blk_put (blk_put (blk_put BL.out 0 (.int .i64 r3.1) rfl) 1 (.int .i64 0) rfl) 2 (.int .i64 0) rfl) (by decide) (by decide) GL.out (Nat.le_trans HN.out GL.out) 3 (.int .i64 0))
  have n1_ : Aside0 (((((w3.setCell ⟨gl, 0, none⟩ (.int .i64 r3.1)).setCell ⟨gl, 1, none⟩ (.int .i64 0)).setCell ⟨gl, 2, none⟩ (.int .i64 0)).setCell ⟨gl, 3, none⟩ (.int .i64 0)).heap[gl]? = some (.cells #[.int .i64 r3.1, .int .i64 0, .int .i64 0, .int .i64 0] 62 (0, 0))) := Aside0.mk (blk_put (blk_put (blk_put (blk_put BL.out 0 (.int .i64 r3.1) rfl) 1 (.int .i64 0) rfl) 2 (.int .i64 0) rfl) 3 (.int .i64 0) rfl)
  have n2_ := Aside0.mk (blk_far (blk_far (blk_far (blk_far BK.out (p := ⟨gl, 0, none⟩) NE.out (.int .i64 r3.1)) (p := ⟨gl, 1, none⟩) NE.out (.int .i64 0)) (p := ⟨gl, 2, none⟩) NE.out (.int .i64 0)) (p := ⟨gl, 3, none⟩) NE.out (.int .i64 0))
  clear HS BL BK y0_ y1_ y2_ y3_ z0_ z1_ z2_ z3_
  (try clear p0_)
  (try clear hx1)
  have HS := n0_; have BL := n1_; have BK := n2_
  clear n0_ n1_ n2_
  generalize hw4 : ((((w3.setCell ⟨gl, 0, none⟩ (.int .i64 r3.1)).setCell ⟨gl, 1, none⟩ (.int .i64 0)).setCell ⟨gl, 2, none⟩ (.int .i64 0)).setCell ⟨gl, 3, none⟩ (.int .i64 0)) = w4 at HS BL BK ⊢
  clear hw4
  have n0_ := Aside0.mk (show SE 94 N S w w4.drew _ _ from ⟨HS.out.1, HS.out.2.1, HS.out.2.2.drew⟩)
  have n1_ := Aside0.mk (blk_drew BL.out)
  have n2_ := Aside0.mk (blk_drew BK.out)
  clear HS BL BK
  have HS := n0_; have BL := n1_; have BK := n2_
  clear n0_ n1_ n2_
  refine start_ (n := 11) (S := fun w' => w'.cell? ⟨gl, 0, none⟩ = some (.int .i64 r3.1)) (ds := [10]) #[false, false, false, false, false, false, false, false, false, false, false] (by kernel_rfl) rfl rfl ((blk_cell BL.out 0).trans rfl) (fun hHeld => ?_)
  generalize hw5 : w4.drew = w5 at HS BL BK hHeld ⊢
  clear hw5
  refine pure_ (i := 0) (N := some 44) (v := ?_) (a' := ?_) #[true, false, false, false, false, false, false, false, false, false, false] rfl rfl (by kernel_rfl) (fun _ _ _ h => h) (Or.inl ⟨by rfl, ?_⟩) ?_ ?_
  rotate_left
  · intro w'
    go_simp
    with_reducible rfl
  rotate_left
  · simp only [Act.put, lA_, lZ_, lS_, i64_w, i32_w]
    rfl
  refine pure_ (i := 1) (N := some 45) (v := ?_) (a' := ?_) #[true, true, false, false, false, false, false, false, false, false, false] rfl rfl (by kernel_rfl) (fun _ _ _ h => h) (Or.inl ⟨by rfl, ?_⟩) ?_ ?_
  rotate_left
  · intro w'
    go_simp
    with_reducible rfl
  rotate_left
  · simp only [Act.put, lA_, lZ_, lS_, i64_w, i32_w]
    rfl
  refine take_ (i := 2) (N := some 46) (v := ?_) (a' := ?_) #[true, true, true, false, false, false, false, false, false, false, false] rfl rfl (by kernel_rfl) (fun _ _ _ h => h) (Or.inl ⟨by rfl, ?_⟩) hHeld ?_ ?_
  rotate_left
  · rintro w' s0
    go_simp
    with_reducible rfl
  rotate_left
  · simp only [Act.put, lA_, lZ_, lS_, i64_w, i32_w]
    rfl
  refine pure_ (i := 3) (N := some 47) (v := ?_) (a' := ?_) #[true, true, true, true, false, false, false, false, false, false, false] rfl rfl (by kernel_rfl) (fun _ _ _ h => h) (Or.inl ⟨by rfl, ?_⟩) ?_ ?_
  rotate_left
  · intro w'
    go_simp
    with_reducible rfl
  rotate_left
  · simp only [Act.put, lA_, lZ_, lS_, i64_w, i32_w]
    rfl
  refine pure_ (i := 4) (N := some 48) (v := ?_) (a' := ?_) #[true, true, true, true, true, false, false, false, false, false, false] rfl rfl (by kernel_rfl) (fun _ _ _ h => h) (Or.inl ⟨by rfl, ?_⟩) ?_ ?_
  rotate_left
  · intro w'
    go_simp
    with_reducible rfl
  rotate_left
  · simp only [Act.put, lA_, lZ_, lS_, i64_w, i32_w]
    rfl
  refine pure_ (i := 5) (N := some 49) (v := ?_) (a' := ?_) #[true, true, true, true, true, true, false, false, false, false, false] rfl rfl (by kernel_rfl) (fun _ _ _ h => h) (Or.inl ⟨by rfl, ?_⟩) ?_ ?_
  rotate_left
  · intro w'
    go_simp
    with_reducible rfl
  rotate_left
  · simp only [Act.put, lA_, lZ_, lS_, i64_w, i32_w]
    rfl
  refine one_ (i := 6) (N := some 50) #[true, true, true, true, true, true, true, false, false, false, false] rfl rfl (by kernel_rfl) (by decide) (fun K hK => ?_)
  refine Kd.R_lit_step (Kd.int .i64) _ 2 ?hg (N := 50) ?hd (xs := ([1, sI, sR] : List Int)) (inner := [.int .i64 1, .int .i64 sI, .int .i64 sR]) (ok := fun _ => True) (okp := fun _ => True) ?hr ?hp (fun _ hk => hk) trivial (Below.refl _ _) (Nat.le_refl _) (by simp) ?_; (case hd => rfl); (case hg => rfl); (case hr => first | (go_simp; done) | (go_simp; rfl)); (case hp => exact reps_ints _)
  intro v6 w6 ho hb hg_ hn_
  clear hg_ hn_
  obtain ⟨AP, cP, eP⟩ := Kd.R_slice ho
  subst eP
  have HP := Aside0.mk ho
  have n0_ := Aside0.mk (HS.out.below hb)
  have n1_ := Aside0.mk (blk_below BL.out hb)
  have n2_ := Aside0.mk (blk_below BK.out hb)
  clear HS BL BK hb ho
  have HS := n0_; have BL := n1_; have BK := n2_
  clear n0_ n1_ n2_
  refine hK.out _ _ ((blk_cell BL.out 0).trans rfl) (fun hHeld => ?_)
  clear hK K
  refine norm_ (a' := ?_) ?_ ?_
  rotate_left
  · show Act.put _ (some 50) _ = _
    simp only [Act.put, lA_, lZ_, lS_, i64_w, i32_w]
    rfl
  refine one_ (i := 7) (N := some 51) #[true, true, true, true, true, true, true, true, false, false, false] rfl rfl (by kernel_rfl) (by decide) (fun K hK => ?_)
  refine goes_ Try.func68 (by kernel_rfl) rfl #[.pointer (some ⟨S, 0, none⟩), .slice AP 3 cP] (by rfl) rfl rfl (by (try simp only [List.map_toArray, List.map_cons, List.map_nil]); first | done | rfl) ?_
  refine (spec_l9Names.callsE k AP cP [1, sI, sR] 3 r4 HS.out rfl (Kd.R_reads' HP.out).2.2 (far_row HP.out (by decide) (by decide)) H4.out).mono ?_
  rintro e w7 ⟨rfl, hs, hk⟩
  refine ⟨_, rfl, ?_⟩
  have n0_ := Aside0.mk (blk_keepT BL.out hk (by decide) (by decide))
  have n1_ := Aside0.mk (blk_keepT BK.out hk (by decide) (by decide))
  clear HS BL BK
  have HS := Aside0.mk hs; have BL := n0_; have BK := n1_
  clear n0_ n1_ hs hk
  clear HP
  refine hK.out _ _ ((blk_cell BL.out 0).trans rfl) (fun hHeld => ?_)
  clear hK K
  refine norm_ (a' := ?_) ?_ ?_
  rotate_left
  · show Act.put _ (some 51) _ = _
    simp only [Act.put, lA_, lZ_, lS_, i64_w, i32_w]
    rfl
  refine one_ (i := 8) (N := some 52) #[true, true, true, true, true, true, true, true, true, false, false] rfl rfl (by kernel_rfl) (by decide) (fun K hK => ?_)
  refine goes_ Try.func102 (by kernel_rfl) rfl #[.pointer (some ⟨S, 0, none⟩), .int .i64 4, .int .i64 r3.1, .int .i64 r4.1] (by rfl) rfl rfl (by (try simp only [List.map_toArray, List.map_cons, List.map_nil]); first | done | rfl) ?_
  refine (spec_l9Two.callsE k 4 r3.1 r4.1 r5 HS.out H5.out).mono ?_
  rintro e w8 ⟨rfl, hs, hk⟩
  refine ⟨_, rfl, ?_⟩
  have n0_ := Aside0.mk (blk_keepT BL.out hk (by decide) (by decide))
  have n1_ := Aside0.mk (blk_keepT BK.out hk (by decide) (by decide))
  clear HS BL BK
  have HS := Aside0.mk hs; have BL := n0_; have BK := n1_
  clear n0_ n1_ hs hk
  refine hK.out _ _ ((blk_cell BL.out 0).trans rfl) (fun hHeld => ?_)
  clear hK K
  refine norm_ (a' := ?_) ?_ ?_
  rotate_left
  · show Act.put _ (some 52) _ = _
    simp only [Act.put, lA_, lZ_, lS_, i64_w, i32_w]
    rfl
  refine pure_ (i := 9) (N := some 53) (v := ?_) (a' := ?_) #[true, true, true, true, true, true, true, true, true, true, false] rfl rfl (by kernel_rfl) (fun _ _ _ h => h) (Or.inl ⟨by rfl, ?_⟩) ?_ ?_
  rotate_left
  · intro w'
    go_simp
    with_reducible rfl
  rotate_left
  · simp only [Act.put, lA_, lZ_, lS_, i64_w, i32_w]
    rfl
  refine last_ (i := 10) (N := none) #[true, true, true, true, true, true, true, true, true, true, true] rfl rfl (by kernel_rfl) (by decide) (fun K hK => ?_)
  have y_ : w8.cell? ⟨gl, 1, none⟩ = some (.int .i64 0) := (blk_cell BL.out 1).trans rfl
  have z_ := blk_frozen BL.out 1
  refine skip_ (w1 := ?_) (by rfl) rfl ?_ ?_
  rotate_left
  · go_simp
    rfl
  refine hK.out _ _ ?_
  clear hK K
  refine done_ (by kernel_rfl) ?_
  have n0_ := Aside0.mk (SE.far HS.out BL.out (by decide) (by decide) GL.out (Nat.le_trans HN.out GL.out) 1 (.int .i64 r5.1))
  have n1_ : Aside0 ((w8.setCell ⟨gl, 1, none⟩ (.int .i64 r5.1)).heap[gl]? = some (.cells #[.int .i64 r3.1, .int .i64 r5.1, .int .i64 0, .int .i64 0] 62 (0, 0))) := Aside0.mk (blk_put BL.out 1 (.int .i64 r5.1) rfl)
  have n2_ := Aside0.mk (blk_far BK.out (p := ⟨gl, 1, none⟩) NE.out (.int .i64 r5.1))
  clear HS BL BK y_ z_ hHeld
  have HS := n0_; have BL := n1_; have BK := n2_
  clear n0_ n1_ n2_
  generalize hw9 : w8.setCell ⟨gl, 1, none⟩ (.int .i64 r5.1) = w4 at HS BL BK ⊢
  clear hw9
  go_wp2_with fail
  have n0_ := Aside0.mk (show SE 94 N S w w4.drew _ _ from ⟨HS.out.1, HS.out.2.1, HS.out.2.2.drew⟩)
  have n1_ := Aside0.mk (blk_drew BL.out)
  have n2_ := Aside0.mk (blk_drew BK.out)
  clear HS BL BK
  have HS := n0_; have BL := n1_; have BK := n2_
  clear n0_ n1_ n2_
  refine start_ (n := 11) (S := fun w' => w'.cell? ⟨gl, 0, none⟩ = some (.int .i64 r3.1)) (ds := [10]) #[false, false, false, false, false, false, false, false, false, false, false] (by kernel_rfl) rfl rfl ((blk_cell BL.out 0).trans rfl) (fun hHeld => ?_)
  generalize hw5 : w4.drew = w5 at HS BL BK hHeld ⊢
  clear hw5
  refine pure_ (i := 0) (N := some 54) (v := ?_) (a' := ?_) #[true, false, false, false, false, false, false, false, false, false, false] rfl rfl (by kernel_rfl) (fun _ _ _ h => h) (Or.inl ⟨by rfl, ?_⟩) ?_ ?_
  rotate_left
  · intro w'
    go_simp
    with_reducible rfl
  rotate_left
  · simp only [Act.put, lA_, lZ_, lS_, i64_w, i32_w]
    rfl
  refine pure_ (i := 1) (N := some 55) (v := ?_) (a' := ?_) #[true, true, false, false, false, false, false, false, false, false, false] rfl rfl (by kernel_rfl) (fun _ _ _ h => h) (Or.inl ⟨by rfl, ?_⟩) ?_ ?_
  rotate_left
  · intro w'
    go_simp
    with_reducible rfl
  rotate_left
  · simp only [Act.put, lA_, lZ_, lS_, i64_w, i32_w]
    rfl
  refine take_ (i := 2) (N := some 56) (v := ?_) (a' := ?_) #[true, true, true, false, false, false, false, false, false, false, false] rfl rfl (by kernel_rfl) (fun _ _ _ h => h) (Or.inl ⟨by rfl, ?_⟩) hHeld ?_ ?_
  rotate_left
  · rintro w' s0
    go_simp
    with_reducible rfl
  rotate_left
  · simp only [Act.put, lA_, lZ_, lS_, i64_w, i32_w]
    rfl
  refine pure_ (i := 3) (N := some 57) (v := ?_) (a' := ?_) #[true, true, true, true, false, false, false, false, false, false, false] rfl rfl (by kernel_rfl) (fun _ _ _ h => h) (Or.inl ⟨by rfl, ?_⟩) ?_ ?_
  rotate_left
  · intro w'
    go_simp
    with_reducible rfl
  rotate_left
  · simp only [Act.put, lA_, lZ_, lS_, i64_w, i32_w]
    rfl
  refine pure_ (i := 4) (N := some 58) (v := ?_) (a' := ?_) #[true, true, true, true, true, false, false, false, false, false, false] rfl rfl (by kernel_rfl) (fun _ _ _ h => h) (Or.inl ⟨by rfl, ?_⟩) ?_ ?_
  rotate_left
  · intro w'
    go_simp
    with_reducible rfl
  rotate_left
  · simp only [Act.put, lA_, lZ_, lS_, i64_w, i32_w]
    rfl
  refine pure_ (i := 5) (N := some 59) (v := ?_) (a' := ?_) #[true, true, true, true, true, true, false, false, false, false, false] rfl rfl (by kernel_rfl) (fun _ _ _ h => h) (Or.inl ⟨by rfl, ?_⟩) ?_ ?_
  rotate_left
  · intro w'
    go_simp
    with_reducible rfl
  rotate_left
  · simp only [Act.put, lA_, lZ_, lS_, i64_w, i32_w]
    rfl
  refine one_ (i := 6) (N := some 60) #[true, true, true, true, true, true, true, false, false, false, false] rfl rfl (by kernel_rfl) (by decide) (fun K hK => ?_)
  refine Kd.R_lit_step (Kd.int .i64) _ 2 ?hg (N := 60) ?hd (xs := ([2, sI, sR] : List Int)) (inner := [.int .i64 2, .int .i64 sI, .int .i64 sR]) (ok := fun _ => True) (okp := fun _ => True) ?hr ?hp (fun _ hk => hk) trivial (Below.refl _ _) (Nat.le_refl _) (by simp) ?_; (case hd => rfl); (case hg => rfl); (case hr => first | (go_simp; done) | (go_simp; rfl)); (case hp => exact reps_ints _)
  intro v6 w6 ho hb hg_ hn_
  clear hg_ hn_
  obtain ⟨AP, cP, eP⟩ := Kd.R_slice ho
  subst eP
  have HP := Aside0.mk ho
  have n0_ := Aside0.mk (HS.out.below hb)
  have n1_ := Aside0.mk (blk_below BL.out hb)
  have n2_ := Aside0.mk (blk_below BK.out hb)
  clear HS BL BK hb ho
  have HS := n0_; have BL := n1_; have BK := n2_
  clear n0_ n1_ n2_
  refine hK.out _ _ ((blk_cell BL.out 0).trans rfl) (fun hHeld => ?_)
  clear hK K
  refine norm_ (a' := ?_) ?_ ?_
  rotate_left
  · show Act.put _ (some 60) _ = _
    simp only [Act.put, lA_, lZ_, lS_, i64_w, i32_w]
    rfl
  refine one_ (i := 7) (N := some 61) #[true, true, true, true, true, true, true, true, false, false, false] rfl rfl (by kernel_rfl) (by decide) (fun K hK => ?_)
  refine goes_ Try.func68 (by kernel_rfl) rfl #[.pointer (some ⟨S, 0, none⟩), .slice AP 3 cP] (by rfl) rfl rfl (by (try simp only [List.map_toArray, List.map_cons, List.map_nil]); first | done | rfl) ?_
  refine (spec_l9Names.callsE k AP cP [2, sI, sR] 3 r6 HS.out rfl (Kd.R_reads' HP.out).2.2 (far_row HP.out (by decide) (by decide)) H6.out).mono ?_
  rintro e w7 ⟨rfl, hs, hk⟩
  refine ⟨_, rfl, ?_⟩
  have n0_ := Aside0.mk (blk_keepT BL.out hk (by decide) (by decide))
  have n1_ := Aside0.mk (blk_keepT BK.out hk (by decide) (by decide))
  clear HS BL BK
  have HS := Aside0.mk hs; have BL := n0_; have BK := n1_
  clear n0_ n1_ hs hk
  clear HP
  refine hK.out _ _ ((blk_cell BL.out 0).trans rfl) (fun hHeld => ?_)
  clear hK K
  refine norm_ (a' := ?_) ?_ ?_
  rotate_left
  · show Act.put _ (some 61) _ = _
    simp only [Act.put, lA_, lZ_, lS_, i64_w, i32_w]
    rfl
  refine one_ (i := 8) (N := some 62) #[true, true, true, true, true, true, true, true, true, false, false] rfl rfl (by kernel_rfl) (by decide) (fun K hK => ?_)
  refine goes_ Try.func102 (by kernel_rfl) rfl #[.pointer (some ⟨S, 0, none⟩), .int .i64 4, .int .i64 r3.1, .int .i64 r6.1] (by rfl) rfl rfl (by (try simp only [List.map_toArray, List.map_cons, List.map_nil]); first | done | rfl) ?_
  refine (spec_l9Two.callsE k 4 r3.1 r6.1 r7 HS.out H7.out).mono ?_
  rintro e w8 ⟨rfl, hs, hk⟩
  refine ⟨_, rfl, ?_⟩
  have n0_ := Aside0.mk (blk_keepT BL.out hk (by decide) (by decide))
  have n1_ := Aside0.mk (blk_keepT BK.out hk (by decide) (by decide))
  clear HS BL BK
  have HS := Aside0.mk hs; have BL := n0_; have BK := n1_
  clear n0_ n1_ hs hk
  refine hK.out _ _ ((blk_cell BL.out 0).trans rfl) (fun hHeld => ?_)
  clear hK K
  refine norm_ (a' := ?_) ?_ ?_
  rotate_left
  · show Act.put _ (some 62) _ = _
    simp only [Act.put, lA_, lZ_, lS_, i64_w, i32_w]
    rfl
  refine pure_ (i := 9) (N := some 63) (v := ?_) (a' := ?_) #[true, true, true, true, true, true, true, true, true, true, false] rfl rfl (by kernel_rfl) (fun _ _ _ h => h) (Or.inl ⟨by rfl, ?_⟩) ?_ ?_
  rotate_left
  · intro w'
    go_simp
    with_reducible rfl
  rotate_left
  · simp only [Act.put, lA_, lZ_, lS_, i64_w, i32_w]
    rfl
  refine last_ (i := 10) (N := none) #[true, true, true, true, true, true, true, true, true, true, true] rfl rfl (by kernel_rfl) (by decide) (fun K hK => ?_)
  have y_ : w8.cell? ⟨gl, 2, none⟩ = some (.int .i64 0) := (blk_cell BL.out 2).trans rfl
  have z_ := blk_frozen BL.out 2
  refine skip_ (w1 := ?_) (by rfl) rfl ?_ ?_
  rotate_left
  · go_simp
    rfl
  refine hK.out _ _ ?_
  clear hK K
  refine done_ (by kernel_rfl) ?_
  have n0_ := Aside0.mk (SE.far HS.out BL.out (by decide) (by decide) GL.out (Nat.le_trans HN.out GL.out) 2 (.int .i64 r7.1))
  have n1_ : Aside0 ((w8.setCell ⟨gl, 2, none⟩ (.int .i64 r7.1)).heap[gl]? = some (.cells #[.int .i64 r3.1, .int .i64 r5.1, .int .i64 r7.1, .int .i64 0] 62 (0, 0))) := Aside0.mk (blk_put BL.out 2 (.int .i64 r7.1) rfl)
  have n2_ := Aside0.mk (blk_far BK.out (p := ⟨gl, 2, none⟩) NE.out (.int .i64 r7.1))
  clear HS BL BK y_ z_ hHeld
  have HS := n0_; have BL := n1_; have BK := n2_
  clear n0_ n1_ n2_
  generalize hw9 : w8.setCell ⟨gl, 2, none⟩ (.int .i64 r7.1) = w4 at HS BL BK ⊢
  clear hw9
  go_wp2_with fail
  have n0_ := Aside0.mk (show SE 94 N S w w4.drew _ _ from ⟨HS.out.1, HS.out.2.1, HS.out.2.2.drew⟩)
  have n1_ := Aside0.mk (blk_drew BL.out)
  have n2_ := Aside0.mk (blk_drew BK.out)
  clear HS BL BK
  have HS := n0_; have BL := n1_; have BK := n2_
  clear n0_ n1_ n2_
  refine start_ (n := 11) (S := fun w' => w'.cell? ⟨gl, 0, none⟩ = some (.int .i64 r3.1)) (ds := [10]) #[false, false, false, false, false, false, false, false, false, false, false] (by kernel_rfl) rfl rfl ((blk_cell BL.out 0).trans rfl) (fun hHeld => ?_)
  generalize hw5 : w4.drew = w5 at HS BL BK hHeld ⊢
  clear hw5
  refine pure_ (i := 0) (N := some 64) (v := ?_) (a' := ?_) #[true, false, false, false, false, false, false, false, false, false, false] rfl rfl (by kernel_rfl) (fun _ _ _ h => h) (Or.inl ⟨by rfl, ?_⟩) ?_ ?_
  rotate_left
  · intro w'
    go_simp
    with_reducible rfl
  rotate_left
  · simp only [Act.put, lA_, lZ_, lS_, i64_w, i32_w]
    rfl
  refine pure_ (i := 1) (N := some 65) (v := ?_) (a' := ?_) #[true, true, false, false, false, false, false, false, false, false, false] rfl rfl (by kernel_rfl) (fun _ _ _ h => h) (Or.inl ⟨by rfl, ?_⟩) ?_ ?_
  rotate_left
  · intro w'
    go_simp
    with_reducible rfl
  rotate_left
  · simp only [Act.put, lA_, lZ_, lS_, i64_w, i32_w]
    rfl
  refine take_ (i := 2) (N := some 66) (v := ?_) (a' := ?_) #[true, true, true, false, false, false, false, false, false, false, false] rfl rfl (by kernel_rfl) (fun _ _ _ h => h) (Or.inl ⟨by rfl, ?_⟩) hHeld ?_ ?_
  rotate_left
  · rintro w' s0
    go_simp
    with_reducible rfl
  rotate_left
  · simp only [Act.put, lA_, lZ_, lS_, i64_w, i32_w]
    rfl
  refine pure_ (i := 3) (N := some 67) (v := ?_) (a' := ?_) #[true, true, true, true, false, false, false, false, false, false, false] rfl rfl (by kernel_rfl) (fun _ _ _ h => h) (Or.inl ⟨by rfl, ?_⟩) ?_ ?_
  rotate_left
  · intro w'
    go_simp
    with_reducible rfl
  rotate_left
  · simp only [Act.put, lA_, lZ_, lS_, i64_w, i32_w]
    rfl
  refine pure_ (i := 4) (N := some 68) (v := ?_) (a' := ?_) #[true, true, true, true, true, false, false, false, false, false, false] rfl rfl (by kernel_rfl) (fun _ _ _ h => h) (Or.inl ⟨by rfl, ?_⟩) ?_ ?_
  rotate_left
  · intro w'
    go_simp
    with_reducible rfl
  rotate_left
  · simp only [Act.put, lA_, lZ_, lS_, i64_w, i32_w]
    rfl
  refine pure_ (i := 5) (N := some 69) (v := ?_) (a' := ?_) #[true, true, true, true, true, true, false, false, false, false, false] rfl rfl (by kernel_rfl) (fun _ _ _ h => h) (Or.inl ⟨by rfl, ?_⟩) ?_ ?_
  rotate_left
  · intro w'
    go_simp
    with_reducible rfl
  rotate_left
  · simp only [Act.put, lA_, lZ_, lS_, i64_w, i32_w]
    rfl
  refine one_ (i := 6) (N := some 70) #[true, true, true, true, true, true, true, false, false, false, false] rfl rfl (by kernel_rfl) (by decide) (fun K hK => ?_)
  refine Kd.R_lit_step (Kd.int .i64) _ 2 ?hg (N := 70) ?hd (xs := ([3, sI, sR] : List Int)) (inner := [.int .i64 3, .int .i64 sI, .int .i64 sR]) (ok := fun _ => True) (okp := fun _ => True) ?hr ?hp (fun _ hk => hk) trivial (Below.refl _ _) (Nat.le_refl _) (by simp) ?_; (case hd => rfl); (case hg => rfl); (case hr => first | (go_simp; done) | (go_simp; rfl)); (case hp => exact reps_ints _)
  intro v6 w6 ho hb hg_ hn_
  clear hg_ hn_
  obtain ⟨AP, cP, eP⟩ := Kd.R_slice ho
  subst eP
  have HP := Aside0.mk ho
  have n0_ := Aside0.mk (HS.out.below hb)
  have n1_ := Aside0.mk (blk_below BL.out hb)
  have n2_ := Aside0.mk (blk_below BK.out hb)
  clear HS BL BK hb ho
  have HS := n0_; have BL := n1_; have BK := n2_
  clear n0_ n1_ n2_
  refine hK.out _ _ ((blk_cell BL.out 0).trans rfl) (fun hHeld => ?_)
  clear hK K
  refine norm_ (a' := ?_) ?_ ?_
  rotate_left
  · show Act.put _ (some 70) _ = _
    simp only [Act.put, lA_, lZ_, lS_, i64_w, i32_w]
    rfl
  refine one_ (i := 7) (N := some 71) #[true, true, true, true, true, true, true, true, false, false, false] rfl rfl (by kernel_rfl) (by decide) (fun K hK => ?_)
  refine goes_ Try.func68 (by kernel_rfl) rfl #[.pointer (some ⟨S, 0, none⟩), .slice AP 3 cP] (by rfl) rfl rfl (by (try simp only [List.map_toArray, List.map_cons, List.map_nil]); first | done | rfl) ?_
  refine (spec_l9Names.callsE k AP cP [3, sI, sR] 3 r8 HS.out rfl (Kd.R_reads' HP.out).2.2 (far_row HP.out (by decide) (by decide)) H8.out).mono ?_
  rintro e w7 ⟨rfl, hs, hk⟩
  refine ⟨_, rfl, ?_⟩
  have n0_ := Aside0.mk (blk_keepT BL.out hk (by decide) (by decide))
  have n1_ := Aside0.mk (blk_keepT BK.out hk (by decide) (by decide))
  clear HS BL BK
  have HS := Aside0.mk hs; have BL := n0_; have BK := n1_
  clear n0_ n1_ hs hk
  clear HP
  refine hK.out _ _ ((blk_cell BL.out 0).trans rfl) (fun hHeld => ?_)
  clear hK K
  refine norm_ (a' := ?_) ?_ ?_
  rotate_left
  · show Act.put _ (some 71) _ = _
    simp only [Act.put, lA_, lZ_, lS_, i64_w, i32_w]
    rfl
  refine one_ (i := 8) (N := some 72) #[true, true, true, true, true, true, true, true, true, false, false] rfl rfl (by kernel_rfl) (by decide) (fun K hK => ?_)
  refine goes_ Try.func102 (by kernel_rfl) rfl #[.pointer (some ⟨S, 0, none⟩), .int .i64 4, .int .i64 r3.1, .int .i64 r8.1] (by rfl) rfl rfl (by (try simp only [List.map_toArray, List.map_cons, List.map_nil]); first | done | rfl) ?_
  refine (spec_l9Two.callsE k 4 r3.1 r8.1 r9 HS.out H9.out).mono ?_
  rintro e w8 ⟨rfl, hs, hk⟩
  refine ⟨_, rfl, ?_⟩
  have n0_ := Aside0.mk (blk_keepT BL.out hk (by decide) (by decide))
  have n1_ := Aside0.mk (blk_keepT BK.out hk (by decide) (by decide))
  clear HS BL BK
  have HS := Aside0.mk hs; have BL := n0_; have BK := n1_
  clear n0_ n1_ hs hk
  refine hK.out _ _ ((blk_cell BL.out 0).trans rfl) (fun hHeld => ?_)
  clear hK K
  refine norm_ (a' := ?_) ?_ ?_
  rotate_left
  · show Act.put _ (some 72) _ = _
    simp only [Act.put, lA_, lZ_, lS_, i64_w, i32_w]
    rfl
  refine pure_ (i := 9) (N := some 73) (v := ?_) (a' := ?_) #[true, true, true, true, true, true, true, true, true, true, false] rfl rfl (by kernel_rfl) (fun _ _ _ h => h) (Or.inl ⟨by rfl, ?_⟩) ?_ ?_
  rotate_left
  · intro w'
    go_simp
    with_reducible rfl
  rotate_left
  · simp only [Act.put, lA_, lZ_, lS_, i64_w, i32_w]
    rfl
  refine last_ (i := 10) (N := none) #[true, true, true, true, true, true, true, true, true, true, true] rfl rfl (by kernel_rfl) (by decide) (fun K hK => ?_)
  have y_ : w8.cell? ⟨gl, 3, none⟩ = some (.int .i64 0) := (blk_cell BL.out 3).trans rfl
  have z_ := blk_frozen BL.out 3
  refine skip_ (w1 := ?_) (by rfl) rfl ?_ ?_
  rotate_left
  · go_simp
    rfl
  refine hK.out _ _ ?_
  clear hK K
  refine done_ (by kernel_rfl) ?_
  have n0_ := Aside0.mk (SE.far HS.out BL.out (by decide) (by decide) GL.out (Nat.le_trans HN.out GL.out) 3 (.int .i64 r9.1))
  have n1_ : Aside0 ((w8.setCell ⟨gl, 3, none⟩ (.int .i64 r9.1)).heap[gl]? = some (.cells #[.int .i64 r3.1, .int .i64 r5.1, .int .i64 r7.1, .int .i64 r9.1] 62 (0, 0))) := Aside0.mk (blk_put BL.out 3 (.int .i64 r9.1) rfl)
  have n2_ := Aside0.mk (blk_far BK.out (p := ⟨gl, 3, none⟩) NE.out (.int .i64 r9.1))
  clear HS BL BK y_ z_ hHeld
  have HS := n0_; have BL := n1_; have BK := n2_
  clear n0_ n1_ n2_
  generalize hw9 : w8.setCell ⟨gl, 3, none⟩ (.int .i64 r9.1) = w9 at HS BL BK ⊢
  clear hw9
  have y0_ : w9.cell? ⟨gl, 0, none⟩ = some (.int .i64 r3.1) := (blk_cell BL.out 0).trans rfl; have y1_ : w9.cell? ⟨gl, 1, none⟩ = some (.int .i64 r5.1) := (blk_cell BL.out 1).trans rfl; have y2_ : w9.cell? ⟨gl, 2, none⟩ = some (.int .i64 r7.1) := (blk_cell BL.out 2).trans rfl; have y3_ : w9.cell? ⟨gl, 3, none⟩ = some (.int .i64 r9.1) := (blk_cell BL.out 3).trans rfl
  have x0_ : w9.cell? ⟨g14, 0, none⟩ = some (.int .i64 0) := (blk_cell BK.out 0).trans rfl; have x1_ : w9.cell? ⟨g14, 1, none⟩ = some (.int .i64 0) := (blk_cell BK.out 1).trans rfl; have x2_ : w9.cell? ⟨g14, 2, none⟩ = some (.int .i64 0) := (blk_cell BK.out 2).trans rfl; have x3_ : w9.cell? ⟨g14, 3, none⟩ = some (.int .i64 0) := (blk_cell BK.out 3).trans rfl
  have z0_ := blk_frozen BK.out 0; have z1_ := blk_frozen BK.out 1; have z2_ := blk_frozen BK.out 2; have z3_ := blk_frozen BK.out 3
  have ne1_ := NE.out
  have ne2_ := NE.out.symm
  go_wp2
  refine bodyPost_ret (results_cell_row rfl _ _ g14 62 #[.int .i64 r3.1, .int .i64 r5.1, .int .i64 r7.1, .int .i64 r9.1] (0, 0) _ rfl (blk_put (blk_put (blk_put (blk_put BK.out 0 _ rfl) 1 _ rfl) 2 _ rfl) 3 _ rfl) Try.underlying62 rfl (by kernel_rfl)) rfl ?_
  exact ⟨rfl, (SE.far (SE.far (SE.far (SE.far HS.out BK.out (by decide) (by decide) GE.out (Nat.le_trans HN.out GE.out) 0 _) (blk_put BK.out 0 _ rfl) (by decide) (by decide) GE.out (Nat.le_trans HN.out GE.out) 1 _) (blk_put (blk_put BK.out 0 _ rfl) 1 _ rfl) (by decide) (by decide) GE.out (Nat.le_trans HN.out GE.out) 2 _) (blk_put (blk_put (blk_put BK.out 0 _ rfl) 1 _ rfl) 2 _ rfl) (by decide) (by decide) GE.out (Nat.le_trans HN.out GE.out) 3 _)⟩
end Go.Proofs.Ytomaeijhljpgdaa.G
