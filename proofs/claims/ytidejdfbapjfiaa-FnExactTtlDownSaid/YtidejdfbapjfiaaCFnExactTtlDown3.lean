/- Part 3 of the proof of FnExactTtlDown: what the functions on its road do, and the plain laws. -/
import Derived.Test.YtidejdfbapjfiaaCFnExactTtlDown2
import Derived.Deep.Cut
namespace Go.Proofs.Ytidejdfbapjfiaa.G
open Go.RowKit Go.Proofs.YtidejdfbapjfiaaW.PrintWords Go.Proofs.YtidejdfbapjfiaaW.PrintLast Go.Proofs.YtidejdfbapjfiaaW.PrintMore
attribute [local go_sem] max2_int min2_int max_two min_two max_three min_three max_four min_four   -- for this text's walks alone
set_option linter.unusedVariables false
set_option linter.unusedSimpArgs false
def spec_l2Build.j0 : Nat → List Int → Int → Int → Int → Int → Int → Int → List Int → Option (List Int)
 | 0, _, _, _, _, _, _, _, _ => none
 | k + 1, x3, x581000, x581001, x581002, x581003, x581004, x581005, x581006 => (some (([69, 0] : List Int) : List Int)).bind fun y600 => ((spec_l1Bytes.f k (wrap64 (20 + (x3.length : Int))) 2).bind fun t603 => (if y600.length + t603.length < 140737488355328 then ((some (y600 ++ t603 : List Int)).bind fun y606 => ((some (([0, 0, 64, 0, (x581003) % 256, (x581002) % 256] : List Int) : List Int)).bind fun y609 => (if y606.length + y609.length < 140737488355328 then ((some (y606 ++ y609 : List Int)).bind fun y612 => ((spec_l1Bytes.f k x581000 4).bind fun t615 => ((spec_l1Bytes.f k x581001 4).bind fun t618 => (if t615.length + t618.length < 140737488355328 then ((some (t615 ++ t618 : List Int)).bind fun y621 => ((some (([] : List Int) : List Int)).bind fun y624 => (if y624.length + y612.length < 140737488355328 then ((some (y624 ++ y612 : List Int)).bind fun y627 => ((some (([0, 0] : List Int) : List Int)).bind fun y630 => (if y627.length + y630.length < 140737488355328 then ((some (y627 ++ y630 : List Int)).bind fun y633 => (if y633.length + y621.length < 140737488355328 then ((some (([] : List Int) : List Int)).bind fun y639 => (if y639.length + y612.length < 140737488355328 then ((some (y639 ++ y612 : List Int)).bind fun y642 => ((spec_SumWords.f k (y633 ++ y621)).bind fun t645 => ((spec_l1Bytes.f k t645 2).bind fun t646 => (if y642.length + t646.length < 140737488355328 then ((some (y642 ++ t646 : List Int)).bind fun y649 => (if y649.length + y621.length < 140737488355328 then ((some (y649 ++ y621 : List Int)).bind fun y652 => (if y652.length + x3.length < 140737488355328 then (some (y652 ++ x3)) else (none))) else (none))) else (none))))) else (none))) else (none))) else (none)))) else (none)))) else (none))))) else (none)))) else (none)))
def spec_l2Build.f (k : Nat) (a0_0 : Int) (a0_1 : Int) (a0_2 : Int) (a0_3 : Int) (a0_4 : Int) (a0_5 : Int) (l0_6 : List Int) : Option (List Int) := (some (([] : List Int) : List Int)).bind fun y581 => (if y581.length + l0_6.length < 140737488355328 then ((some (y581 ++ l0_6 : List Int)).bind fun y584 => ((spec_HasPorts.f a0_2).bind fun t587 => (if t587 = true then ((spec_l1Bytes.f k a0_4 2).bind fun t588 => ((spec_l1Bytes.f k a0_5 2).bind fun t591 => (if t588.length + t591.length < 140737488355328 then ((some (t588 ++ t591 : List Int)).bind fun y594 => (if y594.length + y584.length < 140737488355328 then (spec_l2Build.j0 k (y594 ++ y584) a0_0 a0_1 a0_2 a0_3 a0_4 a0_5 l0_6) else (none))) else (none)))) else (spec_l2Build.j0 k y584 a0_0 a0_1 a0_2 a0_3 a0_4 a0_5 l0_6)))) else (none))
def spec_l2Build.T3 : Bool × List (List Nat × List Nat) := (true, [([], []), ([0], [0]), ([1], [1]), ([], []), ([3], [3]), ([4, 2], [4]), ([2, 5, 5], [2, 5]), ([], []), ([6, 7, 6], [6, 7]), ([8, 8, 0, 1, 2, 3, 4, 5, 6, 7, 8], [7, 8])])
def spec_l2Build.B3 : List Nat := [0, 1, 3, 0, 8, 31, 63, 0, 255, 511]
theorem spec_l2Build.tab3 : rtab .any (opsOf Try.f61 3) = spec_l2Build.T3 := by kernel_rfl
theorem spec_l2Build.bits3 : waitsOk spec_l2Build.T3.2 spec_l2Build.B3 = true := by kernel_rfl
def spec_l2Build.T6 : Bool × List (List Nat × List Nat) := (true, [([], []), ([0], [0]), ([1], [1]), ([], []), ([3], [3]), ([4, 2], [4]), ([2, 5, 5], [2, 5]), ([6, 6, 0, 1, 2, 3, 4, 5, 6], [6])])
def spec_l2Build.B6 : List Nat := [0, 1, 3, 0, 8, 31, 63, 127]
theorem spec_l2Build.tab6 : rtab .any (opsOf Try.f61 6) = spec_l2Build.T6 := by kernel_rfl
theorem spec_l2Build.bits6 : waitsOk spec_l2Build.T6.2 spec_l2Build.B6 = true := by kernel_rfl
set_option maxHeartbeats 8000000 in
set_option maxRecDepth 100000 in
theorem spec_l2Build.calls (k : Nat) (a0_0 : Int) (a0_1 : Int) (a0_2 : Int) (a0_3 : Int) (a0_4 : Int) (a0_5 : Int) (A0_6 : Option Addr) (c0_6 : Nat) (l0_6 : List Int) (r : List Int) (w : World) (hr0_6 : Kd.C (Kd.int .u8) w A0_6 l0_6.length l0_6) (hc0_6 : l0_6.length ≤ c0_6) (h : spec_l2Build.f k a0_0 a0_1 a0_2 a0_3 a0_4 a0_5 l0_6 = some r) :
  Calls Try.prog 61 #[.agg #[.int .i64 a0_0, .int .i64 a0_1, .int .i64 a0_2, .int .i64 a0_3, .int .i64 a0_4, .int .i64 a0_5, .slice A0_6 l0_6.length c0_6]] w fun e w' => ∃ v0_ : Value, e = .returned (v0_) ∧ Kd.R (Kd.int .u8) 5 w' w.heap.size (fun _ => True) v0_ r ∧ Below w.heap.size w w' := by
 have hu34 := Try.underlying34
 have HR0_6 := Aside0.mk hr0_6
 have HC0_6 := Aside0.mk hc0_6
 clear hr0_6 hc0_6
 have HB := Aside0.mk (Below.refl w.heap.size w)
 have H : ((some (([] : List Int) : List Int)).bind fun y581 => (if y581.length + l0_6.length < 140737488355328 then ((some (y581 ++ l0_6 : List Int)).bind fun y584 => ((spec_HasPorts.f a0_2).bind fun t587 => (if t587 = true then ((spec_l1Bytes.f k a0_4 2).bind fun t588 => ((spec_l1Bytes.f k a0_5 2).bind fun t591 => (if t588.length + t591.length < 140737488355328 then ((some (t588 ++ t591 : List Int)).bind fun y594 => (if y594.length + y584.length < 140737488355328 then (spec_l2Build.j0 k (y594 ++ y584) a0_0 a0_1 a0_2 a0_3 a0_4 a0_5 l0_6) else (none))) else (none)))) else (spec_l2Build.j0 k y584 a0_0 a0_1 a0_2 a0_3 a0_4 a0_5 l0_6)))) else (none))) = some r := h
 clear h
 obtain ⟨y581, hy581⟩ : ∃ y_ : List Int, y_ = (([] : List Int)) := ⟨_, rfl⟩
 replace H : (if y581.length + l0_6.length < 140737488355328 then ((some (y581 ++ l0_6 : List Int)).bind fun y584 => ((spec_HasPorts.f a0_2).bind fun t587 => (if t587 = true then ((spec_l1Bytes.f k a0_4 2).bind fun t588 => ((spec_l1Bytes.f k a0_5 2).bind fun t591 => (if t588.length + t591.length < 140737488355328 then ((some (t588 ++ t591 : List Int)).bind fun y594 => (if y594.length + y584.length < 140737488355328 then (spec_l2Build.j0 k (y594 ++ y584) a0_0 a0_1 a0_2 a0_3 a0_4 a0_5 l0_6) else (none))) else (none)))) else (spec_l2Build.j0 k y584 a0_0 a0_1 a0_2 a0_3 a0_4 a0_5 l0_6)))) else (none)) = some r := by first | (rw [hy581]; with_reducible exact H) | (have H2_ := (Option.bind_some _ _).symm.trans H; rw [hy581]; with_reducible exact H2_) | (have H2_ := (Option.bind_some _ _).symm.trans H; with_reducible exact H2_) | with_reducible exact H | (rw [hy581]; exact H) | exact H
 have Ny581 := Aside0.mk hy581
 clear hy581
 by_cases c2 : y581.length + l0_6.length < 140737488355328
 ·rw [if_pos c2] at H
  have LMc2 := Aside0.mk c2
  clear c2
  obtain ⟨y584, hy584⟩ : ∃ y_ : List Int, y_ = (y581 ++ l0_6) := ⟨_, rfl⟩
  replace H : ((spec_HasPorts.f a0_2).bind fun t587 => (if t587 = true then ((spec_l1Bytes.f k a0_4 2).bind fun t588 => ((spec_l1Bytes.f k a0_5 2).bind fun t591 => (if t588.length + t591.length < 140737488355328 then ((some (t588 ++ t591 : List Int)).bind fun y594 => (if y594.length + y584.length < 140737488355328 then (spec_l2Build.j0 k (y594 ++ y584) a0_0 a0_1 a0_2 a0_3 a0_4 a0_5 l0_6) else (none))) else (none)))) else (spec_l2Build.j0 k y584 a0_0 a0_1 a0_2 a0_3 a0_4 a0_5 l0_6))) = some r := by first | (rw [hy584]; with_reducible exact H) | (have H2_ := (Option.bind_some _ _).symm.trans H; rw [hy584]; with_reducible exact H2_) | (have H2_ := (Option.bind_some _ _).symm.trans H; with_reducible exact H2_) | with_reducible exact H | (rw [hy584]; exact H) | exact H
  have Ny584 := Aside0.mk hy584
  clear hy584
  replace H := Option.bind_eq_some_iff.mp H
  obtain ⟨t587, A30, H⟩ := H
  try dsimp only at H
  have A3 := Aside0.mk A30
  clear A30
  have HC4 := Aside0.mk H
  clear H
  go_enter Try.func61, Try.ntmps61
  go_upto_if 14 with (first | ((with_reducible refine gate_dst (N := 1) rfl ?_); refine box_event ?hg (N := 1) ?hd (cs := #[.int .i64 a0_0, .int .i64 a0_1, .int .i64 a0_2, .int .i64 a0_3, .int .i64 a0_4, .int .i64 a0_5, .slice A0_6 l0_6.length c0_6]) (t := 34) ?hr ?_; (case hd => rfl); (case hg => rfl); (case hr => first | (go_simp; done) | (go_simp; rfl)); intro gb580 hg w5 hbox hb; have n0_ := Aside0.mk (below_step (by repeat (first | (with_reducible first | exact HB.out | apply below_alloc | apply pw_below_drewN | apply below_drew1) | exact HB.out)) hb); have n1_ := Aside0.mk (hbox); have n2_ := Aside0.mk ((by rw [hg]; exact (below_size (by repeat (first | (with_reducible first | exact HB.out | apply below_alloc | apply pw_below_drewN | apply below_drew1) | exact HB.out))) : w.heap.size ≤ gb580)); have n3_ := Aside0.mk ((by rw [hg]; exact (below_size (by repeat (first | (with_reducible first | exact HB.out | apply below_alloc | apply pw_below_drewN | apply below_drew1) | exact HB.out))) : w.heap.size ≤ gb580)); clear HB; have HB := n0_; have BK580 := n1_; have GW580 := n2_; have GE580 := n3_; clear n0_ n1_ n2_ n3_; clear hb hbox hg) | ((with_reducible refine gate_dst (N := 8) rfl ?_); refine Kd.R_lit (Kd.int .u8) _ 5 ?hg (N := 8) ?hd (xs := ([] : List Int)) (inner := []) (ok := fun _ => True) (okp := fun _ => True) ?hr ?hp (fun _ hk => hk) trivial (Below.refl _ _) (Nat.le_refl _) (by simp) ?_; (case hd => rfl); (case hg => rfl); (case hr => first | (go_simp; done) | (go_simp; rfl)); (case hp => exact (Reps.none _ _)); intro v582 w6 ho7 hb hg_ hnew_; clear hg_ hnew_; (first | rw [← Ny581.out] at ho7 | (simp only [Int.reduceToNat] at ho7; rw [← Ny581.out] at ho7)); have n0_ := Aside0.mk (Kd.R_lower ho7 (below_size (by repeat (first | (with_reducible first | exact HB.out | apply below_alloc | apply pw_below_drewN | apply below_drew1 | refine below_set ?_ GE580.out) | exact HB.out)))); have n1_ := Aside0.mk (blk_below (g := gb580) (o := .cells #[.int .i64 a0_0, .int .i64 a0_1, .int .i64 a0_2, .int .i64 a0_3, .int .i64 a0_4, .int .i64 a0_5, .slice A0_6 l0_6.length c0_6] 34 (0, 0)) (by (with_reducible repeat (first | refine blk_drewN ?_ _ | refine blk_drew ?_ | refine blk_alloc ?_ _)); exact BK580.out) hb); have n2_ := Aside0.mk (below_step (by repeat (first | (with_reducible first | exact HB.out | apply below_alloc | apply pw_below_drewN | apply below_drew1 | refine below_set ?_ GE580.out) | exact HB.out)) hb); clear BK580; clear HB; have HO583 := n0_; have BK580 := n1_; have HB := n2_; clear n0_ n1_ n2_; clear hb ho7; have hcz8_0 : w6.cell? ⟨gb580, 0, none⟩ = some (.int .i64 a0_0) := (blk_cell BK580.out 0).trans rfl; have hcz8_1 : w6.cell? ⟨gb580, 1, none⟩ = some (.int .i64 a0_1) := (blk_cell BK580.out 1).trans rfl; have hcz8_2 : w6.cell? ⟨gb580, 2, none⟩ = some (.int .i64 a0_2) := (blk_cell BK580.out 2).trans rfl; have hcz8_3 : w6.cell? ⟨gb580, 3, none⟩ = some (.int .i64 a0_3) := (blk_cell BK580.out 3).trans rfl; have hcz8_4 : w6.cell? ⟨gb580, 4, none⟩ = some (.int .i64 a0_4) := (blk_cell BK580.out 4).trans rfl; have hcz8_5 : w6.cell? ⟨gb580, 5, none⟩ = some (.int .i64 a0_5) := (blk_cell BK580.out 5).trans rfl; have hcz8_6 : w6.cell? ⟨gb580, 6, none⟩ = some (.slice A0_6 l0_6.length c0_6) := (blk_cell BK580.out 6).trans rfl; have hfz8_0 := blk_frozen BK580.out 0; have hfz8_1 := blk_frozen BK580.out 1; have hfz8_2 := blk_frozen BK580.out 2; have hfz8_3 := blk_frozen BK580.out 3; have hfz8_4 := blk_frozen BK580.out 4; have hfz8_5 := blk_frozen BK580.out 5; have hfz8_6 := blk_frozen BK580.out 6) | ((with_reducible refine gate_builtin (b := .append) (xs := #[.tmp 8, .tmp 10]) rfl ?_); at_builtin; refine Kd.R_append_rows (Kd.int .u8) (w0 := w) w.heap.size rfl (.tmp 8) (.tmp 10) 22 5 (.int .u8 0) 1 rfl Try.underlying22 info5 rfl (by decide) (by omega) v582 y581 l0_6 _ _ _ (fun _ => True) (fun _ => False) rfl rfl ?aO ?aR (fun _ _ h => h) (fun _ h => h.elim) ?aF ?aB ?aS ?aL ?_; (case aR => repeat (first | exact (Kd.C_below HR0_6.out HB.out) | (with_reducible refine Kd.C_alloc ?_ _) | (with_reducible refine Kd.C_drewN ?_ _) | (with_reducible refine Kd.C_drew ?_))); (case aB => exact (by repeat (first | (with_reducible first | exact HB.out | apply below_alloc | apply pw_below_drewN | apply below_drew1 | refine below_set ?_ GE580.out) | exact HB.out))); (case aF => exact (fun _ _ => trivial)); (case aO => exact (by (with_reducible repeat (first | apply Kd.R_alloc | apply Kd.R_drewN | apply Kd.R_drew)); exact HO583.out)); (case aS => exact (below_size (by repeat (first | (with_reducible first | exact HB.out | apply below_alloc | apply pw_below_drewN | apply below_drew1 | refine below_set ?_ GE580.out) | exact HB.out)))); (case aL => have := LMc2.out; omega); intro v585 w9 ho hb hg hat; rw [← Ny584.out] at ho; have n0_ := Aside0.mk (blk_grown (g := gb580) (o := .cells #[.int .i64 a0_0, .int .i64 a0_1, .int .i64 a0_2, .int .i64 a0_3, .int .i64 a0_4, .int .i64 a0_5, .slice A0_6 l0_6.length c0_6] 34 (0, 0)) (by (with_reducible repeat (first | refine blk_drewN ?_ _ | refine blk_drew ?_ | refine blk_alloc ?_ _)); exact BK580.out) hg (Kd.R_ne HO583.out BK580.out (by decide))); have n1_ := Aside0.mk (hb); have n2_ := Aside0.mk (ho); clear BK580; clear HB; clear HO583; have BK580 := n0_; have HB := n1_; have HO586 := n2_; clear n0_ n1_ n2_; clear ho hb hg hat; have hcz10_0 : w9.cell? ⟨gb580, 0, none⟩ = some (.int .i64 a0_0) := (blk_cell BK580.out 0).trans rfl; have hcz10_1 : w9.cell? ⟨gb580, 1, none⟩ = some (.int .i64 a0_1) := (blk_cell BK580.out 1).trans rfl; have hcz10_2 : w9.cell? ⟨gb580, 2, none⟩ = some (.int .i64 a0_2) := (blk_cell BK580.out 2).trans rfl; have hcz10_3 : w9.cell? ⟨gb580, 3, none⟩ = some (.int .i64 a0_3) := (blk_cell BK580.out 3).trans rfl; have hcz10_4 : w9.cell? ⟨gb580, 4, none⟩ = some (.int .i64 a0_4) := (blk_cell BK580.out 4).trans rfl; have hcz10_5 : w9.cell? ⟨gb580, 5, none⟩ = some (.int .i64 a0_5) := (blk_cell BK580.out 5).trans rfl; have hcz10_6 : w9.cell? ⟨gb580, 6, none⟩ = some (.slice A0_6 l0_6.length c0_6) := (blk_cell BK580.out 6).trans rfl; have hfz10_0 := blk_frozen BK580.out 0; have hfz10_1 := blk_frozen BK580.out 1; have hfz10_2 := blk_frozen BK580.out 2; have hfz10_3 := blk_frozen BK580.out 3; have hfz10_4 := blk_frozen BK580.out 4; have hfz10_5 := blk_frozen BK580.out 5; have hfz10_6 := blk_frozen BK580.out 6) | ((with_reducible refine gate_callee (f := 55) rfl ?_); refine goesL_ (some 14) rfl rfl Try.func55 (by kernel_rfl) rfl #[.int .i64 a0_2] rfl (by (try simp only [List.map_toArray, List.map_cons, List.map_nil]); first | done | rfl | (simp only [List.length_drop, List.length_take]; rfl)) ?_; (with_reducible refine (spec_HasPorts.calls a0_2 t587 _ A3.out).mono ?_); rintro e w' ⟨rfl, ⟨nd, rfl⟩⟩; refine ⟨_, rfl, ?_⟩))
  (try simp only [Act.put, lA_, lZ_, lS_])
  go_cut [3] (fun v3 wc => ∃ (kq : Nat) (x3_3 : List Int), Aside0 (spec_l2Build.j0 kq x3_3 a0_0 a0_1 a0_2 a0_3 a0_4 a0_5 l0_6 = some r) ∧ Aside0 (kq ≤ k) ∧ Aside0 (Kd.R (Kd.int .u8) 5 wc w.heap.size (fun _ => True) v3 x3_3) ∧ Aside0 (wc.heap[gb580]? = some (.cells #[.int .i64 a0_0, .int .i64 a0_1, .int .i64 a0_2, .int .i64 a0_3, .int .i64 a0_4, .int .i64 a0_5, (.slice A0_6 l0_6.length c0_6)] 34 (0, 0))) ∧ Aside0 (Below w.heap.size w wc))
  case first =>
   have H := HC4.out
   clear HC4
   by_cases c11 : t587 = true
   ·subst c11
    rw [if_pos rfl] at H
    replace H := Option.bind_eq_some_iff.mp H
    obtain ⟨t588, A120, H⟩ := H
    try dsimp only at H
    have A12 := Aside0.mk A120
    clear A120
    replace H := Option.bind_eq_some_iff.mp H
    obtain ⟨t591, A130, H⟩ := H
    try dsimp only at H
    have A13 := Aside0.mk A130
    clear A130
    by_cases c14 : t588.length + t591.length < 140737488355328
    ·rw [if_pos c14] at H
     have LMc14 := Aside0.mk c14
     clear c14
     obtain ⟨y594, hy594⟩ : ∃ y_ : List Int, y_ = (t588 ++ t591) := ⟨_, rfl⟩
     replace H : (if y594.length + y584.length < 140737488355328 then (spec_l2Build.j0 k (y594 ++ y584) a0_0 a0_1 a0_2 a0_3 a0_4 a0_5 l0_6) else (none)) = some r := by first | (rw [hy594]; with_reducible exact H) | (have H2_ := (Option.bind_some _ _).symm.trans H; rw [hy594]; with_reducible exact H2_) | (have H2_ := (Option.bind_some _ _).symm.trans H; with_reducible exact H2_) | with_reducible exact H | (rw [hy594]; exact H) | exact H
     have Ny594 := Aside0.mk hy594
     clear hy594
     by_cases c15 : y594.length + y584.length < 140737488355328
     ·rw [if_pos c15] at H
      have LMc15 := Aside0.mk c15
      clear c15
      obtain ⟨y597, hy597⟩ : ∃ y_ : List Int, y_ = (y594 ++ y584) := ⟨_, rfl⟩
      replace H : (spec_l2Build.j0 k y597 a0_0 a0_1 a0_2 a0_3 a0_4 a0_5 l0_6) = some r := by first | (rw [hy597]; with_reducible exact H) | (have H2_ := (Option.bind_some _ _).symm.trans H; rw [hy597]; with_reducible exact H2_) | (have H2_ := (Option.bind_some _ _).symm.trans H; with_reducible exact H2_) | with_reducible exact H | (rw [hy597]; exact H) | exact H
      have Ny597 := Aside0.mk hy597
      clear hy597
      have H' := Aside0.mk H
      clear H
      try go_wp2
      try (have m0_ := Aside0.mk (Kd.R_drewN HO586.out nd); have m1_ := Aside0.mk (blk_drewN BK580.out nd); have m2_ := Aside0.mk (pw_below_drewN HB.out nd); clear HO586 BK580 HB; generalize hw_ : World.drewN w9 nd = wz_ at m0_ m1_ m2_ ⊢; have HO586 := m0_; have BK580 := m1_; have HB := m2_; clear m0_ m1_ m2_ hw_)
      have n0_ := Aside0.mk (Kd.R_drew HO586.out)
      have n1_ := Aside0.mk (blk_drew BK580.out)
      have n2_ := Aside0.mk (below_drew1 HB.out)
      clear HO586
      clear BK580
      clear HB
      have HO586 := n0_
      have BK580 := n1_
      have HB := n2_
      clear n0_ n1_ n2_
      refine start_ (n := 10) (S := fun w' => w'.cell? ⟨gb580, 0, none⟩ = some (.int .i64 a0_0) ∧ w'.cell? ⟨gb580, 1, none⟩ = some (.int .i64 a0_1) ∧ w'.cell? ⟨gb580, 2, none⟩ = some (.int .i64 a0_2) ∧ w'.cell? ⟨gb580, 3, none⟩ = some (.int .i64 a0_3) ∧ w'.cell? ⟨gb580, 4, none⟩ = some (.int .i64 a0_4) ∧ w'.cell? ⟨gb580, 5, none⟩ = some (.int .i64 a0_5) ∧ w'.cell? ⟨gb580, 6, none⟩ = some (.slice A0_6 l0_6.length c0_6)) (ds := []) #[false, false, false, false, false, false, false, false, false, false] (by kernel_rfl) rfl rfl ⟨(blk_cell BK580.out 0).trans rfl, (blk_cell BK580.out 1).trans rfl, (blk_cell BK580.out 2).trans rfl, (blk_cell BK580.out 3).trans rfl, (blk_cell BK580.out 4).trans rfl, (blk_cell BK580.out 5).trans rfl, (blk_cell BK580.out 6).trans rfl⟩ (fun hHeld => ?_); refine with_tabW spec_l2Build.tab3 spec_l2Build.bits3 (fun HT_ HW_ => ?_)
      first | generalize wz_.drew = w16 at HO586 BK580 HB hHeld ⊢ | generalize w9.drew = w16 at HO586 BK580 HB hHeld ⊢
      refine pure_ (i := 0) (N := some 15) (v := ?_) (a' := ?_) #[true, false, false, false, false, false, false, false, false, false] rfl rfl (any_of HT_.out (by kernel_rfl)) (fun _ _ _ h => h) (Or.inl ⟨by rfl, ?_⟩) ?_ ?_
      rotate_left
      ·intro w'
       go_simp
       with_reducible rfl
      rotate_left
      ·simp only [Act.put, lA_, lZ_, lS_, i64_w, i32_w]
       rfl
      refine pure_ (i := 3) (N := some 18) (v := ?_) (a' := ?_) #[true, false, false, true, false, false, false, false, false, false] rfl rfl (any_of HT_.out (by kernel_rfl)) (fun _ _ _ h => h) (Or.inl ⟨by rfl, ?_⟩) ?_ ?_
      rotate_left
      ·intro w'
       go_simp
       with_reducible rfl
      rotate_left
      ·simp only [Act.put, lA_, lZ_, lS_, i64_w, i32_w]
       rfl
      refine pure_ (i := 7) (N := some 22) (v := ?_) (a' := ?_) #[true, false, false, true, false, false, false, true, false, false] rfl rfl (any_of HT_.out (by kernel_rfl)) (fun _ _ _ h => h) (Or.inl ⟨by rfl, ?_⟩) ?_ ?_
      rotate_left
      ·intro w'
       go_simp
       with_reducible rfl
      rotate_left
      ·simp only [Act.put, lA_, lZ_, lS_, i64_w, i32_w]
       rfl
      refine take_ (i := 1) (N := some 16) (v := ?_) (a' := ?_) #[true, true, false, true, false, false, false, true, false, false] rfl rfl (take_ofW HT_.out HW_.out (by kernel_rfl)) (fun _ _ _ h => h) (Or.inl ⟨by rfl, ?_⟩) hHeld ?_ ?_
      rotate_left
      ·rintro w' ⟨s0, s1, s2, s3, s4, s5, s6⟩
       go_simp
       with_reducible rfl
      rotate_left
      ·simp only [Act.put, lA_, lZ_, lS_, i64_w, i32_w]
       rfl
      refine take_ (i := 4) (N := some 19) (v := ?_) (a' := ?_) #[true, true, false, true, true, false, false, true, false, false] rfl rfl (take_ofW HT_.out HW_.out (by kernel_rfl)) (fun _ _ _ h => h) (Or.inl ⟨by rfl, ?_⟩) hHeld ?_ ?_
      rotate_left
      ·rintro w' ⟨s0, s1, s2, s3, s4, s5, s6⟩
       go_simp
       with_reducible rfl
      rotate_left
      ·simp only [Act.put, lA_, lZ_, lS_, i64_w, i32_w]
       rfl
      refine one_ (i := 2) (N := some 17) #[true, true, true, true, true, false, false, true, false, false] rfl rfl (one_of HT_.out (by kernel_rfl)) (by decide) (fun K hK => ?_)
      refine goes_ Try.func52 (by kernel_rfl) rfl #[.int .i64 a0_4, .int .i64 2] (by rfl) rfl rfl (by (try simp only [List.map_toArray, List.map_cons, List.map_nil]); first | done | rfl | (simp only [List.length_drop, List.length_take]; rfl)) ?_
      with_reducible refine (spec_l1Bytes.calls k a0_4 2 t588 _ A12.out).mono ?_
      rintro e w17 ⟨v589, rfl, ho0, hb⟩
      refine ⟨_, rfl, ?_⟩
      have n0_ := Aside0.mk (Kd.R_elder' (by (with_reducible repeat (first | apply Kd.R_alloc | apply Kd.R_drewN | apply Kd.R_drew)); exact HO586.out) (Kd.R_base ho0) hb)
      have n1_ := Aside0.mk (Kd.R_lower (Kd.R_new' ho0 (Kd.R_lt (by (with_reducible repeat (first | apply Kd.R_alloc | apply Kd.R_drewN | apply Kd.R_drew)); exact HO586.out))) (below_size (by repeat (first | (with_reducible first | exact HB.out | apply below_alloc | apply pw_below_drewN | apply below_drew1 | refine below_set ?_ GE580.out) | exact HB.out))))
      have n2_ := Aside0.mk (blk_below (g := gb580) (o := .cells #[.int .i64 a0_0, .int .i64 a0_1, .int .i64 a0_2, .int .i64 a0_3, .int .i64 a0_4, .int .i64 a0_5, .slice A0_6 l0_6.length c0_6] 34 (0, 0)) (by (with_reducible repeat (first | refine blk_drewN ?_ _ | refine blk_drew ?_ | refine blk_alloc ?_ _)); exact BK580.out) hb)
      have n3_ := Aside0.mk (below_step (by repeat (first | (with_reducible first | exact HB.out | apply below_alloc | apply pw_below_drewN | apply below_drew1 | refine below_set ?_ GE580.out) | exact HB.out)) hb)
      clear HO586
      clear BK580
      clear HB
      have HO586 := n0_
      have HO590 := n1_
      have BK580 := n2_
      have HB := n3_
      clear n0_ n1_ n2_ n3_
      (try clear hb)
      (try clear hb2)
      (try clear hk)
      (try clear hi)
      (try clear ho0)
      refine hK.out _ _ ⟨(blk_cell BK580.out 0).trans rfl, (blk_cell BK580.out 1).trans rfl, (blk_cell BK580.out 2).trans rfl, (blk_cell BK580.out 3).trans rfl, (blk_cell BK580.out 4).trans rfl, (blk_cell BK580.out 5).trans rfl, (blk_cell BK580.out 6).trans rfl⟩ (fun hHeld => ?_)
      clear hK K
      refine norm_ (a' := ?_) ?_ ?_
      rotate_left
      ·show Act.put _ (some 17) _ = _
       simp only [Act.put, lA_, lZ_, lS_, i64_w, i32_w]
       rfl
      refine one_ (i := 5) (N := some 20) #[true, true, true, true, true, true, false, true, false, false] rfl rfl (one_of HT_.out (by kernel_rfl)) (by decide) (fun K hK => ?_)
      refine goes_ Try.func52 (by kernel_rfl) rfl #[.int .i64 a0_5, .int .i64 2] (by rfl) rfl rfl (by (try simp only [List.map_toArray, List.map_cons, List.map_nil]); first | done | rfl | (simp only [List.length_drop, List.length_take]; rfl)) ?_
      with_reducible refine (spec_l1Bytes.calls k a0_5 2 t591 _ A13.out).mono ?_
      rintro e w18 ⟨v592, rfl, ho0, hb⟩
      refine ⟨_, rfl, ?_⟩
      have n0_ := Aside0.mk (Kd.R_elder' (by (with_reducible repeat (first | apply Kd.R_alloc | apply Kd.R_drewN | apply Kd.R_drew)); exact HO586.out) (Kd.R_base ho0) hb)
      have n1_ := Aside0.mk (Kd.R_elder' (by (with_reducible repeat (first | apply Kd.R_alloc | apply Kd.R_drewN | apply Kd.R_drew)); exact HO590.out) (Kd.R_base ho0) hb)
      have n2_ := Aside0.mk (Kd.R_lower (Kd.R_new' (Kd.R_new' ho0 (Kd.R_lt (by (with_reducible repeat (first | apply Kd.R_alloc | apply Kd.R_drewN | apply Kd.R_drew)); exact HO586.out))) (Kd.R_lt (by (with_reducible repeat (first | apply Kd.R_alloc | apply Kd.R_drewN | apply Kd.R_drew)); exact HO590.out))) (below_size (by repeat (first | (with_reducible first | exact HB.out | apply below_alloc | apply pw_below_drewN | apply below_drew1 | refine below_set ?_ GE580.out) | exact HB.out))))
      have n3_ := Aside0.mk (blk_below (g := gb580) (o := .cells #[.int .i64 a0_0, .int .i64 a0_1, .int .i64 a0_2, .int .i64 a0_3, .int .i64 a0_4, .int .i64 a0_5, .slice A0_6 l0_6.length c0_6] 34 (0, 0)) (by (with_reducible repeat (first | refine blk_drewN ?_ _ | refine blk_drew ?_ | refine blk_alloc ?_ _)); exact BK580.out) hb)
      have n4_ := Aside0.mk (below_step (by repeat (first | (with_reducible first | exact HB.out | apply below_alloc | apply pw_below_drewN | apply below_drew1 | refine below_set ?_ GE580.out) | exact HB.out)) hb)
      clear HO586
      clear HO590
      clear BK580
      clear HB
      have HO586 := n0_
      have HO590 := n1_
      have HO593 := n2_
      have BK580 := n3_
      have HB := n4_
      clear n0_ n1_ n2_ n3_ n4_
      (try clear hb)
      (try clear hb2)
      (try clear hk)
      (try clear hi)
      (try clear ho0)
      obtain ⟨Ao20, co20, eo20⟩ := Kd.R_slice HO593.out
      (first | subst eo20 | (injection eo20 with f1_ f2_ f3_; have f4_ := f1_.symm; have f5_ := f3_.symm; clear f1_ f2_ f3_; subst f4_; subst f5_))
      refine hK.out _ _ ⟨(blk_cell BK580.out 0).trans rfl, (blk_cell BK580.out 1).trans rfl, (blk_cell BK580.out 2).trans rfl, (blk_cell BK580.out 3).trans rfl, (blk_cell BK580.out 4).trans rfl, (blk_cell BK580.out 5).trans rfl, (blk_cell BK580.out 6).trans rfl⟩ (fun hHeld => ?_)
      clear hK K
      refine norm_ (a' := ?_) ?_ ?_
      rotate_left
      ·show Act.put _ (some 20) _ = _
       simp only [Act.put, lA_, lZ_, lS_, i64_w, i32_w]
       rfl
      refine one_ (i := 6) (N := some 21) #[true, true, true, true, true, true, true, true, false, false] rfl rfl (one_of HT_.out (by kernel_rfl)) (by decide) (fun K hK => ?_)
      refine Kd.R_append_rows_step (Kd.int .u8) (w0 := w) w.heap.size (by rfl) (.tmp 17) (.tmp 20) 22 5 (.int .u8 0) 1 rfl Try.underlying22 info5 rfl (by decide) (by omega) v589 t588 t591 _ _ _ (fun k_ => some k_ ≠ (v585 : Value).ownBlock ∧ some k_ ≠ (.slice Ao20 t591.length co20 : Value).ownBlock) (fun _ => False) rfl rfl ?aO ?aR (fun _ _ h => h) (fun _ h => h.elim) ?aF ?aB ?aS ?aL ?_
      (case aR => repeat (first | exact (Kd.R_reads' HO593.out).2.2 | (with_reducible refine Kd.C_alloc ?_ _) | (with_reducible refine Kd.C_drewN ?_ _) | (with_reducible refine Kd.C_drew ?_)))
      (case aB => exact (by repeat (first | (with_reducible first | exact HB.out | apply below_alloc | apply pw_below_drewN | apply below_drew1 | refine below_set ?_ GE580.out) | exact HB.out)))
      (case aF => exact (fun k_ hk => ⟨Kd.fresh' (Kd.R_lt (by (with_reducible repeat (first | apply Kd.R_alloc | apply Kd.R_drewN | apply Kd.R_drew)); exact HO586.out)) k_ hk, Kd.fresh' (Kd.R_lt (by (with_reducible repeat (first | apply Kd.R_alloc | apply Kd.R_drewN | apply Kd.R_drew)); exact HO593.out)) k_ hk⟩))
      (case aO => exact (by (with_reducible repeat (first | apply Kd.R_alloc | apply Kd.R_drewN | apply Kd.R_drew)); exact Kd.R_mono HO590.out (fun _ hk => ⟨hk.1.2, hk.2⟩)))
      (case aS => exact (below_size (by repeat (first | (with_reducible first | exact HB.out | apply below_alloc | apply pw_below_drewN | apply below_drew1 | refine below_set ?_ GE580.out) | exact HB.out))))
      (case aL => have := LMc14.out; omega)
      intro v595 w19 ho hb hg hat
      rw [← Ny594.out] at ho
      have n0_ := Aside0.mk (blk_grown (g := gb580) (o := .cells #[.int .i64 a0_0, .int .i64 a0_1, .int .i64 a0_2, .int .i64 a0_3, .int .i64 a0_4, .int .i64 a0_5, .slice A0_6 l0_6.length c0_6] 34 (0, 0)) (by (with_reducible repeat (first | refine blk_drewN ?_ _ | refine blk_drew ?_ | refine blk_alloc ?_ _)); exact BK580.out) hg (Kd.R_ne HO590.out BK580.out (by decide)))
      have n1_ := Aside0.mk (Kd.R_after (ok := (fun k_ => some k_ ≠ (.slice Ao20 t591.length co20 : Value).ownBlock)) (by (with_reducible repeat (first | apply Kd.R_alloc | apply Kd.R_drewN | apply Kd.R_drew)); exact Kd.R_mono HO586.out (fun _ hk => ⟨hk.2, hk.1.2⟩)) hg hat)
      have n2_ := Aside0.mk (Kd.R_after (ok := (fun k_ => some k_ ≠ (v585 : Value).ownBlock)) (by (with_reducible repeat (first | apply Kd.R_alloc | apply Kd.R_drewN | apply Kd.R_drew)); exact Kd.R_mono HO593.out (fun _ hk => ⟨hk.1.2, hk.2⟩)) hg hat)
      have n3_ := Aside0.mk (hb)
      have n4_ := Aside0.mk (ho)
      clear BK580
      clear HO586
      clear HO593
      clear HB
      clear HO590
      have BK580 := n0_
      have HO586 := n1_
      have HO593 := n2_
      have HB := n3_
      have HO596 := n4_
      clear n0_ n1_ n2_ n3_ n4_
      clear ho hb hg hat
      obtain ⟨Ao22, co22, eo22⟩ := Kd.R_slice HO586.out
      (first | subst eo22 | (injection eo22 with f1_ f2_ f3_; have f4_ := f1_.symm; have f5_ := f3_.symm; clear f1_ f2_ f3_; subst f4_; subst f5_))
      refine hK.out _ _ ⟨(blk_cell BK580.out 0).trans rfl, (blk_cell BK580.out 1).trans rfl, (blk_cell BK580.out 2).trans rfl, (blk_cell BK580.out 3).trans rfl, (blk_cell BK580.out 4).trans rfl, (blk_cell BK580.out 5).trans rfl, (blk_cell BK580.out 6).trans rfl⟩ (fun hHeld => ?_)
      clear hK K
      refine norm_ (a' := ?_) ?_ ?_
      rotate_left
      ·show Act.put _ (some 21) _ = _
       simp only [Act.put, lA_, lZ_, lS_, i64_w, i32_w]
       rfl
      refine one_ (i := 8) (N := some 23) #[true, true, true, true, true, true, true, true, true, false] rfl rfl (one_of HT_.out (by kernel_rfl)) (by decide) (fun K hK => ?_)
      refine Kd.R_append_rows_step (Kd.int .u8) (w0 := w) w.heap.size (by rfl) (.tmp 21) (.tmp 22) 22 5 (.int .u8 0) 1 rfl Try.underlying22 info5 rfl (by decide) (by omega) v595 y594 y584 _ _ _ (fun k_ => some k_ ≠ (.slice Ao22 y584.length co22 : Value).ownBlock ∧ some k_ ≠ (.slice Ao20 t591.length co20 : Value).ownBlock) (fun _ => False) rfl rfl ?aO ?aR (fun _ _ h => h) (fun _ h => h.elim) ?aF ?aB ?aS ?aL ?_
      (case aR => repeat (first | exact (Kd.R_reads' HO586.out).2.2 | (with_reducible refine Kd.C_alloc ?_ _) | (with_reducible refine Kd.C_drewN ?_ _) | (with_reducible refine Kd.C_drew ?_)))
      (case aB => exact (by repeat (first | (with_reducible first | exact HB.out | apply below_alloc | apply pw_below_drewN | apply below_drew1 | refine below_set ?_ GE580.out) | exact HB.out)))
      (case aF => exact (fun k_ hk => ⟨Kd.fresh' (Kd.R_lt (by (with_reducible repeat (first | apply Kd.R_alloc | apply Kd.R_drewN | apply Kd.R_drew)); exact HO586.out)) k_ hk, Kd.fresh' (Kd.R_lt (by (with_reducible repeat (first | apply Kd.R_alloc | apply Kd.R_drewN | apply Kd.R_drew)); exact HO593.out)) k_ hk⟩))
      (case aO => exact (by (with_reducible repeat (first | apply Kd.R_alloc | apply Kd.R_drewN | apply Kd.R_drew)); exact HO596.out))
      (case aS => exact (below_size (by repeat (first | (with_reducible first | exact HB.out | apply below_alloc | apply pw_below_drewN | apply below_drew1 | refine below_set ?_ GE580.out) | exact HB.out))))
      (case aL => have := LMc15.out; omega)
      intro v598 w21 ho hb hg hat
      rw [← Ny597.out] at ho
      have n0_ := Aside0.mk (blk_grown (g := gb580) (o := .cells #[.int .i64 a0_0, .int .i64 a0_1, .int .i64 a0_2, .int .i64 a0_3, .int .i64 a0_4, .int .i64 a0_5, .slice A0_6 l0_6.length c0_6] 34 (0, 0)) (by (with_reducible repeat (first | refine blk_drewN ?_ _ | refine blk_drew ?_ | refine blk_alloc ?_ _)); exact BK580.out) hg (Kd.R_ne HO596.out BK580.out (by decide)))
      have n1_ := Aside0.mk (Kd.R_after (ok := (fun k_ => some k_ ≠ (.slice Ao20 t591.length co20 : Value).ownBlock)) (by (with_reducible repeat (first | apply Kd.R_alloc | apply Kd.R_drewN | apply Kd.R_drew)); exact HO586.out) hg hat)
      have n2_ := Aside0.mk (Kd.R_after (ok := (fun k_ => some k_ ≠ (.slice Ao22 y584.length co22 : Value).ownBlock)) (by (with_reducible repeat (first | apply Kd.R_alloc | apply Kd.R_drewN | apply Kd.R_drew)); exact HO593.out) hg hat)
      have n3_ := Aside0.mk (hb)
      have n4_ := Aside0.mk (ho)
      clear BK580
      clear HO586
      clear HO593
      clear HB
      clear HO596
      have BK580 := n0_
      have HO586 := n1_
      have HO593 := n2_
      have HB := n3_
      have HO599 := n4_
      clear n0_ n1_ n2_ n3_ n4_
      clear ho hb hg hat
      refine hK.out _ _ ⟨(blk_cell BK580.out 0).trans rfl, (blk_cell BK580.out 1).trans rfl, (blk_cell BK580.out 2).trans rfl, (blk_cell BK580.out 3).trans rfl, (blk_cell BK580.out 4).trans rfl, (blk_cell BK580.out 5).trans rfl, (blk_cell BK580.out 6).trans rfl⟩ (fun hHeld => ?_)
      clear hK K
      refine norm_ (a' := ?_) ?_ ?_
      rotate_left
      ·show Act.put _ (some 23) _ = _
       simp only [Act.put, lA_, lZ_, lS_, i64_w, i32_w]
       rfl
      refine pure_ (i := 9) (N := some 3) (v := ?_) (a' := ?_) #[true, true, true, true, true, true, true, true, true, true] rfl rfl (any_of HT_.out (by kernel_rfl)) (fun _ _ _ h => h) (Or.inl ⟨by rfl, ?_⟩) ?_ ?_
      rotate_left
      ·intro w'
       go_simp
       with_reducible rfl
      rotate_left
      ·simp only [Act.put, lA_, lZ_, lS_, i64_w, i32_w]
       rfl
      refine done_ (done_of HT_.out (by kernel_rfl)) ?_
      try go_wp2
      go_meet
      case rel => exact ⟨_, (y597), H', ⟨by first | omega | exact Nat.le_refl _⟩, ⟨by (with_reducible repeat (first | apply Kd.R_alloc | apply Kd.R_drewN | apply Kd.R_drew)); exact Kd.R_mono HO599.out (fun _ hk => trivial)⟩, ⟨by (with_reducible repeat (first | refine blk_drewN ?_ _ | refine blk_drew ?_ | refine blk_alloc ?_ _)); exact BK580.out⟩, ⟨by repeat (first | (with_reducible first | exact HB.out | apply below_alloc | apply pw_below_drewN | apply below_drew1 | refine below_set ?_ GE580.out) | exact HB.out)⟩⟩
     ·rw [if_neg c15] at H
      exact absurd H (by simp)
    ·rw [if_neg c14] at H
     exact absurd H (by simp)
   ·replace c11 := Bool.eq_false_iff.mpr c11
    subst c11
    rw [if_neg (show ¬ (false = true) by decide)] at H
    have H' := Aside0.mk H
    clear H
    go_wp2
    go_meet
    case rel => exact ⟨_, (y584), H', ⟨by first | omega | exact Nat.le_refl _⟩, ⟨by (with_reducible repeat (first | apply Kd.R_alloc | apply Kd.R_drewN | apply Kd.R_drew)); exact HO586.out⟩, ⟨by (with_reducible repeat (first | refine blk_drewN ?_ _ | refine blk_drew ?_ | refine blk_alloc ?_ _)); exact BK580.out⟩, ⟨by repeat (first | (with_reducible first | exact HB.out | apply below_alloc | apply pw_below_drewN | apply below_drew1 | refine below_set ?_ GE580.out) | exact HB.out)⟩⟩
  case rest =>
   clear HC4
   try clear c1
   try clear c2
   try clear p2
   try clear c5
   try clear c6
   try clear c11
   try clear c14
   try clear c15
   try clear hcz10_0
   try clear hcz10_1
   try clear hcz10_2
   try clear hcz10_3
   try clear hcz10_4
   try clear hcz10_5
   try clear hcz10_6
   try clear hcz8_0
   try clear hcz8_1
   try clear hcz8_2
   try clear hcz8_3
   try clear hcz8_4
   try clear hcz8_5
   try clear hcz8_6
   try clear hfz10_0
   try clear hfz10_1
   try clear hfz10_2
   try clear hfz10_3
   try clear hfz10_4
   try clear hfz10_5
   try clear hfz10_6
   try clear hfz8_0
   try clear hfz8_1
   try clear hfz8_2
   try clear hfz8_3
   try clear hfz8_4
   try clear hfz8_5
   try clear hfz8_6
   obtain ⟨kq, x3_3, HA, HJ3, HO_3, BK580, HB⟩ := hcut
   cases kq with
   | zero => exact absurd HA.out (by simp [spec_l2Build.j0])
   | succ kj3 =>
    have H := HA.out
    clear HA
    simp only [spec_l2Build.j0] at H
    obtain ⟨y600, hy600⟩ : ∃ y_ : List Int, y_ = (([69, 0] : List Int)) := ⟨_, rfl⟩
    replace H : ((spec_l1Bytes.f kj3 (wrap64 (20 + (x3_3.length : Int))) 2).bind fun t603 => (if y600.length + t603.length < 140737488355328 then ((some (y600 ++ t603 : List Int)).bind fun y606 => ((some (([0, 0, 64, 0, (a0_3) % 256, (a0_2) % 256] : List Int) : List Int)).bind fun y609 => (if y606.length + y609.length < 140737488355328 then ((some (y606 ++ y609 : List Int)).bind fun y612 => ((spec_l1Bytes.f kj3 a0_0 4).bind fun t615 => ((spec_l1Bytes.f kj3 a0_1 4).bind fun t618 => (if t615.length + t618.length < 140737488355328 then ((some (t615 ++ t618 : List Int)).bind fun y621 => ((some (([] : List Int) : List Int)).bind fun y624 => (if y624.length + y612.length < 140737488355328 then ((some (y624 ++ y612 : List Int)).bind fun y627 => ((some (([0, 0] : List Int) : List Int)).bind fun y630 => (if y627.length + y630.length < 140737488355328 then ((some (y627 ++ y630 : List Int)).bind fun y633 => (if y633.length + y621.length < 140737488355328 then ((some (([] : List Int) : List Int)).bind fun y639 => (if y639.length + y612.length < 140737488355328 then ((some (y639 ++ y612 : List Int)).bind fun y642 => ((spec_SumWords.f kj3 (y633 ++ y621)).bind fun t645 => ((spec_l1Bytes.f kj3 t645 2).bind fun t646 => (if y642.length + t646.length < 140737488355328 then ((some (y642 ++ t646 : List Int)).bind fun y649 => (if y649.length + y621.length < 140737488355328 then ((some (y649 ++ y621 : List Int)).bind fun y652 => (if y652.length + x3_3.length < 140737488355328 then (some (y652 ++ x3_3)) else (none))) else (none))) else (none))))) else (none))) else (none))) else (none)))) else (none)))) else (none))))) else (none)))) else (none))) = some r := by first | (rw [hy600]; with_reducible exact H) | (have H2_ := (Option.bind_some _ _).symm.trans H; rw [hy600]; with_reducible exact H2_) | (have H2_ := (Option.bind_some _ _).symm.trans H; with_reducible exact H2_) | with_reducible exact H | (rw [hy600]; exact H) | exact H
    have Ny600 := Aside0.mk hy600
    clear hy600
    replace H := Option.bind_eq_some_iff.mp H
    obtain ⟨t603, A230, H⟩ := H
    try dsimp only at H
    have A23 := Aside0.mk A230
    clear A230
    by_cases c24 : y600.length + t603.length < 140737488355328
    ·rw [if_pos c24] at H
     have LMc24 := Aside0.mk c24
     clear c24
     obtain ⟨y606, hy606⟩ : ∃ y_ : List Int, y_ = (y600 ++ t603) := ⟨_, rfl⟩
     replace H : ((some (([0, 0, 64, 0, (a0_3) % 256, (a0_2) % 256] : List Int) : List Int)).bind fun y609 => (if y606.length + y609.length < 140737488355328 then ((some (y606 ++ y609 : List Int)).bind fun y612 => ((spec_l1Bytes.f kj3 a0_0 4).bind fun t615 => ((spec_l1Bytes.f kj3 a0_1 4).bind fun t618 => (if t615.length + t618.length < 140737488355328 then ((some (t615 ++ t618 : List Int)).bind fun y621 => ((some (([] : List Int) : List Int)).bind fun y624 => (if y624.length + y612.length < 140737488355328 then ((some (y624 ++ y612 : List Int)).bind fun y627 => ((some (([0, 0] : List Int) : List Int)).bind fun y630 => (if y627.length + y630.length < 140737488355328 then ((some (y627 ++ y630 : List Int)).bind fun y633 => (if y633.length + y621.length < 140737488355328 then ((some (([] : List Int) : List Int)).bind fun y639 => (if y639.length + y612.length < 140737488355328 then ((some (y639 ++ y612 : List Int)).bind fun y642 => ((spec_SumWords.f kj3 (y633 ++ y621)).bind fun t645 => ((spec_l1Bytes.f kj3 t645 2).bind fun t646 => (if y642.length + t646.length < 140737488355328 then ((some (y642 ++ t646 : List Int)).bind fun y649 => (if y649.length + y621.length < 140737488355328 then ((some (y649 ++ y621 : List Int)).bind fun y652 => (if y652.length + x3_3.length < 140737488355328 then (some (y652 ++ x3_3)) else (none))) else (none))) else (none))))) else (none))) else (none))) else (none)))) else (none)))) else (none))))) else (none))) = some r := by first | (rw [hy606]; with_reducible exact H) | (have H2_ := (Option.bind_some _ _).symm.trans H; rw [hy606]; with_reducible exact H2_) | (have H2_ := (Option.bind_some _ _).symm.trans H; with_reducible exact H2_) | with_reducible exact H | (rw [hy606]; exact H) | exact H
     have Ny606 := Aside0.mk hy606
     clear hy606
     obtain ⟨y609, hy609⟩ : ∃ y_ : List Int, y_ = (([0, 0, 64, 0, (a0_3) % 256, (a0_2) % 256] : List Int)) := ⟨_, rfl⟩
     replace H : (if y606.length + y609.length < 140737488355328 then ((some (y606 ++ y609 : List Int)).bind fun y612 => ((spec_l1Bytes.f kj3 a0_0 4).bind fun t615 => ((spec_l1Bytes.f kj3 a0_1 4).bind fun t618 => (if t615.length + t618.length < 140737488355328 then ((some (t615 ++ t618 : List Int)).bind fun y621 => ((some (([] : List Int) : List Int)).bind fun y624 => (if y624.length + y612.length < 140737488355328 then ((some (y624 ++ y612 : List Int)).bind fun y627 => ((some (([0, 0] : List Int) : List Int)).bind fun y630 => (if y627.length + y630.length < 140737488355328 then ((some (y627 ++ y630 : List Int)).bind fun y633 => (if y633.length + y621.length < 140737488355328 then ((some (([] : List Int) : List Int)).bind fun y639 => (if y639.length + y612.length < 140737488355328 then ((some (y639 ++ y612 : List Int)).bind fun y642 => ((spec_SumWords.f kj3 (y633 ++ y621)).bind fun t645 => ((spec_l1Bytes.f kj3 t645 2).bind fun t646 => (if y642.length + t646.length < 140737488355328 then ((some (y642 ++ t646 : List Int)).bind fun y649 => (if y649.length + y621.length < 140737488355328 then ((some (y649 ++ y621 : List Int)).bind fun y652 => (if y652.length + x3_3.length < 140737488355328 then (some (y652 ++ x3_3)) else (none))) else (none))) else (none))))) else (none))) else (none))) else (none)))) else (none)))) else (none))))) else (none)) = some r := by first | (rw [hy609]; with_reducible exact H) | (have H2_ := (Option.bind_some _ _).symm.trans H; rw [hy609]; with_reducible exact H2_) | (have H2_ := (Option.bind_some _ _).symm.trans H; with_reducible exact H2_) | with_reducible exact H | (rw [hy609]; exact H) | exact H
     have Ny609 := Aside0.mk hy609
     clear hy609
     by_cases c25 : y606.length + y609.length < 140737488355328
     ·rw [if_pos c25] at H
      have LMc25 := Aside0.mk c25
      clear c25
      obtain ⟨y612, hy612⟩ : ∃ y_ : List Int, y_ = (y606 ++ y609) := ⟨_, rfl⟩
      replace H : ((spec_l1Bytes.f kj3 a0_0 4).bind fun t615 => ((spec_l1Bytes.f kj3 a0_1 4).bind fun t618 => (if t615.length + t618.length < 140737488355328 then ((some (t615 ++ t618 : List Int)).bind fun y621 => ((some (([] : List Int) : List Int)).bind fun y624 => (if y624.length + y612.length < 140737488355328 then ((some (y624 ++ y612 : List Int)).bind fun y627 => ((some (([0, 0] : List Int) : List Int)).bind fun y630 => (if y627.length + y630.length < 140737488355328 then ((some (y627 ++ y630 : List Int)).bind fun y633 => (if y633.length + y621.length < 140737488355328 then ((some (([] : List Int) : List Int)).bind fun y639 => (if y639.length + y612.length < 140737488355328 then ((some (y639 ++ y612 : List Int)).bind fun y642 => ((spec_SumWords.f kj3 (y633 ++ y621)).bind fun t645 => ((spec_l1Bytes.f kj3 t645 2).bind fun t646 => (if y642.length + t646.length < 140737488355328 then ((some (y642 ++ t646 : List Int)).bind fun y649 => (if y649.length + y621.length < 140737488355328 then ((some (y649 ++ y621 : List Int)).bind fun y652 => (if y652.length + x3_3.length < 140737488355328 then (some (y652 ++ x3_3)) else (none))) else (none))) else (none))))) else (none))) else (none))) else (none)))) else (none)))) else (none)))) = some r := by first | (rw [hy612]; with_reducible exact H) | (have H2_ := (Option.bind_some _ _).symm.trans H; rw [hy612]; with_reducible exact H2_) | (have H2_ := (Option.bind_some _ _).symm.trans H; with_reducible exact H2_) | with_reducible exact H | (rw [hy612]; exact H) | exact H
      have Ny612 := Aside0.mk hy612
      clear hy612
      replace H := Option.bind_eq_some_iff.mp H
      obtain ⟨t615, A260, H⟩ := H
      try dsimp only at H
      have A26 := Aside0.mk A260
      clear A260
      replace H := Option.bind_eq_some_iff.mp H
      obtain ⟨t618, A270, H⟩ := H
      try dsimp only at H
      have A27 := Aside0.mk A270
      clear A270
      by_cases c28 : t615.length + t618.length < 140737488355328
      ·rw [if_pos c28] at H
       have LMc28 := Aside0.mk c28
       clear c28
       obtain ⟨y621, hy621⟩ : ∃ y_ : List Int, y_ = (t615 ++ t618) := ⟨_, rfl⟩
       replace H : ((some (([] : List Int) : List Int)).bind fun y624 => (if y624.length + y612.length < 140737488355328 then ((some (y624 ++ y612 : List Int)).bind fun y627 => ((some (([0, 0] : List Int) : List Int)).bind fun y630 => (if y627.length + y630.length < 140737488355328 then ((some (y627 ++ y630 : List Int)).bind fun y633 => (if y633.length + y621.length < 140737488355328 then ((some (([] : List Int) : List Int)).bind fun y639 => (if y639.length + y612.length < 140737488355328 then ((some (y639 ++ y612 : List Int)).bind fun y642 => ((spec_SumWords.f kj3 (y633 ++ y621)).bind fun t645 => ((spec_l1Bytes.f kj3 t645 2).bind fun t646 => (if y642.length + t646.length < 140737488355328 then ((some (y642 ++ t646 : List Int)).bind fun y649 => (if y649.length + y621.length < 140737488355328 then ((some (y649 ++ y621 : List Int)).bind fun y652 => (if y652.length + x3_3.length < 140737488355328 then (some (y652 ++ x3_3)) else (none))) else (none))) else (none))))) else (none))) else (none))) else (none)))) else (none))) = some r := by first | (rw [hy621]; with_reducible exact H) | (have H2_ := (Option.bind_some _ _).symm.trans H; rw [hy621]; with_reducible exact H2_) | (have H2_ := (Option.bind_some _ _).symm.trans H; with_reducible exact H2_) | with_reducible exact H | (rw [hy621]; exact H) | exact H
       have Ny621 := Aside0.mk hy621
       clear hy621
       obtain ⟨y624, hy624⟩ : ∃ y_ : List Int, y_ = (([] : List Int)) := ⟨_, rfl⟩
       replace H : (if y624.length + y612.length < 140737488355328 then ((some (y624 ++ y612 : List Int)).bind fun y627 => ((some (([0, 0] : List Int) : List Int)).bind fun y630 => (if y627.length + y630.length < 140737488355328 then ((some (y627 ++ y630 : List Int)).bind fun y633 => (if y633.length + y621.length < 140737488355328 then ((some (([] : List Int) : List Int)).bind fun y639 => (if y639.length + y612.length < 140737488355328 then ((some (y639 ++ y612 : List Int)).bind fun y642 => ((spec_SumWords.f kj3 (y633 ++ y621)).bind fun t645 => ((spec_l1Bytes.f kj3 t645 2).bind fun t646 => (if y642.length + t646.length < 140737488355328 then ((some (y642 ++ t646 : List Int)).bind fun y649 => (if y649.length + y621.length < 140737488355328 then ((some (y649 ++ y621 : List Int)).bind fun y652 => (if y652.length + x3_3.length < 140737488355328 then (some (y652 ++ x3_3)) else (none))) else (none))) else (none))))) else (none))) else (none))) else (none)))) else (none)) = some r := by first | (rw [hy624]; with_reducible exact H) | (have H2_ := (Option.bind_some _ _).symm.trans H; rw [hy624]; with_reducible exact H2_) | (have H2_ := (Option.bind_some _ _).symm.trans H; with_reducible exact H2_) | with_reducible exact H | (rw [hy624]; exact H) | exact H
       have Ny624 := Aside0.mk hy624
       clear hy624
       by_cases c29 : y624.length + y612.length < 140737488355328
       ·rw [if_pos c29] at H
        have LMc29 := Aside0.mk c29
        clear c29
        obtain ⟨y627, hy627⟩ : ∃ y_ : List Int, y_ = (y624 ++ y612) := ⟨_, rfl⟩
        replace H : ((some (([0, 0] : List Int) : List Int)).bind fun y630 => (if y627.length + y630.length < 140737488355328 then ((some (y627 ++ y630 : List Int)).bind fun y633 => (if y633.length + y621.length < 140737488355328 then ((some (([] : List Int) : List Int)).bind fun y639 => (if y639.length + y612.length < 140737488355328 then ((some (y639 ++ y612 : List Int)).bind fun y642 => ((spec_SumWords.f kj3 (y633 ++ y621)).bind fun t645 => ((spec_l1Bytes.f kj3 t645 2).bind fun t646 => (if y642.length + t646.length < 140737488355328 then ((some (y642 ++ t646 : List Int)).bind fun y649 => (if y649.length + y621.length < 140737488355328 then ((some (y649 ++ y621 : List Int)).bind fun y652 => (if y652.length + x3_3.length < 140737488355328 then (some (y652 ++ x3_3)) else (none))) else (none))) else (none))))) else (none))) else (none))) else (none))) = some r := by first | (rw [hy627]; with_reducible exact H) | (have H2_ := (Option.bind_some _ _).symm.trans H; rw [hy627]; with_reducible exact H2_) | (have H2_ := (Option.bind_some _ _).symm.trans H; with_reducible exact H2_) | with_reducible exact H | (rw [hy627]; exact H) | exact H
        have Ny627 := Aside0.mk hy627
        clear hy627
        obtain ⟨y630, hy630⟩ : ∃ y_ : List Int, y_ = (([0, 0] : List Int)) := ⟨_, rfl⟩
        replace H : (if y627.length + y630.length < 140737488355328 then ((some (y627 ++ y630 : List Int)).bind fun y633 => (if y633.length + y621.length < 140737488355328 then ((some (([] : List Int) : List Int)).bind fun y639 => (if y639.length + y612.length < 140737488355328 then ((some (y639 ++ y612 : List Int)).bind fun y642 => ((spec_SumWords.f kj3 (y633 ++ y621)).bind fun t645 => ((spec_l1Bytes.f kj3 t645 2).bind fun t646 => (if y642.length + t646.length < 140737488355328 then ((some (y642 ++ t646 : List Int)).bind fun y649 => (if y649.length + y621.length < 140737488355328 then ((some (y649 ++ y621 : List Int)).bind fun y652 => (if y652.length + x3_3.length < 140737488355328 then (some (y652 ++ x3_3)) else (none))) else (none))) else (none))))) else (none))) else (none))) else (none)) = some r := by first | (rw [hy630]; with_reducible exact H) | (have H2_ := (Option.bind_some _ _).symm.trans H; rw [hy630]; with_reducible exact H2_) | (have H2_ := (Option.bind_some _ _).symm.trans H; with_reducible exact H2_) | with_reducible exact H | (rw [hy630]; exact H) | exact H
        have Ny630 := Aside0.mk hy630
        clear hy630
        by_cases c30 : y627.length + y630.length < 140737488355328
        ·rw [if_pos c30] at H
         have LMc30 := Aside0.mk c30
         clear c30
         obtain ⟨y633, hy633⟩ : ∃ y_ : List Int, y_ = (y627 ++ y630) := ⟨_, rfl⟩
         replace H : (if y633.length + y621.length < 140737488355328 then ((some (([] : List Int) : List Int)).bind fun y639 => (if y639.length + y612.length < 140737488355328 then ((some (y639 ++ y612 : List Int)).bind fun y642 => ((spec_SumWords.f kj3 (y633 ++ y621)).bind fun t645 => ((spec_l1Bytes.f kj3 t645 2).bind fun t646 => (if y642.length + t646.length < 140737488355328 then ((some (y642 ++ t646 : List Int)).bind fun y649 => (if y649.length + y621.length < 140737488355328 then ((some (y649 ++ y621 : List Int)).bind fun y652 => (if y652.length + x3_3.length < 140737488355328 then (some (y652 ++ x3_3)) else (none))) else (none))) else (none))))) else (none))) else (none)) = some r := by first | (rw [hy633]; with_reducible exact H) | (have H2_ := (Option.bind_some _ _).symm.trans H; rw [hy633]; with_reducible exact H2_) | (have H2_ := (Option.bind_some _ _).symm.trans H; with_reducible exact H2_) | with_reducible exact H | (rw [hy633]; exact H) | exact H
         have Ny633 := Aside0.mk hy633
         clear hy633
         by_cases c31 : y633.length + y621.length < 140737488355328
         ·rw [if_pos c31] at H
          have LMc31 := Aside0.mk c31
          clear c31
          obtain ⟨y636, hy636⟩ : ∃ y_ : List Int, y_ = (y633 ++ y621) := ⟨_, rfl⟩
          replace H : ((some (([] : List Int) : List Int)).bind fun y639 => (if y639.length + y612.length < 140737488355328 then ((some (y639 ++ y612 : List Int)).bind fun y642 => ((spec_SumWords.f kj3 y636).bind fun t645 => ((spec_l1Bytes.f kj3 t645 2).bind fun t646 => (if y642.length + t646.length < 140737488355328 then ((some (y642 ++ t646 : List Int)).bind fun y649 => (if y649.length + y621.length < 140737488355328 then ((some (y649 ++ y621 : List Int)).bind fun y652 => (if y652.length + x3_3.length < 140737488355328 then (some (y652 ++ x3_3)) else (none))) else (none))) else (none))))) else (none))) = some r := by first | (rw [hy636]; with_reducible exact H) | (have H2_ := (Option.bind_some _ _).symm.trans H; rw [hy636]; with_reducible exact H2_) | (have H2_ := (Option.bind_some _ _).symm.trans H; with_reducible exact H2_) | with_reducible exact H | (rw [hy636]; exact H) | exact H
          have Ny636 := Aside0.mk hy636
          clear hy636
          obtain ⟨y639, hy639⟩ : ∃ y_ : List Int, y_ = (([] : List Int)) := ⟨_, rfl⟩
          replace H : (if y639.length + y612.length < 140737488355328 then ((some (y639 ++ y612 : List Int)).bind fun y642 => ((spec_SumWords.f kj3 y636).bind fun t645 => ((spec_l1Bytes.f kj3 t645 2).bind fun t646 => (if y642.length + t646.length < 140737488355328 then ((some (y642 ++ t646 : List Int)).bind fun y649 => (if y649.length + y621.length < 140737488355328 then ((some (y649 ++ y621 : List Int)).bind fun y652 => (if y652.length + x3_3.length < 140737488355328 then (some (y652 ++ x3_3)) else (none))) else (none))) else (none))))) else (none)) = some r := by first | (rw [hy639]; with_reducible exact H) | (have H2_ := (Option.bind_some _ _).symm.trans H; rw [hy639]; with_reducible exact H2_) | (have H2_ := (Option.bind_some _ _).symm.trans H; with_reducible exact H2_) | with_reducible exact H | (rw [hy639]; exact H) | exact H
          have Ny639 := Aside0.mk hy639
          clear hy639
          by_cases c32 : y639.length + y612.length < 140737488355328
          ·rw [if_pos c32] at H
           have LMc32 := Aside0.mk c32
           clear c32
           obtain ⟨y642, hy642⟩ : ∃ y_ : List Int, y_ = (y639 ++ y612) := ⟨_, rfl⟩
           replace H : ((spec_SumWords.f kj3 y636).bind fun t645 => ((spec_l1Bytes.f kj3 t645 2).bind fun t646 => (if y642.length + t646.length < 140737488355328 then ((some (y642 ++ t646 : List Int)).bind fun y649 => (if y649.length + y621.length < 140737488355328 then ((some (y649 ++ y621 : List Int)).bind fun y652 => (if y652.length + x3_3.length < 140737488355328 then (some (y652 ++ x3_3)) else (none))) else (none))) else (none)))) = some r := by first | (rw [hy642]; with_reducible exact H) | (have H2_ := (Option.bind_some _ _).symm.trans H; rw [hy642]; with_reducible exact H2_) | (have H2_ := (Option.bind_some _ _).symm.trans H; with_reducible exact H2_) | with_reducible exact H | (rw [hy642]; exact H) | exact H
           have Ny642 := Aside0.mk hy642
           clear hy642
           replace H := Option.bind_eq_some_iff.mp H
           obtain ⟨t645, A330, H⟩ := H
           try dsimp only at H
           have A33 := Aside0.mk A330
           clear A330
           replace H := Option.bind_eq_some_iff.mp H
           obtain ⟨t646, A340, H⟩ := H
           try dsimp only at H
           have A34 := Aside0.mk A340
           clear A340
           by_cases c35 : y642.length + t646.length < 140737488355328
           ·rw [if_pos c35] at H
            have LMc35 := Aside0.mk c35
            clear c35
            obtain ⟨y649, hy649⟩ : ∃ y_ : List Int, y_ = (y642 ++ t646) := ⟨_, rfl⟩
            replace H : (if y649.length + y621.length < 140737488355328 then ((some (y649 ++ y621 : List Int)).bind fun y652 => (if y652.length + x3_3.length < 140737488355328 then (some (y652 ++ x3_3)) else (none))) else (none)) = some r := by first | (rw [hy649]; with_reducible exact H) | (have H2_ := (Option.bind_some _ _).symm.trans H; rw [hy649]; with_reducible exact H2_) | (have H2_ := (Option.bind_some _ _).symm.trans H; with_reducible exact H2_) | with_reducible exact H | (rw [hy649]; exact H) | exact H
            have Ny649 := Aside0.mk hy649
            clear hy649
            by_cases c36 : y649.length + y621.length < 140737488355328
            ·rw [if_pos c36] at H
             have LMc36 := Aside0.mk c36
             clear c36
             obtain ⟨y652, hy652⟩ : ∃ y_ : List Int, y_ = (y649 ++ y621) := ⟨_, rfl⟩
             replace H : (if y652.length + x3_3.length < 140737488355328 then (some (y652 ++ x3_3)) else (none)) = some r := by first | (rw [hy652]; with_reducible exact H) | (have H2_ := (Option.bind_some _ _).symm.trans H; rw [hy652]; with_reducible exact H2_) | (have H2_ := (Option.bind_some _ _).symm.trans H; with_reducible exact H2_) | with_reducible exact H | (rw [hy652]; exact H) | exact H
             have Ny652 := Aside0.mk hy652
             clear hy652
             by_cases c37 : y652.length + x3_3.length < 140737488355328
             ·rw [if_pos c37] at H
              have LMc37 := Aside0.mk c37
              clear c37
              obtain ⟨y655, hy655⟩ : ∃ y_ : List Int, y_ = (y652 ++ x3_3) := ⟨_, rfl⟩
              replace H : (some y655) = some r := by first | (rw [hy655]; with_reducible exact H) | (have H2_ := (Option.bind_some _ _).symm.trans H; rw [hy655]; with_reducible exact H2_) | (have H2_ := (Option.bind_some _ _).symm.trans H; with_reducible exact H2_) | with_reducible exact H | (rw [hy655]; exact H) | exact H
              have Ny655 := Aside0.mk hy655
              clear hy655
              obtain rfl := Option.some.inj H
              try go_wp2_with (first | ((with_reducible refine gate_dst (N := 24) rfl ?_); refine Kd.R_lit (Kd.int .u8) _ 5 ?hg (N := 24) ?hd (xs := ([69, 0] : List Int)) (inner := [.int .u8 69, .int .u8 0]) (ok := fun _ => True) (okp := fun _ => True) ?hr ?hp (fun _ hk => hk) trivial (Below.refl _ _) (Nat.le_refl _) (by simp) ?_; (case hd => rfl); (case hg => rfl); (case hr => first | (go_simp; done) | (go_simp; rfl)); (case hp => exact (Reps.one (show Kd.M (Kd.int .u8) _ _ _ 69 [.int .u8 69] from rfl) (Reps.one (show Kd.M (Kd.int .u8) _ _ _ 0 [.int .u8 0] from rfl) (Reps.none _ _)))); intro v601 w38 ho39 hb hg_ hnew_; clear hg_ hnew_; (first | rw [← Ny600.out] at ho39 | (simp only [Int.reduceToNat] at ho39; rw [← Ny600.out] at ho39)); have n0_ := Aside0.mk (Kd.R_elder' (by (with_reducible repeat (first | apply Kd.R_alloc | apply Kd.R_drewN | apply Kd.R_drew)); exact HO_3.out) (Kd.R_base ho39) hb); have n1_ := Aside0.mk (Kd.R_lower (Kd.R_new' ho39 (Kd.R_lt (by (with_reducible repeat (first | apply Kd.R_alloc | apply Kd.R_drewN | apply Kd.R_drew)); exact HO_3.out))) (below_size (by repeat (first | (with_reducible first | exact HB.out | apply below_alloc | apply pw_below_drewN | apply below_drew1 | refine below_set ?_ GE580.out) | exact HB.out)))); have n2_ := Aside0.mk (blk_below (g := gb580) (o := .cells #[.int .i64 a0_0, .int .i64 a0_1, .int .i64 a0_2, .int .i64 a0_3, .int .i64 a0_4, .int .i64 a0_5, .slice A0_6 l0_6.length c0_6] 34 (0, 0)) (by (with_reducible repeat (first | refine blk_drewN ?_ _ | refine blk_drew ?_ | refine blk_alloc ?_ _)); exact BK580.out) hb); have n3_ := Aside0.mk (below_step (by repeat (first | (with_reducible first | exact HB.out | apply below_alloc | apply pw_below_drewN | apply below_drew1 | refine below_set ?_ GE580.out) | exact HB.out)) hb); clear HO_3; clear BK580; clear HB; have HO_3 := n0_; have HO602 := n1_; have BK580 := n2_; have HB := n3_; clear n0_ n1_ n2_ n3_; clear hb ho39; obtain ⟨Ao40, co40, eo40⟩ := Kd.R_slice HO_3.out; subst eo40) | ((with_reducible refine gate_callee (f := 52) rfl ?_); refine goesL_ (some 28) rfl rfl Try.func52 (by kernel_rfl) rfl #[.int .i64 (wrap64 (20 + (x3_3.length : Int))), .int .i64 2] rfl (by (try simp only [List.map_toArray, List.map_cons, List.map_nil]); first | done | rfl | (simp only [List.length_drop, List.length_take]; rfl)) ?_; (with_reducible refine (spec_l1Bytes.calls kj3 (wrap64 (20 + (x3_3.length : Int))) 2 t603 _ A23.out).mono ?_); rintro e w41 ⟨v604, rfl, ho0, hb⟩; refine ⟨_, rfl, ?_⟩; have n0_ := Aside0.mk (Kd.R_elder' (by (with_reducible repeat (first | apply Kd.R_alloc | apply Kd.R_drewN | apply Kd.R_drew)); exact HO_3.out) (Kd.R_base ho0) hb); have n1_ := Aside0.mk (Kd.R_elder' (by (with_reducible repeat (first | apply Kd.R_alloc | apply Kd.R_drewN | apply Kd.R_drew)); exact HO602.out) (Kd.R_base ho0) hb); have n2_ := Aside0.mk (Kd.R_lower (Kd.R_new' (Kd.R_new' ho0 (Kd.R_lt (by (with_reducible repeat (first | apply Kd.R_alloc | apply Kd.R_drewN | apply Kd.R_drew)); exact HO_3.out))) (Kd.R_lt (by (with_reducible repeat (first | apply Kd.R_alloc | apply Kd.R_drewN | apply Kd.R_drew)); exact HO602.out))) (below_size (by repeat (first | (with_reducible first | exact HB.out | apply below_alloc | apply pw_below_drewN | apply below_drew1 | refine below_set ?_ GE580.out) | exact HB.out)))); have n3_ := Aside0.mk (blk_below (g := gb580) (o := .cells #[.int .i64 a0_0, .int .i64 a0_1, .int .i64 a0_2, .int .i64 a0_3, .int .i64 a0_4, .int .i64 a0_5, .slice A0_6 l0_6.length c0_6] 34 (0, 0)) (by (with_reducible repeat (first | refine blk_drewN ?_ _ | refine blk_drew ?_ | refine blk_alloc ?_ _)); exact BK580.out) hb); have n4_ := Aside0.mk (below_step (by repeat (first | (with_reducible first | exact HB.out | apply below_alloc | apply pw_below_drewN | apply below_drew1 | refine below_set ?_ GE580.out) | exact HB.out)) hb); clear HO_3; clear HO602; clear BK580; clear HB; have HO_3 := n0_; have HO602 := n1_; have HO605 := n2_; have BK580 := n3_; have HB := n4_; clear n0_ n1_ n2_ n3_ n4_; (try clear hb); (try clear hb2); (try clear hk); (try clear hi); (try clear ho0); obtain ⟨Ao43, co43, eo43⟩ := Kd.R_slice HO605.out; subst eo43) | ((with_reducible refine gate_builtin (b := .append) (xs := #[.tmp 24, .tmp 28]) rfl ?_); at_builtin; refine Kd.R_append_rows (Kd.int .u8) (w0 := w) w.heap.size rfl (.tmp 24) (.tmp 28) 22 5 (.int .u8 0) 1 rfl Try.underlying22 info5 rfl (by decide) (by omega) v601 y600 t603 _ _ _ (fun k_ => some k_ ≠ (.slice Ao40 x3_3.length co40 : Value).ownBlock ∧ some k_ ≠ (.slice Ao43 t603.length co43 : Value).ownBlock) (fun _ => False) rfl rfl ?aO ?aR (fun _ _ h => h) (fun _ h => h.elim) ?aF ?aB ?aS ?aL ?_; (case aR => repeat (first | exact (Kd.R_reads' HO605.out).2.2 | (with_reducible refine Kd.C_alloc ?_ _) | (with_reducible refine Kd.C_drewN ?_ _) | (with_reducible refine Kd.C_drew ?_))); (case aB => exact (by repeat (first | (with_reducible first | exact HB.out | apply below_alloc | apply pw_below_drewN | apply below_drew1 | refine below_set ?_ GE580.out) | exact HB.out))); (case aF => exact (fun k_ hk => ⟨Kd.fresh' (Kd.R_lt (by (with_reducible repeat (first | apply Kd.R_alloc | apply Kd.R_drewN | apply Kd.R_drew)); exact HO_3.out)) k_ hk, Kd.fresh' (Kd.R_lt (by (with_reducible repeat (first | apply Kd.R_alloc | apply Kd.R_drewN | apply Kd.R_drew)); exact HO605.out)) k_ hk⟩)); (case aO => exact (by (with_reducible repeat (first | apply Kd.R_alloc | apply Kd.R_drewN | apply Kd.R_drew)); exact Kd.R_mono HO602.out (fun _ hk => ⟨hk.1.2, hk.2⟩))); (case aS => exact (below_size (by repeat (first | (with_reducible first | exact HB.out | apply below_alloc | apply pw_below_drewN | apply below_drew1 | refine below_set ?_ GE580.out) | exact HB.out)))); (case aL => have := LMc24.out; omega); intro v607 w42 ho hb hg hat; rw [← Ny606.out] at ho; have n0_ := Aside0.mk (Kd.R_after (ok := (fun k_ => some k_ ≠ (.slice Ao43 t603.length co43 : Value).ownBlock)) (by (with_reducible repeat (first | apply Kd.R_alloc | apply Kd.R_drewN | apply Kd.R_drew)); exact Kd.R_mono HO_3.out (fun _ hk => ⟨hk.2, hk.1.2⟩)) hg hat); have n1_ := Aside0.mk (blk_grown (g := gb580) (o := .cells #[.int .i64 a0_0, .int .i64 a0_1, .int .i64 a0_2, .int .i64 a0_3, .int .i64 a0_4, .int .i64 a0_5, .slice A0_6 l0_6.length c0_6] 34 (0, 0)) (by (with_reducible repeat (first | refine blk_drewN ?_ _ | refine blk_drew ?_ | refine blk_alloc ?_ _)); exact BK580.out) hg (Kd.R_ne HO602.out BK580.out (by decide))); have n2_ := Aside0.mk (Kd.R_after (ok := (fun k_ => some k_ ≠ (.slice Ao40 x3_3.length co40 : Value).ownBlock)) (by (with_reducible repeat (first | apply Kd.R_alloc | apply Kd.R_drewN | apply Kd.R_drew)); exact Kd.R_mono HO605.out (fun _ hk => ⟨hk.1.2, hk.2⟩)) hg hat); have n3_ := Aside0.mk (hb); have n4_ := Aside0.mk (ho); clear HO_3; clear BK580; clear HO605; clear HB; clear HO602; have HO_3 := n0_; have BK580 := n1_; have HO605 := n2_; have HB := n3_; have HO608 := n4_; clear n0_ n1_ n2_ n3_ n4_; clear ho hb hg hat; have hcz44_0 : w42.cell? ⟨gb580, 0, none⟩ = some (.int .i64 a0_0) := (blk_cell BK580.out 0).trans rfl; have hcz44_1 : w42.cell? ⟨gb580, 1, none⟩ = some (.int .i64 a0_1) := (blk_cell BK580.out 1).trans rfl; have hcz44_2 : w42.cell? ⟨gb580, 2, none⟩ = some (.int .i64 a0_2) := (blk_cell BK580.out 2).trans rfl; have hcz44_3 : w42.cell? ⟨gb580, 3, none⟩ = some (.int .i64 a0_3) := (blk_cell BK580.out 3).trans rfl; have hcz44_4 : w42.cell? ⟨gb580, 4, none⟩ = some (.int .i64 a0_4) := (blk_cell BK580.out 4).trans rfl; have hcz44_5 : w42.cell? ⟨gb580, 5, none⟩ = some (.int .i64 a0_5) := (blk_cell BK580.out 5).trans rfl; have hcz44_6 : w42.cell? ⟨gb580, 6, none⟩ = some (.slice A0_6 l0_6.length c0_6) := (blk_cell BK580.out 6).trans rfl; have hfz44_0 := blk_frozen BK580.out 0; have hfz44_1 := blk_frozen BK580.out 1; have hfz44_2 := blk_frozen BK580.out 2; have hfz44_3 := blk_frozen BK580.out 3; have hfz44_4 := blk_frozen BK580.out 4; have hfz44_5 := blk_frozen BK580.out 5; have hfz44_6 := blk_frozen BK580.out 6) | ((with_reducible refine gate_dst (N := 37) rfl ?_); refine Kd.R_lit (Kd.int .u8) _ 5 ?hg (N := 37) ?hd (xs := ([0, 0, 64, 0, (a0_3) % 256, (a0_2) % 256] : List Int)) (inner := [.int .u8 0, .int .u8 0, .int .u8 64, .int .u8 0, .int .u8 ((a0_3) % 256), .int .u8 ((a0_2) % 256)]) (ok := fun _ => True) (okp := fun _ => True) ?hr ?hp (fun _ hk => hk) trivial (Below.refl _ _) (Nat.le_refl _) (by simp) ?_; (case hd => rfl); (case hg => rfl); (case hr => first | (go_simp; done) | (go_simp; rfl)); (case hp => exact (Reps.one (show Kd.M (Kd.int .u8) _ _ _ 0 [.int .u8 0] from rfl) (Reps.one (show Kd.M (Kd.int .u8) _ _ _ 0 [.int .u8 0] from rfl) (Reps.one (show Kd.M (Kd.int .u8) _ _ _ 64 [.int .u8 64] from rfl) (Reps.one (show Kd.M (Kd.int .u8) _ _ _ 0 [.int .u8 0] from rfl) (Reps.one (show Kd.M (Kd.int .u8) _ _ _ ((a0_3) % 256) [.int .u8 ((a0_3) % 256)] from rfl) (Reps.one (show Kd.M (Kd.int .u8) _ _ _ ((a0_2) % 256) [.int .u8 ((a0_2) % 256)] from rfl) (Reps.none _ _)))))))); intro v610 w45 ho46 hb hg_ hnew_; clear hg_ hnew_; (first | rw [← Ny609.out] at ho46 | (simp only [Int.reduceToNat] at ho46; rw [← Ny609.out] at ho46)); have n0_ := Aside0.mk (Kd.R_elder' (by (with_reducible repeat (first | apply Kd.R_alloc | apply Kd.R_drewN | apply Kd.R_drew)); exact HO_3.out) (Kd.R_base ho46) hb); have n1_ := Aside0.mk (Kd.R_elder' (by (with_reducible repeat (first | apply Kd.R_alloc | apply Kd.R_drewN | apply Kd.R_drew)); exact HO605.out) (Kd.R_base ho46) hb); have n2_ := Aside0.mk (Kd.R_elder' (by (with_reducible repeat (first | apply Kd.R_alloc | apply Kd.R_drewN | apply Kd.R_drew)); exact HO608.out) (Kd.R_base ho46) hb); have n3_ := Aside0.mk (Kd.R_lower (Kd.R_new' (Kd.R_new' (Kd.R_new' ho46 (Kd.R_lt (by (with_reducible repeat (first | apply Kd.R_alloc | apply Kd.R_drewN | apply Kd.R_drew)); exact HO_3.out))) (Kd.R_lt (by (with_reducible repeat (first | apply Kd.R_alloc | apply Kd.R_drewN | apply Kd.R_drew)); exact HO605.out))) (Kd.R_lt (by (with_reducible repeat (first | apply Kd.R_alloc | apply Kd.R_drewN | apply Kd.R_drew)); exact HO608.out))) (below_size (by repeat (first | (with_reducible first | exact HB.out | apply below_alloc | apply pw_below_drewN | apply below_drew1 | refine below_set ?_ GE580.out) | exact HB.out)))); have n4_ := Aside0.mk (blk_below (g := gb580) (o := .cells #[.int .i64 a0_0, .int .i64 a0_1, .int .i64 a0_2, .int .i64 a0_3, .int .i64 a0_4, .int .i64 a0_5, .slice A0_6 l0_6.length c0_6] 34 (0, 0)) (by (with_reducible repeat (first | refine blk_drewN ?_ _ | refine blk_drew ?_ | refine blk_alloc ?_ _)); exact BK580.out) hb); have n5_ := Aside0.mk (below_step (by repeat (first | (with_reducible first | exact HB.out | apply below_alloc | apply pw_below_drewN | apply below_drew1 | refine below_set ?_ GE580.out) | exact HB.out)) hb); clear HO_3; clear HO605; clear HO608; clear BK580; clear HB; have HO_3 := n0_; have HO605 := n1_; have HO608 := n2_; have HO611 := n3_; have BK580 := n4_; have HB := n5_; clear n0_ n1_ n2_ n3_ n4_ n5_; clear hb ho46; obtain ⟨Ao48, co48, eo48⟩ := Kd.R_slice HO611.out; subst eo48) | ((with_reducible refine gate_builtin (b := .append) (xs := #[.tmp 30, .tmp 37]) rfl ?_); at_builtin; refine Kd.R_append_rows (Kd.int .u8) (w0 := w) w.heap.size rfl (.tmp 30) (.tmp 37) 22 5 (.int .u8 0) 1 rfl Try.underlying22 info5 rfl (by decide) (by omega) v607 y606 y609 _ _ _ (fun k_ => some k_ ≠ (.slice Ao40 x3_3.length co40 : Value).ownBlock ∧ some k_ ≠ (.slice Ao43 t603.length co43 : Value).ownBlock ∧ some k_ ≠ (.slice Ao48 y609.length co48 : Value).ownBlock) (fun _ => False) rfl rfl ?aO ?aR (fun _ _ h => h) (fun _ h => h.elim) ?aF ?aB ?aS ?aL ?_; (case aR => repeat (first | exact (Kd.R_reads' HO611.out).2.2 | (with_reducible refine Kd.C_alloc ?_ _) | (with_reducible refine Kd.C_drewN ?_ _) | (with_reducible refine Kd.C_drew ?_))); (case aB => exact (by repeat (first | (with_reducible first | exact HB.out | apply below_alloc | apply pw_below_drewN | apply below_drew1 | refine below_set ?_ GE580.out) | exact HB.out))); (case aF => exact (fun k_ hk => ⟨Kd.fresh' (Kd.R_lt (by (with_reducible repeat (first | apply Kd.R_alloc | apply Kd.R_drewN | apply Kd.R_drew)); exact HO_3.out)) k_ hk, Kd.fresh' (Kd.R_lt (by (with_reducible repeat (first | apply Kd.R_alloc | apply Kd.R_drewN | apply Kd.R_drew)); exact HO605.out)) k_ hk, Kd.fresh' (Kd.R_lt (by (with_reducible repeat (first | apply Kd.R_alloc | apply Kd.R_drewN | apply Kd.R_drew)); exact HO611.out)) k_ hk⟩)); (case aO => exact (by (with_reducible repeat (first | apply Kd.R_alloc | apply Kd.R_drewN | apply Kd.R_drew)); exact Kd.R_mono HO608.out (fun _ hk => ⟨hk.1.1, ⟨hk.1.2, hk.2⟩⟩))); (case aS => exact (below_size (by repeat (first | (with_reducible first | exact HB.out | apply below_alloc | apply pw_below_drewN | apply below_drew1 | refine below_set ?_ GE580.out) | exact HB.out)))); (case aL => have := LMc25.out; omega); intro v613 w47 ho hb hg hat; rw [← Ny612.out] at ho; have n0_ := Aside0.mk (Kd.R_after (ok := (fun k_ => some k_ ≠ (.slice Ao43 t603.length co43 : Value).ownBlock ∧ some k_ ≠ (.slice Ao48 y609.length co48 : Value).ownBlock)) (by (with_reducible repeat (first | apply Kd.R_alloc | apply Kd.R_drewN | apply Kd.R_drew)); exact Kd.R_mono HO_3.out (fun _ hk => ⟨⟨hk.1.1, hk.2⟩, hk.1.2⟩)) hg hat); have n1_ := Aside0.mk (blk_grown (g := gb580) (o := .cells #[.int .i64 a0_0, .int .i64 a0_1, .int .i64 a0_2, .int .i64 a0_3, .int .i64 a0_4, .int .i64 a0_5, .slice A0_6 l0_6.length c0_6] 34 (0, 0)) (by (with_reducible repeat (first | refine blk_drewN ?_ _ | refine blk_drew ?_ | refine blk_alloc ?_ _)); exact BK580.out) hg (Kd.R_ne HO608.out BK580.out (by decide))); have n2_ := Aside0.mk (Kd.R_after (ok := (fun k_ => some k_ ≠ (.slice Ao40 x3_3.length co40 : Value).ownBlock ∧ some k_ ≠ (.slice Ao48 y609.length co48 : Value).ownBlock)) (by (with_reducible repeat (first | apply Kd.R_alloc | apply Kd.R_drewN | apply Kd.R_drew)); exact Kd.R_mono HO605.out (fun _ hk => ⟨⟨hk.1.1, hk.2⟩, hk.1.2⟩)) hg hat); have n3_ := Aside0.mk (Kd.R_after (ok := (fun k_ => some k_ ≠ (.slice Ao40 x3_3.length co40 : Value).ownBlock ∧ some k_ ≠ (.slice Ao43 t603.length co43 : Value).ownBlock)) (by (with_reducible repeat (first | apply Kd.R_alloc | apply Kd.R_drewN | apply Kd.R_drew)); exact Kd.R_mono HO611.out (fun _ hk => ⟨⟨hk.1.1.2, hk.1.2⟩, hk.2⟩)) hg hat); have n4_ := Aside0.mk (hb); have n5_ := Aside0.mk (ho); clear HO_3; clear BK580; clear HO605; clear HO611; clear HB; clear HO608; have HO_3 := n0_; have BK580 := n1_; have HO605 := n2_; have HO611 := n3_; have HB := n4_; have HO614 := n5_; clear n0_ n1_ n2_ n3_ n4_ n5_; clear ho hb hg hat))
              have n0_ := Aside0.mk (Kd.R_drew HO_3.out)
              have n1_ := Aside0.mk (Kd.R_drew HO605.out)
              have n2_ := Aside0.mk (Kd.R_drew HO611.out)
              have n3_ := Aside0.mk (Kd.R_drew HO614.out)
              have n4_ := Aside0.mk (blk_drew BK580.out)
              have n5_ := Aside0.mk (below_drew1 HB.out)
              clear HO_3
              clear HO605
              clear HO611
              clear HO614
              clear BK580
              clear HB
              have HO_3 := n0_
              have HO605 := n1_
              have HO611 := n2_
              have HO614 := n3_
              have BK580 := n4_
              have HB := n5_
              clear n0_ n1_ n2_ n3_ n4_ n5_
              refine start_ (n := 8) (S := fun w' => w'.cell? ⟨gb580, 0, none⟩ = some (.int .i64 a0_0) ∧ w'.cell? ⟨gb580, 1, none⟩ = some (.int .i64 a0_1) ∧ w'.cell? ⟨gb580, 2, none⟩ = some (.int .i64 a0_2) ∧ w'.cell? ⟨gb580, 3, none⟩ = some (.int .i64 a0_3) ∧ w'.cell? ⟨gb580, 4, none⟩ = some (.int .i64 a0_4) ∧ w'.cell? ⟨gb580, 5, none⟩ = some (.int .i64 a0_5) ∧ w'.cell? ⟨gb580, 6, none⟩ = some (.slice A0_6 l0_6.length c0_6)) (ds := []) #[false, false, false, false, false, false, false, false] (by kernel_rfl) rfl rfl ⟨(blk_cell BK580.out 0).trans rfl, (blk_cell BK580.out 1).trans rfl, (blk_cell BK580.out 2).trans rfl, (blk_cell BK580.out 3).trans rfl, (blk_cell BK580.out 4).trans rfl, (blk_cell BK580.out 5).trans rfl, (blk_cell BK580.out 6).trans rfl⟩ (fun hHeld => ?_); refine with_tabW spec_l2Build.tab6 spec_l2Build.bits6 (fun HT_ HW_ => ?_)
              generalize w47.drew = w49 at HO_3 HO605 HO611 HO614 BK580 HB hHeld ⊢
              refine pure_ (i := 0) (N := some 39) (v := ?_) (a' := ?_) #[true, false, false, false, false, false, false, false] rfl rfl (any_of HT_.out (by kernel_rfl)) (fun _ _ _ h => h) (Or.inl ⟨by rfl, ?_⟩) ?_ ?_
              rotate_left
              ·intro w'
               go_simp
               with_reducible rfl
              rotate_left
              ·simp only [Act.put, lA_, lZ_, lS_, i64_w, i32_w]
               rfl
              refine pure_ (i := 3) (N := some 42) (v := ?_) (a' := ?_) #[true, false, false, true, false, false, false, false] rfl rfl (any_of HT_.out (by kernel_rfl)) (fun _ _ _ h => h) (Or.inl ⟨by rfl, ?_⟩) ?_ ?_
              rotate_left
              ·intro w'
               go_simp
               with_reducible rfl
              rotate_left
              ·simp only [Act.put, lA_, lZ_, lS_, i64_w, i32_w]
               rfl
              refine take_ (i := 1) (N := some 40) (v := ?_) (a' := ?_) #[true, true, false, true, false, false, false, false] rfl rfl (take_ofW HT_.out HW_.out (by kernel_rfl)) (fun _ _ _ h => h) (Or.inl ⟨by rfl, ?_⟩) hHeld ?_ ?_
              rotate_left
              ·rintro w' ⟨s0, s1, s2, s3, s4, s5, s6⟩
               go_simp
               with_reducible rfl
              rotate_left
              ·simp only [Act.put, lA_, lZ_, lS_, i64_w, i32_w]
               rfl
              refine take_ (i := 4) (N := some 43) (v := ?_) (a' := ?_) #[true, true, false, true, true, false, false, false] rfl rfl (take_ofW HT_.out HW_.out (by kernel_rfl)) (fun _ _ _ h => h) (Or.inl ⟨by rfl, ?_⟩) hHeld ?_ ?_
              rotate_left
              ·rintro w' ⟨s0, s1, s2, s3, s4, s5, s6⟩
               go_simp
               with_reducible rfl
              rotate_left
              ·simp only [Act.put, lA_, lZ_, lS_, i64_w, i32_w]
               rfl
              refine one_ (i := 2) (N := some 41) #[true, true, true, true, true, false, false, false] rfl rfl (one_of HT_.out (by kernel_rfl)) (by decide) (fun K hK => ?_)
              refine goes_ Try.func52 (by kernel_rfl) rfl #[.int .i64 a0_0, .int .i64 4] (by rfl) rfl rfl (by (try simp only [List.map_toArray, List.map_cons, List.map_nil]); first | done | rfl | (simp only [List.length_drop, List.length_take]; rfl)) ?_
              with_reducible refine (spec_l1Bytes.calls kj3 a0_0 4 t615 _ A26.out).mono ?_
              rintro e w50 ⟨v616, rfl, ho0, hb⟩
              refine ⟨_, rfl, ?_⟩
              have n0_ := Aside0.mk (Kd.R_elder' (by (with_reducible repeat (first | apply Kd.R_alloc | apply Kd.R_drewN | apply Kd.R_drew)); exact HO_3.out) (Kd.R_base ho0) hb)
              have n1_ := Aside0.mk (Kd.R_elder' (by (with_reducible repeat (first | apply Kd.R_alloc | apply Kd.R_drewN | apply Kd.R_drew)); exact HO605.out) (Kd.R_base ho0) hb)
              have n2_ := Aside0.mk (Kd.R_elder' (by (with_reducible repeat (first | apply Kd.R_alloc | apply Kd.R_drewN | apply Kd.R_drew)); exact HO611.out) (Kd.R_base ho0) hb)
              have n3_ := Aside0.mk (Kd.R_elder' (by (with_reducible repeat (first | apply Kd.R_alloc | apply Kd.R_drewN | apply Kd.R_drew)); exact HO614.out) (Kd.R_base ho0) hb)
              have n4_ := Aside0.mk (Kd.R_lower (Kd.R_new' (Kd.R_new' (Kd.R_new' (Kd.R_new' ho0 (Kd.R_lt (by (with_reducible repeat (first | apply Kd.R_alloc | apply Kd.R_drewN | apply Kd.R_drew)); exact HO_3.out))) (Kd.R_lt (by (with_reducible repeat (first | apply Kd.R_alloc | apply Kd.R_drewN | apply Kd.R_drew)); exact HO605.out))) (Kd.R_lt (by (with_reducible repeat (first | apply Kd.R_alloc | apply Kd.R_drewN | apply Kd.R_drew)); exact HO611.out))) (Kd.R_lt (by (with_reducible repeat (first | apply Kd.R_alloc | apply Kd.R_drewN | apply Kd.R_drew)); exact HO614.out))) (below_size (by repeat (first | (with_reducible first | exact HB.out | apply below_alloc | apply pw_below_drewN | apply below_drew1 | refine below_set ?_ GE580.out) | exact HB.out))))
              have n5_ := Aside0.mk (blk_below (g := gb580) (o := .cells #[.int .i64 a0_0, .int .i64 a0_1, .int .i64 a0_2, .int .i64 a0_3, .int .i64 a0_4, .int .i64 a0_5, .slice A0_6 l0_6.length c0_6] 34 (0, 0)) (by (with_reducible repeat (first | refine blk_drewN ?_ _ | refine blk_drew ?_ | refine blk_alloc ?_ _)); exact BK580.out) hb)
              have n6_ := Aside0.mk (below_step (by repeat (first | (with_reducible first | exact HB.out | apply below_alloc | apply pw_below_drewN | apply below_drew1 | refine below_set ?_ GE580.out) | exact HB.out)) hb)
              clear HO_3
              clear HO605
              clear HO611
              clear HO614
              clear BK580
              clear HB
              have HO_3 := n0_
              have HO605 := n1_
              have HO611 := n2_
              have HO614 := n3_
              have HO617 := n4_
              have BK580 := n5_
              have HB := n6_
              clear n0_ n1_ n2_ n3_ n4_ n5_ n6_
              (try clear hb)
              (try clear hb2)
              (try clear hk)
              (try clear hi)
              (try clear ho0)
              refine hK.out _ _ ⟨(blk_cell BK580.out 0).trans rfl, (blk_cell BK580.out 1).trans rfl, (blk_cell BK580.out 2).trans rfl, (blk_cell BK580.out 3).trans rfl, (blk_cell BK580.out 4).trans rfl, (blk_cell BK580.out 5).trans rfl, (blk_cell BK580.out 6).trans rfl⟩ (fun hHeld => ?_)
              clear hK K
              refine norm_ (a' := ?_) ?_ ?_
              rotate_left
              ·show Act.put _ (some 41) _ = _
               simp only [Act.put, lA_, lZ_, lS_, i64_w, i32_w]
               rfl
              refine one_ (i := 5) (N := some 44) #[true, true, true, true, true, true, false, false] rfl rfl (one_of HT_.out (by kernel_rfl)) (by decide) (fun K hK => ?_)
              refine goes_ Try.func52 (by kernel_rfl) rfl #[.int .i64 a0_1, .int .i64 4] (by rfl) rfl rfl (by (try simp only [List.map_toArray, List.map_cons, List.map_nil]); first | done | rfl | (simp only [List.length_drop, List.length_take]; rfl)) ?_
              with_reducible refine (spec_l1Bytes.calls kj3 a0_1 4 t618 _ A27.out).mono ?_
              rintro e w51 ⟨v619, rfl, ho0, hb⟩
              refine ⟨_, rfl, ?_⟩
              have n0_ := Aside0.mk (Kd.R_elder' (by (with_reducible repeat (first | apply Kd.R_alloc | apply Kd.R_drewN | apply Kd.R_drew)); exact HO_3.out) (Kd.R_base ho0) hb)
              have n1_ := Aside0.mk (Kd.R_elder' (by (with_reducible repeat (first | apply Kd.R_alloc | apply Kd.R_drewN | apply Kd.R_drew)); exact HO605.out) (Kd.R_base ho0) hb)
              have n2_ := Aside0.mk (Kd.R_elder' (by (with_reducible repeat (first | apply Kd.R_alloc | apply Kd.R_drewN | apply Kd.R_drew)); exact HO611.out) (Kd.R_base ho0) hb)
              have n3_ := Aside0.mk (Kd.R_elder' (by (with_reducible repeat (first | apply Kd.R_alloc | apply Kd.R_drewN | apply Kd.R_drew)); exact HO614.out) (Kd.R_base ho0) hb)
              have n4_ := Aside0.mk (Kd.R_elder' (by (with_reducible repeat (first | apply Kd.R_alloc | apply Kd.R_drewN | apply Kd.R_drew)); exact HO617.out) (Kd.R_base ho0) hb)
              have n5_ := Aside0.mk (Kd.R_lower (Kd.R_new' (Kd.R_new' (Kd.R_new' (Kd.R_new' (Kd.R_new' ho0 (Kd.R_lt (by (with_reducible repeat (first | apply Kd.R_alloc | apply Kd.R_drewN | apply Kd.R_drew)); exact HO_3.out))) (Kd.R_lt (by (with_reducible repeat (first | apply Kd.R_alloc | apply Kd.R_drewN | apply Kd.R_drew)); exact HO605.out))) (Kd.R_lt (by (with_reducible repeat (first | apply Kd.R_alloc | apply Kd.R_drewN | apply Kd.R_drew)); exact HO611.out))) (Kd.R_lt (by (with_reducible repeat (first | apply Kd.R_alloc | apply Kd.R_drewN | apply Kd.R_drew)); exact HO614.out))) (Kd.R_lt (by (with_reducible repeat (first | apply Kd.R_alloc | apply Kd.R_drewN | apply Kd.R_drew)); exact HO617.out))) (below_size (by repeat (first | (with_reducible first | exact HB.out | apply below_alloc | apply pw_below_drewN | apply below_drew1 | refine below_set ?_ GE580.out) | exact HB.out))))
              have n6_ := Aside0.mk (blk_below (g := gb580) (o := .cells #[.int .i64 a0_0, .int .i64 a0_1, .int .i64 a0_2, .int .i64 a0_3, .int .i64 a0_4, .int .i64 a0_5, .slice A0_6 l0_6.length c0_6] 34 (0, 0)) (by (with_reducible repeat (first | refine blk_drewN ?_ _ | refine blk_drew ?_ | refine blk_alloc ?_ _)); exact BK580.out) hb)
              have n7_ := Aside0.mk (below_step (by repeat (first | (with_reducible first | exact HB.out | apply below_alloc | apply pw_below_drewN | apply below_drew1 | refine below_set ?_ GE580.out) | exact HB.out)) hb)
              clear HO_3
              clear HO605
              clear HO611
              clear HO614
              clear HO617
              clear BK580
              clear HB
              have HO_3 := n0_
              have HO605 := n1_
              have HO611 := n2_
              have HO614 := n3_
              have HO617 := n4_
              have HO620 := n5_
              have BK580 := n6_
              have HB := n7_
              clear n0_ n1_ n2_ n3_ n4_ n5_ n6_ n7_
              (try clear hb)
              (try clear hb2)
              (try clear hk)
              (try clear hi)
              (try clear ho0)
              obtain ⟨Ao53, co53, eo53⟩ := Kd.R_slice HO620.out
              (first | subst eo53 | (injection eo53 with f1_ f2_ f3_; have f4_ := f1_.symm; have f5_ := f3_.symm; clear f1_ f2_ f3_; subst f4_; subst f5_))
              refine hK.out _ _ ⟨(blk_cell BK580.out 0).trans rfl, (blk_cell BK580.out 1).trans rfl, (blk_cell BK580.out 2).trans rfl, (blk_cell BK580.out 3).trans rfl, (blk_cell BK580.out 4).trans rfl, (blk_cell BK580.out 5).trans rfl, (blk_cell BK580.out 6).trans rfl⟩ (fun hHeld => ?_)
              clear hK K
              refine norm_ (a' := ?_) ?_ ?_
              rotate_left
              ·show Act.put _ (some 44) _ = _
               simp only [Act.put, lA_, lZ_, lS_, i64_w, i32_w]
               rfl
              refine one_ (i := 6) (N := some 45) #[true, true, true, true, true, true, true, false] rfl rfl (one_of HT_.out (by kernel_rfl)) (by decide) (fun K hK => ?_)
              refine Kd.R_append_rows_step (Kd.int .u8) (w0 := w) w.heap.size (by rfl) (.tmp 41) (.tmp 44) 22 5 (.int .u8 0) 1 rfl Try.underlying22 info5 rfl (by decide) (by omega) v616 t615 t618 _ _ _ (fun k_ => some k_ ≠ (.slice Ao40 x3_3.length co40 : Value).ownBlock ∧ some k_ ≠ (.slice Ao43 t603.length co43 : Value).ownBlock ∧ some k_ ≠ (.slice Ao48 y609.length co48 : Value).ownBlock ∧ some k_ ≠ (v613 : Value).ownBlock ∧ some k_ ≠ (.slice Ao53 t618.length co53 : Value).ownBlock) (fun _ => False) rfl rfl ?aO ?aR (fun _ _ h => h) (fun _ h => h.elim) ?aF ?aB ?aS ?aL ?_
              (case aR => repeat (first | exact (Kd.R_reads' HO620.out).2.2 | (with_reducible refine Kd.C_alloc ?_ _) | (with_reducible refine Kd.C_drewN ?_ _) | (with_reducible refine Kd.C_drew ?_)))
              (case aB => exact (by repeat (first | (with_reducible first | exact HB.out | apply below_alloc | apply pw_below_drewN | apply below_drew1 | refine below_set ?_ GE580.out) | exact HB.out)))
              (case aF => exact (fun k_ hk => ⟨Kd.fresh' (Kd.R_lt (by (with_reducible repeat (first | apply Kd.R_alloc | apply Kd.R_drewN | apply Kd.R_drew)); exact HO_3.out)) k_ hk, Kd.fresh' (Kd.R_lt (by (with_reducible repeat (first | apply Kd.R_alloc | apply Kd.R_drewN | apply Kd.R_drew)); exact HO605.out)) k_ hk, Kd.fresh' (Kd.R_lt (by (with_reducible repeat (first | apply Kd.R_alloc | apply Kd.R_drewN | apply Kd.R_drew)); exact HO611.out)) k_ hk, Kd.fresh' (Kd.R_lt (by (with_reducible repeat (first | apply Kd.R_alloc | apply Kd.R_drewN | apply Kd.R_drew)); exact HO614.out)) k_ hk, Kd.fresh' (Kd.R_lt (by (with_reducible repeat (first | apply Kd.R_alloc | apply Kd.R_drewN | apply Kd.R_drew)); exact HO620.out)) k_ hk⟩))
              (case aO => exact (by (with_reducible repeat (first | apply Kd.R_alloc | apply Kd.R_drewN | apply Kd.R_drew)); exact Kd.R_mono HO617.out (fun _ hk => ⟨hk.1.1.1.1.2, ⟨hk.1.1.1.2, ⟨hk.1.1.2, ⟨hk.1.2, hk.2⟩⟩⟩⟩)))
              (case aS => exact (below_size (by repeat (first | (with_reducible first | exact HB.out | apply below_alloc | apply pw_below_drewN | apply below_drew1 | refine below_set ?_ GE580.out) | exact HB.out))))
              (case aL => have := LMc28.out; omega)
              intro v622 w52 ho hb hg hat
              rw [← Ny621.out] at ho
              have n0_ := Aside0.mk (Kd.R_after (ok := (fun k_ => some k_ ≠ (.slice Ao43 t603.length co43 : Value).ownBlock ∧ some k_ ≠ (.slice Ao48 y609.length co48 : Value).ownBlock ∧ some k_ ≠ (v613 : Value).ownBlock ∧ some k_ ≠ (.slice Ao53 t618.length co53 : Value).ownBlock)) (by (with_reducible repeat (first | apply Kd.R_alloc | apply Kd.R_drewN | apply Kd.R_drew)); exact Kd.R_mono HO_3.out (fun _ hk => ⟨⟨hk.1.1.1.1, ⟨hk.1.1.1.2, ⟨hk.1.1.2, hk.2⟩⟩⟩, hk.1.2⟩)) hg hat)
              have n1_ := Aside0.mk (blk_grown (g := gb580) (o := .cells #[.int .i64 a0_0, .int .i64 a0_1, .int .i64 a0_2, .int .i64 a0_3, .int .i64 a0_4, .int .i64 a0_5, .slice A0_6 l0_6.length c0_6] 34 (0, 0)) (by (with_reducible repeat (first | refine blk_drewN ?_ _ | refine blk_drew ?_ | refine blk_alloc ?_ _)); exact BK580.out) hg (Kd.R_ne HO617.out BK580.out (by decide)))
              have n2_ := Aside0.mk (Kd.R_after (ok := (fun k_ => some k_ ≠ (.slice Ao40 x3_3.length co40 : Value).ownBlock ∧ some k_ ≠ (.slice Ao48 y609.length co48 : Value).ownBlock ∧ some k_ ≠ (v613 : Value).ownBlock ∧ some k_ ≠ (.slice Ao53 t618.length co53 : Value).ownBlock)) (by (with_reducible repeat (first | apply Kd.R_alloc | apply Kd.R_drewN | apply Kd.R_drew)); exact Kd.R_mono HO605.out (fun _ hk => ⟨⟨hk.1.1.1.1, ⟨hk.1.1.1.2, ⟨hk.1.1.2, hk.2⟩⟩⟩, hk.1.2⟩)) hg hat)
              have n3_ := Aside0.mk (Kd.R_after (ok := (fun k_ => some k_ ≠ (.slice Ao40 x3_3.length co40 : Value).ownBlock ∧ some k_ ≠ (.slice Ao43 t603.length co43 : Value).ownBlock ∧ some k_ ≠ (v613 : Value).ownBlock ∧ some k_ ≠ (.slice Ao53 t618.length co53 : Value).ownBlock)) (by (with_reducible repeat (first | apply Kd.R_alloc | apply Kd.R_drewN | apply Kd.R_drew)); exact Kd.R_mono HO611.out (fun _ hk => ⟨⟨hk.1.1.1.1, ⟨hk.1.1.1.2, ⟨hk.1.1.2, hk.2⟩⟩⟩, hk.1.2⟩)) hg hat)
              have n4_ := Aside0.mk (Kd.R_after (ok := (fun k_ => some k_ ≠ (.slice Ao40 x3_3.length co40 : Value).ownBlock ∧ some k_ ≠ (.slice Ao43 t603.length co43 : Value).ownBlock ∧ some k_ ≠ (.slice Ao48 y609.length co48 : Value).ownBlock ∧ some k_ ≠ (.slice Ao53 t618.length co53 : Value).ownBlock)) (by (with_reducible repeat (first | apply Kd.R_alloc | apply Kd.R_drewN | apply Kd.R_drew)); exact Kd.R_mono HO614.out (fun _ hk => ⟨⟨hk.1.1.1, ⟨hk.1.1.2.1, ⟨hk.1.1.2.2, hk.2⟩⟩⟩, hk.1.2⟩)) hg hat)
              have n5_ := Aside0.mk (Kd.R_after (ok := (fun k_ => some k_ ≠ (.slice Ao40 x3_3.length co40 : Value).ownBlock ∧ some k_ ≠ (.slice Ao43 t603.length co43 : Value).ownBlock ∧ some k_ ≠ (.slice Ao48 y609.length co48 : Value).ownBlock ∧ some k_ ≠ (v613 : Value).ownBlock)) (by (with_reducible repeat (first | apply Kd.R_alloc | apply Kd.R_drewN | apply Kd.R_drew)); exact Kd.R_mono HO620.out (fun _ hk => ⟨⟨hk.1.1.1.1.2, ⟨hk.1.1.1.2, ⟨hk.1.1.2, hk.1.2⟩⟩⟩, hk.2⟩)) hg hat)
              have n6_ := Aside0.mk (hb)
              have n7_ := Aside0.mk (ho)
              clear HO_3
              clear BK580
              clear HO605
              clear HO611
              clear HO614
              clear HO620
              clear HB
              clear HO617
              have HO_3 := n0_
              have BK580 := n1_
              have HO605 := n2_
              have HO611 := n3_
              have HO614 := n4_
              have HO620 := n5_
              have HB := n6_
              have HO623 := n7_
              clear n0_ n1_ n2_ n3_ n4_ n5_ n6_ n7_
              clear ho hb hg hat
              refine hK.out _ _ ⟨(blk_cell BK580.out 0).trans rfl, (blk_cell BK580.out 1).trans rfl, (blk_cell BK580.out 2).trans rfl, (blk_cell BK580.out 3).trans rfl, (blk_cell BK580.out 4).trans rfl, (blk_cell BK580.out 5).trans rfl, (blk_cell BK580.out 6).trans rfl⟩ (fun hHeld => ?_)
              clear hK K
              refine norm_ (a' := ?_) ?_ ?_
              rotate_left
              ·show Act.put _ (some 45) _ = _
               simp only [Act.put, lA_, lZ_, lS_, i64_w, i32_w]
               rfl
              refine pure_ (i := 7) (N := some 5) (v := ?_) (a' := ?_) #[true, true, true, true, true, true, true, true] rfl rfl (any_of HT_.out (by kernel_rfl)) (fun _ _ _ h => h) (Or.inl ⟨by rfl, ?_⟩) ?_ ?_
              rotate_left
              ·intro w'
               go_simp
               with_reducible rfl
              rotate_left
              ·simp only [Act.put, lA_, lZ_, lS_, i64_w, i32_w]
               rfl
              refine done_ (done_of HT_.out (by kernel_rfl)) ?_
              try go_wp2_with (first | ((with_reducible refine gate_dst (N := 46) rfl ?_); refine Kd.R_lit (Kd.int .u8) _ 5 ?hg (N := 46) ?hd (xs := ([] : List Int)) (inner := []) (ok := fun _ => True) (okp := fun _ => True) ?hr ?hp (fun _ hk => hk) trivial (Below.refl _ _) (Nat.le_refl _) (by simp) ?_; (case hd => rfl); (case hg => rfl); (case hr => first | (go_simp; done) | (go_simp; rfl)); (case hp => exact (Reps.none _ _)); intro v625 w54 ho55 hb hg_ hnew_; clear hg_ hnew_; (first | rw [← Ny624.out] at ho55 | (simp only [Int.reduceToNat] at ho55; rw [← Ny624.out] at ho55)); have n0_ := Aside0.mk (Kd.R_elder' (by (with_reducible repeat (first | apply Kd.R_alloc | apply Kd.R_drewN | apply Kd.R_drew)); exact HO_3.out) (Kd.R_base ho55) hb); have n1_ := Aside0.mk (Kd.R_elder' (by (with_reducible repeat (first | apply Kd.R_alloc | apply Kd.R_drewN | apply Kd.R_drew)); exact HO605.out) (Kd.R_base ho55) hb); have n2_ := Aside0.mk (Kd.R_elder' (by (with_reducible repeat (first | apply Kd.R_alloc | apply Kd.R_drewN | apply Kd.R_drew)); exact HO611.out) (Kd.R_base ho55) hb); have n3_ := Aside0.mk (Kd.R_elder' (by (with_reducible repeat (first | apply Kd.R_alloc | apply Kd.R_drewN | apply Kd.R_drew)); exact HO614.out) (Kd.R_base ho55) hb); have n4_ := Aside0.mk (Kd.R_elder' (by (with_reducible repeat (first | apply Kd.R_alloc | apply Kd.R_drewN | apply Kd.R_drew)); exact HO620.out) (Kd.R_base ho55) hb); have n5_ := Aside0.mk (Kd.R_elder' (by (with_reducible repeat (first | apply Kd.R_alloc | apply Kd.R_drewN | apply Kd.R_drew)); exact HO623.out) (Kd.R_base ho55) hb); have n6_ := Aside0.mk (Kd.R_lower (Kd.R_new' (Kd.R_new' (Kd.R_new' (Kd.R_new' (Kd.R_new' (Kd.R_new' ho55 (Kd.R_lt (by (with_reducible repeat (first | apply Kd.R_alloc | apply Kd.R_drewN | apply Kd.R_drew)); exact HO_3.out))) (Kd.R_lt (by (with_reducible repeat (first | apply Kd.R_alloc | apply Kd.R_drewN | apply Kd.R_drew)); exact HO605.out))) (Kd.R_lt (by (with_reducible repeat (first | apply Kd.R_alloc | apply Kd.R_drewN | apply Kd.R_drew)); exact HO611.out))) (Kd.R_lt (by (with_reducible repeat (first | apply Kd.R_alloc | apply Kd.R_drewN | apply Kd.R_drew)); exact HO614.out))) (Kd.R_lt (by (with_reducible repeat (first | apply Kd.R_alloc | apply Kd.R_drewN | apply Kd.R_drew)); exact HO620.out))) (Kd.R_lt (by (with_reducible repeat (first | apply Kd.R_alloc | apply Kd.R_drewN | apply Kd.R_drew)); exact HO623.out))) (below_size (by repeat (first | (with_reducible first | exact HB.out | apply below_alloc | apply pw_below_drewN | apply below_drew1 | refine below_set ?_ GE580.out) | exact HB.out)))); have n7_ := Aside0.mk (blk_below (g := gb580) (o := .cells #[.int .i64 a0_0, .int .i64 a0_1, .int .i64 a0_2, .int .i64 a0_3, .int .i64 a0_4, .int .i64 a0_5, .slice A0_6 l0_6.length c0_6] 34 (0, 0)) (by (with_reducible repeat (first | refine blk_drewN ?_ _ | refine blk_drew ?_ | refine blk_alloc ?_ _)); exact BK580.out) hb); have n8_ := Aside0.mk (below_step (by repeat (first | (with_reducible first | exact HB.out | apply below_alloc | apply pw_below_drewN | apply below_drew1 | refine below_set ?_ GE580.out) | exact HB.out)) hb); clear HO_3; clear HO605; clear HO611; clear HO614; clear HO620; clear HO623; clear BK580; clear HB; have HO_3 := n0_; have HO605 := n1_; have HO611 := n2_; have HO614 := n3_; have HO620 := n4_; have HO623 := n5_; have HO626 := n6_; have BK580 := n7_; have HB := n8_; clear n0_ n1_ n2_ n3_ n4_ n5_ n6_ n7_ n8_; clear hb ho55; obtain ⟨Ao57, co57, eo57⟩ := Kd.R_slice HO614.out; subst eo57) | ((with_reducible refine gate_builtin (b := .append) (xs := #[.tmp 46, .tmp 47]) rfl ?_); at_builtin; refine Kd.R_append_rows (Kd.int .u8) (w0 := w) w.heap.size rfl (.tmp 46) (.tmp 47) 22 5 (.int .u8 0) 1 rfl Try.underlying22 info5 rfl (by decide) (by omega) v625 y624 y612 _ _ _ (fun k_ => some k_ ≠ (.slice Ao40 x3_3.length co40 : Value).ownBlock ∧ some k_ ≠ (.slice Ao43 t603.length co43 : Value).ownBlock ∧ some k_ ≠ (.slice Ao48 y609.length co48 : Value).ownBlock ∧ some k_ ≠ (.slice Ao57 y612.length co57 : Value).ownBlock ∧ some k_ ≠ (.slice Ao53 t618.length co53 : Value).ownBlock ∧ some k_ ≠ (v622 : Value).ownBlock) (fun _ => False) rfl rfl ?aO ?aR (fun _ _ h => h) (fun _ h => h.elim) ?aF ?aB ?aS ?aL ?_; (case aR => repeat (first | exact (Kd.R_reads' HO614.out).2.2 | (with_reducible refine Kd.C_alloc ?_ _) | (with_reducible refine Kd.C_drewN ?_ _) | (with_reducible refine Kd.C_drew ?_))); (case aB => exact (by repeat (first | (with_reducible first | exact HB.out | apply below_alloc | apply pw_below_drewN | apply below_drew1 | refine below_set ?_ GE580.out) | exact HB.out))); (case aF => exact (fun k_ hk => ⟨Kd.fresh' (Kd.R_lt (by (with_reducible repeat (first | apply Kd.R_alloc | apply Kd.R_drewN | apply Kd.R_drew)); exact HO_3.out)) k_ hk, Kd.fresh' (Kd.R_lt (by (with_reducible repeat (first | apply Kd.R_alloc | apply Kd.R_drewN | apply Kd.R_drew)); exact HO605.out)) k_ hk, Kd.fresh' (Kd.R_lt (by (with_reducible repeat (first | apply Kd.R_alloc | apply Kd.R_drewN | apply Kd.R_drew)); exact HO611.out)) k_ hk, Kd.fresh' (Kd.R_lt (by (with_reducible repeat (first | apply Kd.R_alloc | apply Kd.R_drewN | apply Kd.R_drew)); exact HO614.out)) k_ hk, Kd.fresh' (Kd.R_lt (by (with_reducible repeat (first | apply Kd.R_alloc | apply Kd.R_drewN | apply Kd.R_drew)); exact HO620.out)) k_ hk, Kd.fresh' (Kd.R_lt (by (with_reducible repeat (first | apply Kd.R_alloc | apply Kd.R_drewN | apply Kd.R_drew)); exact HO623.out)) k_ hk⟩)); (case aO => exact (by (with_reducible repeat (first | apply Kd.R_alloc | apply Kd.R_drewN | apply Kd.R_drew)); exact Kd.R_mono HO626.out (fun _ hk => ⟨hk.1.1.1.1.1.2, ⟨hk.1.1.1.1.2, ⟨hk.1.1.1.2, ⟨hk.1.1.2, ⟨hk.1.2, hk.2⟩⟩⟩⟩⟩))); (case aS => exact (below_size (by repeat (first | (with_reducible first | exact HB.out | apply below_alloc | apply pw_below_drewN | apply below_drew1 | refine below_set ?_ GE580.out) | exact HB.out)))); (case aL => have := LMc29.out; omega); intro v628 w56 ho hb hg hat; rw [← Ny627.out] at ho; have n0_ := Aside0.mk (Kd.R_after (ok := (fun k_ => some k_ ≠ (.slice Ao43 t603.length co43 : Value).ownBlock ∧ some k_ ≠ (.slice Ao48 y609.length co48 : Value).ownBlock ∧ some k_ ≠ (.slice Ao57 y612.length co57 : Value).ownBlock ∧ some k_ ≠ (.slice Ao53 t618.length co53 : Value).ownBlock ∧ some k_ ≠ (v622 : Value).ownBlock)) (by (with_reducible repeat (first | apply Kd.R_alloc | apply Kd.R_drewN | apply Kd.R_drew)); exact Kd.R_mono HO_3.out (fun _ hk => ⟨⟨hk.1.1.1, ⟨hk.1.1.2.1, ⟨hk.1.1.2.2.1, ⟨hk.1.1.2.2.2, hk.1.2⟩⟩⟩⟩, hk.2⟩)) hg hat); have n1_ := Aside0.mk (blk_grown (g := gb580) (o := .cells #[.int .i64 a0_0, .int .i64 a0_1, .int .i64 a0_2, .int .i64 a0_3, .int .i64 a0_4, .int .i64 a0_5, .slice A0_6 l0_6.length c0_6] 34 (0, 0)) (by (with_reducible repeat (first | refine blk_drewN ?_ _ | refine blk_drew ?_ | refine blk_alloc ?_ _)); exact BK580.out) hg (Kd.R_ne HO626.out BK580.out (by decide))); have n2_ := Aside0.mk (Kd.R_after (ok := (fun k_ => some k_ ≠ (.slice Ao40 x3_3.length co40 : Value).ownBlock ∧ some k_ ≠ (.slice Ao48 y609.length co48 : Value).ownBlock ∧ some k_ ≠ (.slice Ao57 y612.length co57 : Value).ownBlock ∧ some k_ ≠ (.slice Ao53 t618.length co53 : Value).ownBlock ∧ some k_ ≠ (v622 : Value).ownBlock)) (by (with_reducible repeat (first | apply Kd.R_alloc | apply Kd.R_drewN | apply Kd.R_drew)); exact Kd.R_mono HO605.out (fun _ hk => ⟨⟨hk.1.1.1, ⟨hk.1.1.2.1, ⟨hk.1.1.2.2.1, ⟨hk.1.1.2.2.2, hk.1.2⟩⟩⟩⟩, hk.2⟩)) hg hat); have n3_ := Aside0.mk (Kd.R_after (ok := (fun k_ => some k_ ≠ (.slice Ao40 x3_3.length co40 : Value).ownBlock ∧ some k_ ≠ (.slice Ao43 t603.length co43 : Value).ownBlock ∧ some k_ ≠ (.slice Ao57 y612.length co57 : Value).ownBlock ∧ some k_ ≠ (.slice Ao53 t618.length co53 : Value).ownBlock ∧ some k_ ≠ (v622 : Value).ownBlock)) (by (with_reducible repeat (first | apply Kd.R_alloc | apply Kd.R_drewN | apply Kd.R_drew)); exact Kd.R_mono HO611.out (fun _ hk => ⟨⟨hk.1.1.1, ⟨hk.1.1.2.1, ⟨hk.1.1.2.2.1, ⟨hk.1.1.2.2.2, hk.1.2⟩⟩⟩⟩, hk.2⟩)) hg hat); have n4_ := Aside0.mk (Kd.R_after (ok := (fun k_ => some k_ ≠ (.slice Ao40 x3_3.length co40 : Value).ownBlock ∧ some k_ ≠ (.slice Ao43 t603.length co43 : Value).ownBlock ∧ some k_ ≠ (.slice Ao48 y609.length co48 : Value).ownBlock ∧ some k_ ≠ (.slice Ao53 t618.length co53 : Value).ownBlock ∧ some k_ ≠ (v622 : Value).ownBlock)) (by (with_reducible repeat (first | apply Kd.R_alloc | apply Kd.R_drewN | apply Kd.R_drew)); exact Kd.R_mono HO614.out (fun _ hk => ⟨⟨hk.1.1.1, ⟨hk.1.1.2.1, ⟨hk.1.1.2.2.1, ⟨hk.1.1.2.2.2, hk.1.2⟩⟩⟩⟩, hk.2⟩)) hg hat); have n5_ := Aside0.mk (Kd.R_after (ok := (fun k_ => some k_ ≠ (.slice Ao40 x3_3.length co40 : Value).ownBlock ∧ some k_ ≠ (.slice Ao43 t603.length co43 : Value).ownBlock ∧ some k_ ≠ (.slice Ao48 y609.length co48 : Value).ownBlock ∧ some k_ ≠ (.slice Ao57 y612.length co57 : Value).ownBlock ∧ some k_ ≠ (v622 : Value).ownBlock)) (by (with_reducible repeat (first | apply Kd.R_alloc | apply Kd.R_drewN | apply Kd.R_drew)); exact Kd.R_mono HO620.out (fun _ hk => ⟨⟨hk.1.1.1, ⟨hk.1.1.2.1, ⟨hk.1.1.2.2.1, ⟨hk.1.1.2.2.2, hk.1.2⟩⟩⟩⟩, hk.2⟩)) hg hat); have n6_ := Aside0.mk (Kd.R_after (ok := (fun k_ => some k_ ≠ (.slice Ao40 x3_3.length co40 : Value).ownBlock ∧ some k_ ≠ (.slice Ao43 t603.length co43 : Value).ownBlock ∧ some k_ ≠ (.slice Ao48 y609.length co48 : Value).ownBlock ∧ some k_ ≠ (.slice Ao57 y612.length co57 : Value).ownBlock ∧ some k_ ≠ (.slice Ao53 t618.length co53 : Value).ownBlock)) (by (with_reducible repeat (first | apply Kd.R_alloc | apply Kd.R_drewN | apply Kd.R_drew)); exact HO623.out) hg hat); have n7_ := Aside0.mk (hb); have n8_ := Aside0.mk (ho); clear HO_3; clear BK580; clear HO605; clear HO611; clear HO614; clear HO620; clear HO623; clear HB; clear HO626; have HO_3 := n0_; have BK580 := n1_; have HO605 := n2_; have HO611 := n3_; have HO614 := n4_; have HO620 := n5_; have HO623 := n6_; have HB := n7_; have HO629 := n8_; clear n0_ n1_ n2_ n3_ n4_ n5_ n6_ n7_ n8_; clear ho hb hg hat) | ((with_reducible refine gate_dst (N := 49) rfl ?_); refine Kd.R_lit (Kd.int .u8) _ 5 ?hg (N := 49) ?hd (xs := ([0, 0] : List Int)) (inner := [.int .u8 0, .int .u8 0]) (ok := fun _ => True) (okp := fun _ => True) ?hr ?hp (fun _ hk => hk) trivial (Below.refl _ _) (Nat.le_refl _) (by simp) ?_; (case hd => rfl); (case hg => rfl); (case hr => first | (go_simp; done) | (go_simp; rfl)); (case hp => exact (Reps.one (show Kd.M (Kd.int .u8) _ _ _ 0 [.int .u8 0] from rfl) (Reps.one (show Kd.M (Kd.int .u8) _ _ _ 0 [.int .u8 0] from rfl) (Reps.none _ _)))); intro v631 w58 ho59 hb hg_ hnew_; clear hg_ hnew_; (first | rw [← Ny630.out] at ho59 | (simp only [Int.reduceToNat] at ho59; rw [← Ny630.out] at ho59)); have n0_ := Aside0.mk (Kd.R_elder' (by (with_reducible repeat (first | apply Kd.R_alloc | apply Kd.R_drewN | apply Kd.R_drew)); exact HO_3.out) (Kd.R_base ho59) hb); have n1_ := Aside0.mk (Kd.R_elder' (by (with_reducible repeat (first | apply Kd.R_alloc | apply Kd.R_drewN | apply Kd.R_drew)); exact HO605.out) (Kd.R_base ho59) hb); have n2_ := Aside0.mk (Kd.R_elder' (by (with_reducible repeat (first | apply Kd.R_alloc | apply Kd.R_drewN | apply Kd.R_drew)); exact HO611.out) (Kd.R_base ho59) hb); have n3_ := Aside0.mk (Kd.R_elder' (by (with_reducible repeat (first | apply Kd.R_alloc | apply Kd.R_drewN | apply Kd.R_drew)); exact HO614.out) (Kd.R_base ho59) hb); have n4_ := Aside0.mk (Kd.R_elder' (by (with_reducible repeat (first | apply Kd.R_alloc | apply Kd.R_drewN | apply Kd.R_drew)); exact HO620.out) (Kd.R_base ho59) hb); have n5_ := Aside0.mk (Kd.R_elder' (by (with_reducible repeat (first | apply Kd.R_alloc | apply Kd.R_drewN | apply Kd.R_drew)); exact HO623.out) (Kd.R_base ho59) hb); have n6_ := Aside0.mk (Kd.R_elder' (by (with_reducible repeat (first | apply Kd.R_alloc | apply Kd.R_drewN | apply Kd.R_drew)); exact HO629.out) (Kd.R_base ho59) hb); have n7_ := Aside0.mk (Kd.R_lower (Kd.R_new' (Kd.R_new' (Kd.R_new' (Kd.R_new' (Kd.R_new' (Kd.R_new' (Kd.R_new' ho59 (Kd.R_lt (by (with_reducible repeat (first | apply Kd.R_alloc | apply Kd.R_drewN | apply Kd.R_drew)); exact HO_3.out))) (Kd.R_lt (by (with_reducible repeat (first | apply Kd.R_alloc | apply Kd.R_drewN | apply Kd.R_drew)); exact HO605.out))) (Kd.R_lt (by (with_reducible repeat (first | apply Kd.R_alloc | apply Kd.R_drewN | apply Kd.R_drew)); exact HO611.out))) (Kd.R_lt (by (with_reducible repeat (first | apply Kd.R_alloc | apply Kd.R_drewN | apply Kd.R_drew)); exact HO614.out))) (Kd.R_lt (by (with_reducible repeat (first | apply Kd.R_alloc | apply Kd.R_drewN | apply Kd.R_drew)); exact HO620.out))) (Kd.R_lt (by (with_reducible repeat (first | apply Kd.R_alloc | apply Kd.R_drewN | apply Kd.R_drew)); exact HO623.out))) (Kd.R_lt (by (with_reducible repeat (first | apply Kd.R_alloc | apply Kd.R_drewN | apply Kd.R_drew)); exact HO629.out))) (below_size (by repeat (first | (with_reducible first | exact HB.out | apply below_alloc | apply pw_below_drewN | apply below_drew1 | refine below_set ?_ GE580.out) | exact HB.out)))); have n8_ := Aside0.mk (blk_below (g := gb580) (o := .cells #[.int .i64 a0_0, .int .i64 a0_1, .int .i64 a0_2, .int .i64 a0_3, .int .i64 a0_4, .int .i64 a0_5, .slice A0_6 l0_6.length c0_6] 34 (0, 0)) (by (with_reducible repeat (first | refine blk_drewN ?_ _ | refine blk_drew ?_ | refine blk_alloc ?_ _)); exact BK580.out) hb); have n9_ := Aside0.mk (below_step (by repeat (first | (with_reducible first | exact HB.out | apply below_alloc | apply pw_below_drewN | apply below_drew1 | refine below_set ?_ GE580.out) | exact HB.out)) hb); clear HO_3; clear HO605; clear HO611; clear HO614; clear HO620; clear HO623; clear HO629; clear BK580; clear HB; have HO_3 := n0_; have HO605 := n1_; have HO611 := n2_; have HO614 := n3_; have HO620 := n4_; have HO623 := n5_; have HO629 := n6_; have HO632 := n7_; have BK580 := n8_; have HB := n9_; clear n0_ n1_ n2_ n3_ n4_ n5_ n6_ n7_ n8_ n9_; clear hb ho59; obtain ⟨Ao61, co61, eo61⟩ := Kd.R_slice HO632.out; subst eo61) | ((with_reducible refine gate_builtin (b := .append) (xs := #[.tmp 48, .tmp 49]) rfl ?_); at_builtin; refine Kd.R_append_rows (Kd.int .u8) (w0 := w) w.heap.size rfl (.tmp 48) (.tmp 49) 22 5 (.int .u8 0) 1 rfl Try.underlying22 info5 rfl (by decide) (by omega) v628 y627 y630 _ _ _ (fun k_ => some k_ ≠ (.slice Ao40 x3_3.length co40 : Value).ownBlock ∧ some k_ ≠ (.slice Ao43 t603.length co43 : Value).ownBlock ∧ some k_ ≠ (.slice Ao48 y609.length co48 : Value).ownBlock ∧ some k_ ≠ (.slice Ao57 y612.length co57 : Value).ownBlock ∧ some k_ ≠ (.slice Ao53 t618.length co53 : Value).ownBlock ∧ some k_ ≠ (v622 : Value).ownBlock ∧ some k_ ≠ (.slice Ao61 y630.length co61 : Value).ownBlock) (fun _ => False) rfl rfl ?aO ?aR (fun _ _ h => h) (fun _ h => h.elim) ?aF ?aB ?aS ?aL ?_; (case aR => repeat (first | exact (Kd.R_reads' HO632.out).2.2 | (with_reducible refine Kd.C_alloc ?_ _) | (with_reducible refine Kd.C_drewN ?_ _) | (with_reducible refine Kd.C_drew ?_))); (case aB => exact (by repeat (first | (with_reducible first | exact HB.out | apply below_alloc | apply pw_below_drewN | apply below_drew1 | refine below_set ?_ GE580.out) | exact HB.out))); (case aF => exact (fun k_ hk => ⟨Kd.fresh' (Kd.R_lt (by (with_reducible repeat (first | apply Kd.R_alloc | apply Kd.R_drewN | apply Kd.R_drew)); exact HO_3.out)) k_ hk, Kd.fresh' (Kd.R_lt (by (with_reducible repeat (first | apply Kd.R_alloc | apply Kd.R_drewN | apply Kd.R_drew)); exact HO605.out)) k_ hk, Kd.fresh' (Kd.R_lt (by (with_reducible repeat (first | apply Kd.R_alloc | apply Kd.R_drewN | apply Kd.R_drew)); exact HO611.out)) k_ hk, Kd.fresh' (Kd.R_lt (by (with_reducible repeat (first | apply Kd.R_alloc | apply Kd.R_drewN | apply Kd.R_drew)); exact HO614.out)) k_ hk, Kd.fresh' (Kd.R_lt (by (with_reducible repeat (first | apply Kd.R_alloc | apply Kd.R_drewN | apply Kd.R_drew)); exact HO620.out)) k_ hk, Kd.fresh' (Kd.R_lt (by (with_reducible repeat (first | apply Kd.R_alloc | apply Kd.R_drewN | apply Kd.R_drew)); exact HO623.out)) k_ hk, Kd.fresh' (Kd.R_lt (by (with_reducible repeat (first | apply Kd.R_alloc | apply Kd.R_drewN | apply Kd.R_drew)); exact HO632.out)) k_ hk⟩)); (case aO => exact (by (with_reducible repeat (first | apply Kd.R_alloc | apply Kd.R_drewN | apply Kd.R_drew)); exact Kd.R_mono HO629.out (fun _ hk => ⟨hk.1.1, ⟨hk.1.2.1, ⟨hk.1.2.2.1, ⟨hk.1.2.2.2.1, ⟨hk.1.2.2.2.2.1, ⟨hk.1.2.2.2.2.2, hk.2⟩⟩⟩⟩⟩⟩))); (case aS => exact (below_size (by repeat (first | (with_reducible first | exact HB.out | apply below_alloc | apply pw_below_drewN | apply below_drew1 | refine below_set ?_ GE580.out) | exact HB.out)))); (case aL => have := LMc30.out; omega); intro v634 w60 ho hb hg hat; rw [← Ny633.out] at ho; have n0_ := Aside0.mk (Kd.R_after (ok := (fun k_ => some k_ ≠ (.slice Ao43 t603.length co43 : Value).ownBlock ∧ some k_ ≠ (.slice Ao48 y609.length co48 : Value).ownBlock ∧ some k_ ≠ (.slice Ao57 y612.length co57 : Value).ownBlock ∧ some k_ ≠ (.slice Ao53 t618.length co53 : Value).ownBlock ∧ some k_ ≠ (v622 : Value).ownBlock ∧ some k_ ≠ (.slice Ao61 y630.length co61 : Value).ownBlock)) (by (with_reducible repeat (first | apply Kd.R_alloc | apply Kd.R_drewN | apply Kd.R_drew)); exact Kd.R_mono HO_3.out (fun _ hk => ⟨⟨hk.1.1.1, ⟨hk.1.1.2.1, ⟨hk.1.1.2.2.1, ⟨hk.1.1.2.2.2.1, ⟨hk.1.1.2.2.2.2, hk.2⟩⟩⟩⟩⟩, hk.1.2⟩)) hg hat); have n1_ := Aside0.mk (blk_grown (g := gb580) (o := .cells #[.int .i64 a0_0, .int .i64 a0_1, .int .i64 a0_2, .int .i64 a0_3, .int .i64 a0_4, .int .i64 a0_5, .slice A0_6 l0_6.length c0_6] 34 (0, 0)) (by (with_reducible repeat (first | refine blk_drewN ?_ _ | refine blk_drew ?_ | refine blk_alloc ?_ _)); exact BK580.out) hg (Kd.R_ne HO629.out BK580.out (by decide))); have n2_ := Aside0.mk (Kd.R_after (ok := (fun k_ => some k_ ≠ (.slice Ao40 x3_3.length co40 : Value).ownBlock ∧ some k_ ≠ (.slice Ao48 y609.length co48 : Value).ownBlock ∧ some k_ ≠ (.slice Ao57 y612.length co57 : Value).ownBlock ∧ some k_ ≠ (.slice Ao53 t618.length co53 : Value).ownBlock ∧ some k_ ≠ (v622 : Value).ownBlock ∧ some k_ ≠ (.slice Ao61 y630.length co61 : Value).ownBlock)) (by (with_reducible repeat (first | apply Kd.R_alloc | apply Kd.R_drewN | apply Kd.R_drew)); exact Kd.R_mono HO605.out (fun _ hk => ⟨⟨hk.1.1.1, ⟨hk.1.1.2.1, ⟨hk.1.1.2.2.1, ⟨hk.1.1.2.2.2.1, ⟨hk.1.1.2.2.2.2, hk.2⟩⟩⟩⟩⟩, hk.1.2⟩)) hg hat); have n3_ := Aside0.mk (Kd.R_after (ok := (fun k_ => some k_ ≠ (.slice Ao40 x3_3.length co40 : Value).ownBlock ∧ some k_ ≠ (.slice Ao43 t603.length co43 : Value).ownBlock ∧ some k_ ≠ (.slice Ao57 y612.length co57 : Value).ownBlock ∧ some k_ ≠ (.slice Ao53 t618.length co53 : Value).ownBlock ∧ some k_ ≠ (v622 : Value).ownBlock ∧ some k_ ≠ (.slice Ao61 y630.length co61 : Value).ownBlock)) (by (with_reducible repeat (first | apply Kd.R_alloc | apply Kd.R_drewN | apply Kd.R_drew)); exact Kd.R_mono HO611.out (fun _ hk => ⟨⟨hk.1.1.1, ⟨hk.1.1.2.1, ⟨hk.1.1.2.2.1, ⟨hk.1.1.2.2.2.1, ⟨hk.1.1.2.2.2.2, hk.2⟩⟩⟩⟩⟩, hk.1.2⟩)) hg hat); have n4_ := Aside0.mk (Kd.R_after (ok := (fun k_ => some k_ ≠ (.slice Ao40 x3_3.length co40 : Value).ownBlock ∧ some k_ ≠ (.slice Ao43 t603.length co43 : Value).ownBlock ∧ some k_ ≠ (.slice Ao48 y609.length co48 : Value).ownBlock ∧ some k_ ≠ (.slice Ao53 t618.length co53 : Value).ownBlock ∧ some k_ ≠ (v622 : Value).ownBlock ∧ some k_ ≠ (.slice Ao61 y630.length co61 : Value).ownBlock)) (by (with_reducible repeat (first | apply Kd.R_alloc | apply Kd.R_drewN | apply Kd.R_drew)); exact Kd.R_mono HO614.out (fun _ hk => ⟨⟨hk.1.1.1, ⟨hk.1.1.2.1, ⟨hk.1.1.2.2.1, ⟨hk.1.1.2.2.2.1, ⟨hk.1.1.2.2.2.2, hk.2⟩⟩⟩⟩⟩, hk.1.2⟩)) hg hat); have n5_ := Aside0.mk (Kd.R_after (ok := (fun k_ => some k_ ≠ (.slice Ao40 x3_3.length co40 : Value).ownBlock ∧ some k_ ≠ (.slice Ao43 t603.length co43 : Value).ownBlock ∧ some k_ ≠ (.slice Ao48 y609.length co48 : Value).ownBlock ∧ some k_ ≠ (.slice Ao57 y612.length co57 : Value).ownBlock ∧ some k_ ≠ (v622 : Value).ownBlock ∧ some k_ ≠ (.slice Ao61 y630.length co61 : Value).ownBlock)) (by (with_reducible repeat (first | apply Kd.R_alloc | apply Kd.R_drewN | apply Kd.R_drew)); exact Kd.R_mono HO620.out (fun _ hk => ⟨⟨hk.1.1.1, ⟨hk.1.1.2.1, ⟨hk.1.1.2.2.1, ⟨hk.1.1.2.2.2.1, ⟨hk.1.1.2.2.2.2, hk.2⟩⟩⟩⟩⟩, hk.1.2⟩)) hg hat); have n6_ := Aside0.mk (Kd.R_after (ok := (fun k_ => some k_ ≠ (.slice Ao40 x3_3.length co40 : Value).ownBlock ∧ some k_ ≠ (.slice Ao43 t603.length co43 : Value).ownBlock ∧ some k_ ≠ (.slice Ao48 y609.length co48 : Value).ownBlock ∧ some k_ ≠ (.slice Ao57 y612.length co57 : Value).ownBlock ∧ some k_ ≠ (.slice Ao53 t618.length co53 : Value).ownBlock ∧ some k_ ≠ (.slice Ao61 y630.length co61 : Value).ownBlock)) (by (with_reducible repeat (first | apply Kd.R_alloc | apply Kd.R_drewN | apply Kd.R_drew)); exact Kd.R_mono HO623.out (fun _ hk => ⟨⟨hk.1.1.1, ⟨hk.1.1.2.1, ⟨hk.1.1.2.2.1, ⟨hk.1.1.2.2.2.1, ⟨hk.1.1.2.2.2.2, hk.2⟩⟩⟩⟩⟩, hk.1.2⟩)) hg hat); have n7_ := Aside0.mk (Kd.R_after (ok := (fun k_ => some k_ ≠ (.slice Ao40 x3_3.length co40 : Value).ownBlock ∧ some k_ ≠ (.slice Ao43 t603.length co43 : Value).ownBlock ∧ some k_ ≠ (.slice Ao48 y609.length co48 : Value).ownBlock ∧ some k_ ≠ (.slice Ao57 y612.length co57 : Value).ownBlock ∧ some k_ ≠ (.slice Ao53 t618.length co53 : Value).ownBlock ∧ some k_ ≠ (v622 : Value).ownBlock)) (by (with_reducible repeat (first | apply Kd.R_alloc | apply Kd.R_drewN | apply Kd.R_drew)); exact Kd.R_mono HO632.out (fun _ hk => ⟨⟨hk.1.1.1.1.1.1.2, ⟨hk.1.1.1.1.1.2, ⟨hk.1.1.1.1.2, ⟨hk.1.1.1.2, ⟨hk.1.1.2, hk.1.2⟩⟩⟩⟩⟩, hk.2⟩)) hg hat); have n8_ := Aside0.mk (hb); have n9_ := Aside0.mk (ho); clear HO_3; clear BK580; clear HO605; clear HO611; clear HO614; clear HO620; clear HO623; clear HO632; clear HB; clear HO629; have HO_3 := n0_; have BK580 := n1_; have HO605 := n2_; have HO611 := n3_; have HO614 := n4_; have HO620 := n5_; have HO623 := n6_; have HO632 := n7_; have HB := n8_; have HO635 := n9_; clear n0_ n1_ n2_ n3_ n4_ n5_ n6_ n7_ n8_ n9_; clear ho hb hg hat; obtain ⟨Ao63, co63, eo63⟩ := Kd.R_slice HO623.out; subst eo63) | ((with_reducible refine gate_builtin (b := .append) (xs := #[.tmp 50, .tmp 51]) rfl ?_); at_builtin; refine Kd.R_append_rows (Kd.int .u8) (w0 := w) w.heap.size rfl (.tmp 50) (.tmp 51) 22 5 (.int .u8 0) 1 rfl Try.underlying22 info5 rfl (by decide) (by omega) v634 y633 y621 _ _ _ (fun k_ => some k_ ≠ (.slice Ao40 x3_3.length co40 : Value).ownBlock ∧ some k_ ≠ (.slice Ao43 t603.length co43 : Value).ownBlock ∧ some k_ ≠ (.slice Ao48 y609.length co48 : Value).ownBlock ∧ some k_ ≠ (.slice Ao57 y612.length co57 : Value).ownBlock ∧ some k_ ≠ (.slice Ao53 t618.length co53 : Value).ownBlock ∧ some k_ ≠ (.slice Ao63 y621.length co63 : Value).ownBlock ∧ some k_ ≠ (.slice Ao61 y630.length co61 : Value).ownBlock) (fun _ => False) rfl rfl ?aO ?aR (fun _ _ h => h) (fun _ h => h.elim) ?aF ?aB ?aS ?aL ?_; (case aR => repeat (first | exact (Kd.R_reads' HO623.out).2.2 | (with_reducible refine Kd.C_alloc ?_ _) | (with_reducible refine Kd.C_drewN ?_ _) | (with_reducible refine Kd.C_drew ?_))); (case aB => exact (by repeat (first | (with_reducible first | exact HB.out | apply below_alloc | apply pw_below_drewN | apply below_drew1 | refine below_set ?_ GE580.out) | exact HB.out))); (case aF => exact (fun k_ hk => ⟨Kd.fresh' (Kd.R_lt (by (with_reducible repeat (first | apply Kd.R_alloc | apply Kd.R_drewN | apply Kd.R_drew)); exact HO_3.out)) k_ hk, Kd.fresh' (Kd.R_lt (by (with_reducible repeat (first | apply Kd.R_alloc | apply Kd.R_drewN | apply Kd.R_drew)); exact HO605.out)) k_ hk, Kd.fresh' (Kd.R_lt (by (with_reducible repeat (first | apply Kd.R_alloc | apply Kd.R_drewN | apply Kd.R_drew)); exact HO611.out)) k_ hk, Kd.fresh' (Kd.R_lt (by (with_reducible repeat (first | apply Kd.R_alloc | apply Kd.R_drewN | apply Kd.R_drew)); exact HO614.out)) k_ hk, Kd.fresh' (Kd.R_lt (by (with_reducible repeat (first | apply Kd.R_alloc | apply Kd.R_drewN | apply Kd.R_drew)); exact HO620.out)) k_ hk, Kd.fresh' (Kd.R_lt (by (with_reducible repeat (first | apply Kd.R_alloc | apply Kd.R_drewN | apply Kd.R_drew)); exact HO623.out)) k_ hk, Kd.fresh' (Kd.R_lt (by (with_reducible repeat (first | apply Kd.R_alloc | apply Kd.R_drewN | apply Kd.R_drew)); exact HO632.out)) k_ hk⟩)); (case aO => exact (by (with_reducible repeat (first | apply Kd.R_alloc | apply Kd.R_drewN | apply Kd.R_drew)); exact HO635.out)); (case aS => exact (below_size (by repeat (first | (with_reducible first | exact HB.out | apply below_alloc | apply pw_below_drewN | apply below_drew1 | refine below_set ?_ GE580.out) | exact HB.out)))); (case aL => have := LMc31.out; omega); intro v637 w62 ho hb hg hat; rw [← Ny636.out] at ho; have n0_ := Aside0.mk (Kd.R_after (ok := (fun k_ => some k_ ≠ (.slice Ao43 t603.length co43 : Value).ownBlock ∧ some k_ ≠ (.slice Ao48 y609.length co48 : Value).ownBlock ∧ some k_ ≠ (.slice Ao57 y612.length co57 : Value).ownBlock ∧ some k_ ≠ (.slice Ao53 t618.length co53 : Value).ownBlock ∧ some k_ ≠ (.slice Ao63 y621.length co63 : Value).ownBlock ∧ some k_ ≠ (.slice Ao61 y630.length co61 : Value).ownBlock)) (by (with_reducible repeat (first | apply Kd.R_alloc | apply Kd.R_drewN | apply Kd.R_drew)); exact HO_3.out) hg hat); have n1_ := Aside0.mk (blk_grown (g := gb580) (o := .cells #[.int .i64 a0_0, .int .i64 a0_1, .int .i64 a0_2, .int .i64 a0_3, .int .i64 a0_4, .int .i64 a0_5, .slice A0_6 l0_6.length c0_6] 34 (0, 0)) (by (with_reducible repeat (first | refine blk_drewN ?_ _ | refine blk_drew ?_ | refine blk_alloc ?_ _)); exact BK580.out) hg (Kd.R_ne HO635.out BK580.out (by decide))); have n2_ := Aside0.mk (Kd.R_after (ok := (fun k_ => some k_ ≠ (.slice Ao40 x3_3.length co40 : Value).ownBlock ∧ some k_ ≠ (.slice Ao48 y609.length co48 : Value).ownBlock ∧ some k_ ≠ (.slice Ao57 y612.length co57 : Value).ownBlock ∧ some k_ ≠ (.slice Ao53 t618.length co53 : Value).ownBlock ∧ some k_ ≠ (.slice Ao63 y621.length co63 : Value).ownBlock ∧ some k_ ≠ (.slice Ao61 y630.length co61 : Value).ownBlock)) (by (with_reducible repeat (first | apply Kd.R_alloc | apply Kd.R_drewN | apply Kd.R_drew)); exact HO605.out) hg hat); have n3_ := Aside0.mk (Kd.R_after (ok := (fun k_ => some k_ ≠ (.slice Ao40 x3_3.length co40 : Value).ownBlock ∧ some k_ ≠ (.slice Ao43 t603.length co43 : Value).ownBlock ∧ some k_ ≠ (.slice Ao57 y612.length co57 : Value).ownBlock ∧ some k_ ≠ (.slice Ao53 t618.length co53 : Value).ownBlock ∧ some k_ ≠ (.slice Ao63 y621.length co63 : Value).ownBlock ∧ some k_ ≠ (.slice Ao61 y630.length co61 : Value).ownBlock)) (by (with_reducible repeat (first | apply Kd.R_alloc | apply Kd.R_drewN | apply Kd.R_drew)); exact HO611.out) hg hat); have n4_ := Aside0.mk (Kd.R_after (ok := (fun k_ => some k_ ≠ (.slice Ao40 x3_3.length co40 : Value).ownBlock ∧ some k_ ≠ (.slice Ao43 t603.length co43 : Value).ownBlock ∧ some k_ ≠ (.slice Ao48 y609.length co48 : Value).ownBlock ∧ some k_ ≠ (.slice Ao53 t618.length co53 : Value).ownBlock ∧ some k_ ≠ (.slice Ao63 y621.length co63 : Value).ownBlock ∧ some k_ ≠ (.slice Ao61 y630.length co61 : Value).ownBlock)) (by (with_reducible repeat (first | apply Kd.R_alloc | apply Kd.R_drewN | apply Kd.R_drew)); exact HO614.out) hg hat); have n5_ := Aside0.mk (Kd.R_after (ok := (fun k_ => some k_ ≠ (.slice Ao40 x3_3.length co40 : Value).ownBlock ∧ some k_ ≠ (.slice Ao43 t603.length co43 : Value).ownBlock ∧ some k_ ≠ (.slice Ao48 y609.length co48 : Value).ownBlock ∧ some k_ ≠ (.slice Ao57 y612.length co57 : Value).ownBlock ∧ some k_ ≠ (.slice Ao63 y621.length co63 : Value).ownBlock ∧ some k_ ≠ (.slice Ao61 y630.length co61 : Value).ownBlock)) (by (with_reducible repeat (first | apply Kd.R_alloc | apply Kd.R_drewN | apply Kd.R_drew)); exact HO620.out) hg hat); have n6_ := Aside0.mk (Kd.R_after (ok := (fun k_ => some k_ ≠ (.slice Ao40 x3_3.length co40 : Value).ownBlock ∧ some k_ ≠ (.slice Ao43 t603.length co43 : Value).ownBlock ∧ some k_ ≠ (.slice Ao48 y609.length co48 : Value).ownBlock ∧ some k_ ≠ (.slice Ao57 y612.length co57 : Value).ownBlock ∧ some k_ ≠ (.slice Ao53 t618.length co53 : Value).ownBlock ∧ some k_ ≠ (.slice Ao61 y630.length co61 : Value).ownBlock)) (by (with_reducible repeat (first | apply Kd.R_alloc | apply Kd.R_drewN | apply Kd.R_drew)); exact HO623.out) hg hat); have n7_ := Aside0.mk (Kd.R_after (ok := (fun k_ => some k_ ≠ (.slice Ao40 x3_3.length co40 : Value).ownBlock ∧ some k_ ≠ (.slice Ao43 t603.length co43 : Value).ownBlock ∧ some k_ ≠ (.slice Ao48 y609.length co48 : Value).ownBlock ∧ some k_ ≠ (.slice Ao57 y612.length co57 : Value).ownBlock ∧ some k_ ≠ (.slice Ao53 t618.length co53 : Value).ownBlock ∧ some k_ ≠ (.slice Ao63 y621.length co63 : Value).ownBlock)) (by (with_reducible repeat (first | apply Kd.R_alloc | apply Kd.R_drewN | apply Kd.R_drew)); exact HO632.out) hg hat); have n8_ := Aside0.mk (hb); have n9_ := Aside0.mk (ho); clear HO_3; clear BK580; clear HO605; clear HO611; clear HO614; clear HO620; clear HO623; clear HO632; clear HB; clear HO635; have HO_3 := n0_; have BK580 := n1_; have HO605 := n2_; have HO611 := n3_; have HO614 := n4_; have HO620 := n5_; have HO623 := n6_; have HO632 := n7_; have HB := n8_; have HO638 := n9_; clear n0_ n1_ n2_ n3_ n4_ n5_ n6_ n7_ n8_ n9_; clear ho hb hg hat) | ((with_reducible refine gate_dst (N := 53) rfl ?_); refine Kd.R_lit (Kd.int .u8) _ 5 ?hg (N := 53) ?hd (xs := ([] : List Int)) (inner := []) (ok := fun _ => True) (okp := fun _ => True) ?hr ?hp (fun _ hk => hk) trivial (Below.refl _ _) (Nat.le_refl _) (by simp) ?_; (case hd => rfl); (case hg => rfl); (case hr => first | (go_simp; done) | (go_simp; rfl)); (case hp => exact (Reps.none _ _)); intro v640 w64 ho65 hb hg_ hnew_; clear hg_ hnew_; (first | rw [← Ny639.out] at ho65 | (simp only [Int.reduceToNat] at ho65; rw [← Ny639.out] at ho65)); have n0_ := Aside0.mk (Kd.R_elder' (by (with_reducible repeat (first | apply Kd.R_alloc | apply Kd.R_drewN | apply Kd.R_drew)); exact HO_3.out) (Kd.R_base ho65) hb); have n1_ := Aside0.mk (Kd.R_elder' (by (with_reducible repeat (first | apply Kd.R_alloc | apply Kd.R_drewN | apply Kd.R_drew)); exact HO605.out) (Kd.R_base ho65) hb); have n2_ := Aside0.mk (Kd.R_elder' (by (with_reducible repeat (first | apply Kd.R_alloc | apply Kd.R_drewN | apply Kd.R_drew)); exact HO611.out) (Kd.R_base ho65) hb); have n3_ := Aside0.mk (Kd.R_elder' (by (with_reducible repeat (first | apply Kd.R_alloc | apply Kd.R_drewN | apply Kd.R_drew)); exact HO614.out) (Kd.R_base ho65) hb); have n4_ := Aside0.mk (Kd.R_elder' (by (with_reducible repeat (first | apply Kd.R_alloc | apply Kd.R_drewN | apply Kd.R_drew)); exact HO620.out) (Kd.R_base ho65) hb); have n5_ := Aside0.mk (Kd.R_elder' (by (with_reducible repeat (first | apply Kd.R_alloc | apply Kd.R_drewN | apply Kd.R_drew)); exact HO623.out) (Kd.R_base ho65) hb); have n6_ := Aside0.mk (Kd.R_elder' (by (with_reducible repeat (first | apply Kd.R_alloc | apply Kd.R_drewN | apply Kd.R_drew)); exact HO632.out) (Kd.R_base ho65) hb); have n7_ := Aside0.mk (Kd.R_elder' (by (with_reducible repeat (first | apply Kd.R_alloc | apply Kd.R_drewN | apply Kd.R_drew)); exact HO638.out) (Kd.R_base ho65) hb); have n8_ := Aside0.mk (Kd.R_lower (Kd.R_new' (Kd.R_new' (Kd.R_new' (Kd.R_new' (Kd.R_new' (Kd.R_new' (Kd.R_new' (Kd.R_new' ho65 (Kd.R_lt (by (with_reducible repeat (first | apply Kd.R_alloc | apply Kd.R_drewN | apply Kd.R_drew)); exact HO_3.out))) (Kd.R_lt (by (with_reducible repeat (first | apply Kd.R_alloc | apply Kd.R_drewN | apply Kd.R_drew)); exact HO605.out))) (Kd.R_lt (by (with_reducible repeat (first | apply Kd.R_alloc | apply Kd.R_drewN | apply Kd.R_drew)); exact HO611.out))) (Kd.R_lt (by (with_reducible repeat (first | apply Kd.R_alloc | apply Kd.R_drewN | apply Kd.R_drew)); exact HO614.out))) (Kd.R_lt (by (with_reducible repeat (first | apply Kd.R_alloc | apply Kd.R_drewN | apply Kd.R_drew)); exact HO620.out))) (Kd.R_lt (by (with_reducible repeat (first | apply Kd.R_alloc | apply Kd.R_drewN | apply Kd.R_drew)); exact HO623.out))) (Kd.R_lt (by (with_reducible repeat (first | apply Kd.R_alloc | apply Kd.R_drewN | apply Kd.R_drew)); exact HO632.out))) (Kd.R_lt (by (with_reducible repeat (first | apply Kd.R_alloc | apply Kd.R_drewN | apply Kd.R_drew)); exact HO638.out))) (below_size (by repeat (first | (with_reducible first | exact HB.out | apply below_alloc | apply pw_below_drewN | apply below_drew1 | refine below_set ?_ GE580.out) | exact HB.out)))); have n9_ := Aside0.mk (blk_below (g := gb580) (o := .cells #[.int .i64 a0_0, .int .i64 a0_1, .int .i64 a0_2, .int .i64 a0_3, .int .i64 a0_4, .int .i64 a0_5, .slice A0_6 l0_6.length c0_6] 34 (0, 0)) (by (with_reducible repeat (first | refine blk_drewN ?_ _ | refine blk_drew ?_ | refine blk_alloc ?_ _)); exact BK580.out) hb); have n10_ := Aside0.mk (below_step (by repeat (first | (with_reducible first | exact HB.out | apply below_alloc | apply pw_below_drewN | apply below_drew1 | refine below_set ?_ GE580.out) | exact HB.out)) hb); clear HO_3; clear HO605; clear HO611; clear HO614; clear HO620; clear HO623; clear HO632; clear HO638; clear BK580; clear HB; have HO_3 := n0_; have HO605 := n1_; have HO611 := n2_; have HO614 := n3_; have HO620 := n4_; have HO623 := n5_; have HO632 := n6_; have HO638 := n7_; have HO641 := n8_; have BK580 := n9_; have HB := n10_; clear n0_ n1_ n2_ n3_ n4_ n5_ n6_ n7_ n8_ n9_ n10_; clear hb ho65) | ((with_reducible refine gate_builtin (b := .append) (xs := #[.tmp 53, .tmp 54]) rfl ?_); at_builtin; refine Kd.R_append_rows (Kd.int .u8) (w0 := w) w.heap.size rfl (.tmp 53) (.tmp 54) 22 5 (.int .u8 0) 1 rfl Try.underlying22 info5 rfl (by decide) (by omega) v640 y639 y612 _ _ _ (fun k_ => some k_ ≠ (.slice Ao40 x3_3.length co40 : Value).ownBlock ∧ some k_ ≠ (.slice Ao43 t603.length co43 : Value).ownBlock ∧ some k_ ≠ (.slice Ao48 y609.length co48 : Value).ownBlock ∧ some k_ ≠ (.slice Ao57 y612.length co57 : Value).ownBlock ∧ some k_ ≠ (.slice Ao53 t618.length co53 : Value).ownBlock ∧ some k_ ≠ (.slice Ao63 y621.length co63 : Value).ownBlock ∧ some k_ ≠ (.slice Ao61 y630.length co61 : Value).ownBlock ∧ some k_ ≠ (v637 : Value).ownBlock) (fun _ => False) rfl rfl ?aO ?aR (fun _ _ h => h) (fun _ h => h.elim) ?aF ?aB ?aS ?aL ?_; (case aR => repeat (first | exact (Kd.R_reads' HO614.out).2.2 | (with_reducible refine Kd.C_alloc ?_ _) | (with_reducible refine Kd.C_drewN ?_ _) | (with_reducible refine Kd.C_drew ?_))); (case aB => exact (by repeat (first | (with_reducible first | exact HB.out | apply below_alloc | apply pw_below_drewN | apply below_drew1 | refine below_set ?_ GE580.out) | exact HB.out))); (case aF => exact (fun k_ hk => ⟨Kd.fresh' (Kd.R_lt (by (with_reducible repeat (first | apply Kd.R_alloc | apply Kd.R_drewN | apply Kd.R_drew)); exact HO_3.out)) k_ hk, Kd.fresh' (Kd.R_lt (by (with_reducible repeat (first | apply Kd.R_alloc | apply Kd.R_drewN | apply Kd.R_drew)); exact HO605.out)) k_ hk, Kd.fresh' (Kd.R_lt (by (with_reducible repeat (first | apply Kd.R_alloc | apply Kd.R_drewN | apply Kd.R_drew)); exact HO611.out)) k_ hk, Kd.fresh' (Kd.R_lt (by (with_reducible repeat (first | apply Kd.R_alloc | apply Kd.R_drewN | apply Kd.R_drew)); exact HO614.out)) k_ hk, Kd.fresh' (Kd.R_lt (by (with_reducible repeat (first | apply Kd.R_alloc | apply Kd.R_drewN | apply Kd.R_drew)); exact HO620.out)) k_ hk, Kd.fresh' (Kd.R_lt (by (with_reducible repeat (first | apply Kd.R_alloc | apply Kd.R_drewN | apply Kd.R_drew)); exact HO623.out)) k_ hk, Kd.fresh' (Kd.R_lt (by (with_reducible repeat (first | apply Kd.R_alloc | apply Kd.R_drewN | apply Kd.R_drew)); exact HO632.out)) k_ hk, Kd.fresh' (Kd.R_lt (by (with_reducible repeat (first | apply Kd.R_alloc | apply Kd.R_drewN | apply Kd.R_drew)); exact HO638.out)) k_ hk⟩)); (case aO => exact (by (with_reducible repeat (first | apply Kd.R_alloc | apply Kd.R_drewN | apply Kd.R_drew)); exact Kd.R_mono HO641.out (fun _ hk => ⟨hk.1.1.1.1.1.1.1.2, ⟨hk.1.1.1.1.1.1.2, ⟨hk.1.1.1.1.1.2, ⟨hk.1.1.1.1.2, ⟨hk.1.1.1.2, ⟨hk.1.1.2, ⟨hk.1.2, hk.2⟩⟩⟩⟩⟩⟩⟩))); (case aS => exact (below_size (by repeat (first | (with_reducible first | exact HB.out | apply below_alloc | apply pw_below_drewN | apply below_drew1 | refine below_set ?_ GE580.out) | exact HB.out)))); (case aL => have := LMc32.out; omega); intro v643 w66 ho hb hg hat; rw [← Ny642.out] at ho; have n0_ := Aside0.mk (Kd.R_after (ok := (fun k_ => some k_ ≠ (.slice Ao43 t603.length co43 : Value).ownBlock ∧ some k_ ≠ (.slice Ao48 y609.length co48 : Value).ownBlock ∧ some k_ ≠ (.slice Ao57 y612.length co57 : Value).ownBlock ∧ some k_ ≠ (.slice Ao53 t618.length co53 : Value).ownBlock ∧ some k_ ≠ (.slice Ao63 y621.length co63 : Value).ownBlock ∧ some k_ ≠ (.slice Ao61 y630.length co61 : Value).ownBlock ∧ some k_ ≠ (v637 : Value).ownBlock)) (by (with_reducible repeat (first | apply Kd.R_alloc | apply Kd.R_drewN | apply Kd.R_drew)); exact Kd.R_mono HO_3.out (fun _ hk => ⟨⟨hk.1.1.1, ⟨hk.1.1.2.1, ⟨hk.1.1.2.2.1, ⟨hk.1.1.2.2.2.1, ⟨hk.1.1.2.2.2.2.1, ⟨hk.1.1.2.2.2.2.2, hk.1.2⟩⟩⟩⟩⟩⟩, hk.2⟩)) hg hat); have n1_ := Aside0.mk (blk_grown (g := gb580) (o := .cells #[.int .i64 a0_0, .int .i64 a0_1, .int .i64 a0_2, .int .i64 a0_3, .int .i64 a0_4, .int .i64 a0_5, .slice A0_6 l0_6.length c0_6] 34 (0, 0)) (by (with_reducible repeat (first | refine blk_drewN ?_ _ | refine blk_drew ?_ | refine blk_alloc ?_ _)); exact BK580.out) hg (Kd.R_ne HO641.out BK580.out (by decide))); have n2_ := Aside0.mk (Kd.R_after (ok := (fun k_ => some k_ ≠ (.slice Ao40 x3_3.length co40 : Value).ownBlock ∧ some k_ ≠ (.slice Ao48 y609.length co48 : Value).ownBlock ∧ some k_ ≠ (.slice Ao57 y612.length co57 : Value).ownBlock ∧ some k_ ≠ (.slice Ao53 t618.length co53 : Value).ownBlock ∧ some k_ ≠ (.slice Ao63 y621.length co63 : Value).ownBlock ∧ some k_ ≠ (.slice Ao61 y630.length co61 : Value).ownBlock ∧ some k_ ≠ (v637 : Value).ownBlock)) (by (with_reducible repeat (first | apply Kd.R_alloc | apply Kd.R_drewN | apply Kd.R_drew)); exact Kd.R_mono HO605.out (fun _ hk => ⟨⟨hk.1.1.1, ⟨hk.1.1.2.1, ⟨hk.1.1.2.2.1, ⟨hk.1.1.2.2.2.1, ⟨hk.1.1.2.2.2.2.1, ⟨hk.1.1.2.2.2.2.2, hk.1.2⟩⟩⟩⟩⟩⟩, hk.2⟩)) hg hat); have n3_ := Aside0.mk (Kd.R_after (ok := (fun k_ => some k_ ≠ (.slice Ao40 x3_3.length co40 : Value).ownBlock ∧ some k_ ≠ (.slice Ao43 t603.length co43 : Value).ownBlock ∧ some k_ ≠ (.slice Ao57 y612.length co57 : Value).ownBlock ∧ some k_ ≠ (.slice Ao53 t618.length co53 : Value).ownBlock ∧ some k_ ≠ (.slice Ao63 y621.length co63 : Value).ownBlock ∧ some k_ ≠ (.slice Ao61 y630.length co61 : Value).ownBlock ∧ some k_ ≠ (v637 : Value).ownBlock)) (by (with_reducible repeat (first | apply Kd.R_alloc | apply Kd.R_drewN | apply Kd.R_drew)); exact Kd.R_mono HO611.out (fun _ hk => ⟨⟨hk.1.1.1, ⟨hk.1.1.2.1, ⟨hk.1.1.2.2.1, ⟨hk.1.1.2.2.2.1, ⟨hk.1.1.2.2.2.2.1, ⟨hk.1.1.2.2.2.2.2, hk.1.2⟩⟩⟩⟩⟩⟩, hk.2⟩)) hg hat); have n4_ := Aside0.mk (Kd.R_after (ok := (fun k_ => some k_ ≠ (.slice Ao40 x3_3.length co40 : Value).ownBlock ∧ some k_ ≠ (.slice Ao43 t603.length co43 : Value).ownBlock ∧ some k_ ≠ (.slice Ao48 y609.length co48 : Value).ownBlock ∧ some k_ ≠ (.slice Ao53 t618.length co53 : Value).ownBlock ∧ some k_ ≠ (.slice Ao63 y621.length co63 : Value).ownBlock ∧ some k_ ≠ (.slice Ao61 y630.length co61 : Value).ownBlock ∧ some k_ ≠ (v637 : Value).ownBlock)) (by (with_reducible repeat (first | apply Kd.R_alloc | apply Kd.R_drewN | apply Kd.R_drew)); exact Kd.R_mono HO614.out (fun _ hk => ⟨⟨hk.1.1.1, ⟨hk.1.1.2.1, ⟨hk.1.1.2.2.1, ⟨hk.1.1.2.2.2.1, ⟨hk.1.1.2.2.2.2.1, ⟨hk.1.1.2.2.2.2.2, hk.1.2⟩⟩⟩⟩⟩⟩, hk.2⟩)) hg hat); have n5_ := Aside0.mk (Kd.R_after (ok := (fun k_ => some k_ ≠ (.slice Ao40 x3_3.length co40 : Value).ownBlock ∧ some k_ ≠ (.slice Ao43 t603.length co43 : Value).ownBlock ∧ some k_ ≠ (.slice Ao48 y609.length co48 : Value).ownBlock ∧ some k_ ≠ (.slice Ao57 y612.length co57 : Value).ownBlock ∧ some k_ ≠ (.slice Ao63 y621.length co63 : Value).ownBlock ∧ some k_ ≠ (.slice Ao61 y630.length co61 : Value).ownBlock ∧ some k_ ≠ (v637 : Value).ownBlock)) (by (with_reducible repeat (first | apply Kd.R_alloc | apply Kd.R_drewN | apply Kd.R_drew)); exact Kd.R_mono HO620.out (fun _ hk => ⟨⟨hk.1.1.1, ⟨hk.1.1.2.1, ⟨hk.1.1.2.2.1, ⟨hk.1.1.2.2.2.1, ⟨hk.1.1.2.2.2.2.1, ⟨hk.1.1.2.2.2.2.2, hk.1.2⟩⟩⟩⟩⟩⟩, hk.2⟩)) hg hat); have n6_ := Aside0.mk (Kd.R_after (ok := (fun k_ => some k_ ≠ (.slice Ao40 x3_3.length co40 : Value).ownBlock ∧ some k_ ≠ (.slice Ao43 t603.length co43 : Value).ownBlock ∧ some k_ ≠ (.slice Ao48 y609.length co48 : Value).ownBlock ∧ some k_ ≠ (.slice Ao57 y612.length co57 : Value).ownBlock ∧ some k_ ≠ (.slice Ao53 t618.length co53 : Value).ownBlock ∧ some k_ ≠ (.slice Ao61 y630.length co61 : Value).ownBlock ∧ some k_ ≠ (v637 : Value).ownBlock)) (by (with_reducible repeat (first | apply Kd.R_alloc | apply Kd.R_drewN | apply Kd.R_drew)); exact Kd.R_mono HO623.out (fun _ hk => ⟨⟨hk.1.1.1, ⟨hk.1.1.2.1, ⟨hk.1.1.2.2.1, ⟨hk.1.1.2.2.2.1, ⟨hk.1.1.2.2.2.2.1, ⟨hk.1.1.2.2.2.2.2, hk.1.2⟩⟩⟩⟩⟩⟩, hk.2⟩)) hg hat); have n7_ := Aside0.mk (Kd.R_after (ok := (fun k_ => some k_ ≠ (.slice Ao40 x3_3.length co40 : Value).ownBlock ∧ some k_ ≠ (.slice Ao43 t603.length co43 : Value).ownBlock ∧ some k_ ≠ (.slice Ao48 y609.length co48 : Value).ownBlock ∧ some k_ ≠ (.slice Ao57 y612.length co57 : Value).ownBlock ∧ some k_ ≠ (.slice Ao53 t618.length co53 : Value).ownBlock ∧ some k_ ≠ (.slice Ao63 y621.length co63 : Value).ownBlock ∧ some k_ ≠ (v637 : Value).ownBlock)) (by (with_reducible repeat (first | apply Kd.R_alloc | apply Kd.R_drewN | apply Kd.R_drew)); exact Kd.R_mono HO632.out (fun _ hk => ⟨⟨hk.1.1.1, ⟨hk.1.1.2.1, ⟨hk.1.1.2.2.1, ⟨hk.1.1.2.2.2.1, ⟨hk.1.1.2.2.2.2.1, ⟨hk.1.1.2.2.2.2.2, hk.1.2⟩⟩⟩⟩⟩⟩, hk.2⟩)) hg hat); have n8_ := Aside0.mk (Kd.R_after (ok := (fun k_ => some k_ ≠ (.slice Ao40 x3_3.length co40 : Value).ownBlock ∧ some k_ ≠ (.slice Ao43 t603.length co43 : Value).ownBlock ∧ some k_ ≠ (.slice Ao48 y609.length co48 : Value).ownBlock ∧ some k_ ≠ (.slice Ao57 y612.length co57 : Value).ownBlock ∧ some k_ ≠ (.slice Ao53 t618.length co53 : Value).ownBlock ∧ some k_ ≠ (.slice Ao63 y621.length co63 : Value).ownBlock ∧ some k_ ≠ (.slice Ao61 y630.length co61 : Value).ownBlock)) (by (with_reducible repeat (first | apply Kd.R_alloc | apply Kd.R_drewN | apply Kd.R_drew)); exact HO638.out) hg hat); have n9_ := Aside0.mk (hb); have n10_ := Aside0.mk (ho); clear HO_3; clear BK580; clear HO605; clear HO611; clear HO614; clear HO620; clear HO623; clear HO632; clear HO638; clear HB; clear HO641; have HO_3 := n0_; have BK580 := n1_; have HO605 := n2_; have HO611 := n3_; have HO614 := n4_; have HO620 := n5_; have HO623 := n6_; have HO632 := n7_; have HO638 := n8_; have HB := n9_; have HO644 := n10_; clear n0_ n1_ n2_ n3_ n4_ n5_ n6_ n7_ n8_ n9_ n10_; clear ho hb hg hat; obtain ⟨Ao67, co67, eo67⟩ := Kd.R_slice HO638.out; subst eo67) | ((with_reducible refine gate_callee (f := 74) rfl ?_); refine goesL_ (some 57) rfl rfl Try.func74 (by kernel_rfl) rfl #[.slice Ao67 y636.length co67] rfl (by (try simp only [List.map_toArray, List.map_cons, List.map_nil]); first | done | rfl | (simp only [List.length_drop, List.length_take]; rfl)) ?_; (with_reducible refine (spec_SumWords.calls kj3 _ _ y636 t645 _ ?side1 ?side2 A33.out).mono ?_); (case side1 => repeat (first | exact (Kd.R_reads' HO638.out).2.2 | (with_reducible refine Kd.C_alloc ?_ _) | (with_reducible refine Kd.C_drewN ?_ _) | (with_reducible refine Kd.C_drew ?_))); (case side2 => exact (Kd.R_reads' HO638.out).2.1); rintro e w' ⟨rfl, ⟨nd, rfl⟩⟩; refine ⟨_, rfl, ?_⟩) | ((with_reducible refine gate_callee (f := 52) rfl ?_); refine goesL_ (some 58) rfl rfl Try.func52 (by kernel_rfl) rfl #[.int .i64 t645, .int .i64 2] rfl (by (try simp only [List.map_toArray, List.map_cons, List.map_nil]); first | done | rfl | (simp only [List.length_drop, List.length_take]; rfl)) ?_; (with_reducible refine (spec_l1Bytes.calls kj3 t645 2 t646 _ A34.out).mono ?_); rintro e w68 ⟨v647, rfl, ho0, hb⟩; refine ⟨_, rfl, ?_⟩; have n0_ := Aside0.mk (Kd.R_elder' (by (with_reducible repeat (first | apply Kd.R_alloc | apply Kd.R_drewN | apply Kd.R_drew)); exact HO_3.out) (Kd.R_base ho0) hb); have n1_ := Aside0.mk (Kd.R_elder' (by (with_reducible repeat (first | apply Kd.R_alloc | apply Kd.R_drewN | apply Kd.R_drew)); exact HO605.out) (Kd.R_base ho0) hb); have n2_ := Aside0.mk (Kd.R_elder' (by (with_reducible repeat (first | apply Kd.R_alloc | apply Kd.R_drewN | apply Kd.R_drew)); exact HO611.out) (Kd.R_base ho0) hb); have n3_ := Aside0.mk (Kd.R_elder' (by (with_reducible repeat (first | apply Kd.R_alloc | apply Kd.R_drewN | apply Kd.R_drew)); exact HO614.out) (Kd.R_base ho0) hb); have n4_ := Aside0.mk (Kd.R_elder' (by (with_reducible repeat (first | apply Kd.R_alloc | apply Kd.R_drewN | apply Kd.R_drew)); exact HO620.out) (Kd.R_base ho0) hb); have n5_ := Aside0.mk (Kd.R_elder' (by (with_reducible repeat (first | apply Kd.R_alloc | apply Kd.R_drewN | apply Kd.R_drew)); exact HO623.out) (Kd.R_base ho0) hb); have n6_ := Aside0.mk (Kd.R_elder' (by (with_reducible repeat (first | apply Kd.R_alloc | apply Kd.R_drewN | apply Kd.R_drew)); exact HO632.out) (Kd.R_base ho0) hb); have n7_ := Aside0.mk (Kd.R_elder' (by (with_reducible repeat (first | apply Kd.R_alloc | apply Kd.R_drewN | apply Kd.R_drew)); exact HO638.out) (Kd.R_base ho0) hb); have n8_ := Aside0.mk (Kd.R_elder' (by (with_reducible repeat (first | apply Kd.R_alloc | apply Kd.R_drewN | apply Kd.R_drew)); exact HO644.out) (Kd.R_base ho0) hb); have n9_ := Aside0.mk (Kd.R_lower (Kd.R_new' (Kd.R_new' (Kd.R_new' (Kd.R_new' (Kd.R_new' (Kd.R_new' (Kd.R_new' (Kd.R_new' (Kd.R_new' ho0 (Kd.R_lt (by (with_reducible repeat (first | apply Kd.R_alloc | apply Kd.R_drewN | apply Kd.R_drew)); exact HO_3.out))) (Kd.R_lt (by (with_reducible repeat (first | apply Kd.R_alloc | apply Kd.R_drewN | apply Kd.R_drew)); exact HO605.out))) (Kd.R_lt (by (with_reducible repeat (first | apply Kd.R_alloc | apply Kd.R_drewN | apply Kd.R_drew)); exact HO611.out))) (Kd.R_lt (by (with_reducible repeat (first | apply Kd.R_alloc | apply Kd.R_drewN | apply Kd.R_drew)); exact HO614.out))) (Kd.R_lt (by (with_reducible repeat (first | apply Kd.R_alloc | apply Kd.R_drewN | apply Kd.R_drew)); exact HO620.out))) (Kd.R_lt (by (with_reducible repeat (first | apply Kd.R_alloc | apply Kd.R_drewN | apply Kd.R_drew)); exact HO623.out))) (Kd.R_lt (by (with_reducible repeat (first | apply Kd.R_alloc | apply Kd.R_drewN | apply Kd.R_drew)); exact HO632.out))) (Kd.R_lt (by (with_reducible repeat (first | apply Kd.R_alloc | apply Kd.R_drewN | apply Kd.R_drew)); exact HO638.out))) (Kd.R_lt (by (with_reducible repeat (first | apply Kd.R_alloc | apply Kd.R_drewN | apply Kd.R_drew)); exact HO644.out))) (below_size (by repeat (first | (with_reducible first | exact HB.out | apply below_alloc | apply pw_below_drewN | apply below_drew1 | refine below_set ?_ GE580.out) | exact HB.out)))); have n10_ := Aside0.mk (blk_below (g := gb580) (o := .cells #[.int .i64 a0_0, .int .i64 a0_1, .int .i64 a0_2, .int .i64 a0_3, .int .i64 a0_4, .int .i64 a0_5, .slice A0_6 l0_6.length c0_6] 34 (0, 0)) (by (with_reducible repeat (first | refine blk_drewN ?_ _ | refine blk_drew ?_ | refine blk_alloc ?_ _)); exact BK580.out) hb); have n11_ := Aside0.mk (below_step (by repeat (first | (with_reducible first | exact HB.out | apply below_alloc | apply pw_below_drewN | apply below_drew1 | refine below_set ?_ GE580.out) | exact HB.out)) hb); clear HO_3; clear HO605; clear HO611; clear HO614; clear HO620; clear HO623; clear HO632; clear HO638; clear HO644; clear BK580; clear HB; have HO_3 := n0_; have HO605 := n1_; have HO611 := n2_; have HO614 := n3_; have HO620 := n4_; have HO623 := n5_; have HO632 := n6_; have HO638 := n7_; have HO644 := n8_; have HO648 := n9_; have BK580 := n10_; have HB := n11_; clear n0_ n1_ n2_ n3_ n4_ n5_ n6_ n7_ n8_ n9_ n10_ n11_; (try clear hb); (try clear hb2); (try clear hk); (try clear hi); (try clear ho0); obtain ⟨Ao70, co70, eo70⟩ := Kd.R_slice HO648.out; subst eo70) | ((with_reducible refine gate_builtin (b := .append) (xs := #[.tmp 55, .tmp 58]) rfl ?_); at_builtin; refine Kd.R_append_rows (Kd.int .u8) (w0 := w) w.heap.size rfl (.tmp 55) (.tmp 58) 22 5 (.int .u8 0) 1 rfl Try.underlying22 info5 rfl (by decide) (by omega) v643 y642 t646 _ _ _ (fun k_ => some k_ ≠ (.slice Ao40 x3_3.length co40 : Value).ownBlock ∧ some k_ ≠ (.slice Ao43 t603.length co43 : Value).ownBlock ∧ some k_ ≠ (.slice Ao48 y609.length co48 : Value).ownBlock ∧ some k_ ≠ (.slice Ao57 y612.length co57 : Value).ownBlock ∧ some k_ ≠ (.slice Ao53 t618.length co53 : Value).ownBlock ∧ some k_ ≠ (.slice Ao63 y621.length co63 : Value).ownBlock ∧ some k_ ≠ (.slice Ao61 y630.length co61 : Value).ownBlock ∧ some k_ ≠ (.slice Ao67 y636.length co67 : Value).ownBlock ∧ some k_ ≠ (.slice Ao70 t646.length co70 : Value).ownBlock) (fun _ => False) rfl rfl ?aO ?aR (fun _ _ h => h) (fun _ h => h.elim) ?aF ?aB ?aS ?aL ?_; (case aR => repeat (first | exact (Kd.R_reads' HO648.out).2.2 | (with_reducible refine Kd.C_alloc ?_ _) | (with_reducible refine Kd.C_drewN ?_ _) | (with_reducible refine Kd.C_drew ?_))); (case aB => exact (by repeat (first | (with_reducible first | exact HB.out | apply below_alloc | apply pw_below_drewN | apply below_drew1 | refine below_set ?_ GE580.out) | exact HB.out))); (case aF => exact (fun k_ hk => ⟨Kd.fresh' (Kd.R_lt (by (with_reducible repeat (first | apply Kd.R_alloc | apply Kd.R_drewN | apply Kd.R_drew)); exact HO_3.out)) k_ hk, Kd.fresh' (Kd.R_lt (by (with_reducible repeat (first | apply Kd.R_alloc | apply Kd.R_drewN | apply Kd.R_drew)); exact HO605.out)) k_ hk, Kd.fresh' (Kd.R_lt (by (with_reducible repeat (first | apply Kd.R_alloc | apply Kd.R_drewN | apply Kd.R_drew)); exact HO611.out)) k_ hk, Kd.fresh' (Kd.R_lt (by (with_reducible repeat (first | apply Kd.R_alloc | apply Kd.R_drewN | apply Kd.R_drew)); exact HO614.out)) k_ hk, Kd.fresh' (Kd.R_lt (by (with_reducible repeat (first | apply Kd.R_alloc | apply Kd.R_drewN | apply Kd.R_drew)); exact HO620.out)) k_ hk, Kd.fresh' (Kd.R_lt (by (with_reducible repeat (first | apply Kd.R_alloc | apply Kd.R_drewN | apply Kd.R_drew)); exact HO623.out)) k_ hk, Kd.fresh' (Kd.R_lt (by (with_reducible repeat (first | apply Kd.R_alloc | apply Kd.R_drewN | apply Kd.R_drew)); exact HO632.out)) k_ hk, Kd.fresh' (Kd.R_lt (by (with_reducible repeat (first | apply Kd.R_alloc | apply Kd.R_drewN | apply Kd.R_drew)); exact HO638.out)) k_ hk, Kd.fresh' (Kd.R_lt (by (with_reducible repeat (first | apply Kd.R_alloc | apply Kd.R_drewN | apply Kd.R_drew)); exact HO648.out)) k_ hk⟩)); (case aO => exact (by (with_reducible repeat (first | apply Kd.R_alloc | apply Kd.R_drewN | apply Kd.R_drew)); exact Kd.R_mono HO644.out (fun _ hk => ⟨hk.1.1, ⟨hk.1.2.1, ⟨hk.1.2.2.1, ⟨hk.1.2.2.2.1, ⟨hk.1.2.2.2.2.1, ⟨hk.1.2.2.2.2.2.1, ⟨hk.1.2.2.2.2.2.2.1, ⟨hk.1.2.2.2.2.2.2.2, hk.2⟩⟩⟩⟩⟩⟩⟩⟩))); (case aS => exact (below_size (by repeat (first | (with_reducible first | exact HB.out | apply below_alloc | apply pw_below_drewN | apply below_drew1 | refine below_set ?_ GE580.out) | exact HB.out)))); (case aL => have := LMc35.out; omega); intro v650 w69 ho hb hg hat; rw [← Ny649.out] at ho; have n0_ := Aside0.mk (Kd.R_after (ok := (fun k_ => some k_ ≠ (.slice Ao43 t603.length co43 : Value).ownBlock ∧ some k_ ≠ (.slice Ao48 y609.length co48 : Value).ownBlock ∧ some k_ ≠ (.slice Ao57 y612.length co57 : Value).ownBlock ∧ some k_ ≠ (.slice Ao53 t618.length co53 : Value).ownBlock ∧ some k_ ≠ (.slice Ao63 y621.length co63 : Value).ownBlock ∧ some k_ ≠ (.slice Ao61 y630.length co61 : Value).ownBlock ∧ some k_ ≠ (.slice Ao67 y636.length co67 : Value).ownBlock ∧ some k_ ≠ (.slice Ao70 t646.length co70 : Value).ownBlock)) (by (with_reducible repeat (first | apply Kd.R_alloc | apply Kd.R_drewN | apply Kd.R_drew)); exact Kd.R_mono HO_3.out (fun _ hk => ⟨⟨hk.1.1.1, ⟨hk.1.1.2.1, ⟨hk.1.1.2.2.1, ⟨hk.1.1.2.2.2.1, ⟨hk.1.1.2.2.2.2.1, ⟨hk.1.1.2.2.2.2.2.1, ⟨hk.1.1.2.2.2.2.2.2, hk.2⟩⟩⟩⟩⟩⟩⟩, hk.1.2⟩)) hg hat); have n1_ := Aside0.mk (blk_grown (g := gb580) (o := .cells #[.int .i64 a0_0, .int .i64 a0_1, .int .i64 a0_2, .int .i64 a0_3, .int .i64 a0_4, .int .i64 a0_5, .slice A0_6 l0_6.length c0_6] 34 (0, 0)) (by (with_reducible repeat (first | refine blk_drewN ?_ _ | refine blk_drew ?_ | refine blk_alloc ?_ _)); exact BK580.out) hg (Kd.R_ne HO644.out BK580.out (by decide))); have n2_ := Aside0.mk (Kd.R_after (ok := (fun k_ => some k_ ≠ (.slice Ao40 x3_3.length co40 : Value).ownBlock ∧ some k_ ≠ (.slice Ao48 y609.length co48 : Value).ownBlock ∧ some k_ ≠ (.slice Ao57 y612.length co57 : Value).ownBlock ∧ some k_ ≠ (.slice Ao53 t618.length co53 : Value).ownBlock ∧ some k_ ≠ (.slice Ao63 y621.length co63 : Value).ownBlock ∧ some k_ ≠ (.slice Ao61 y630.length co61 : Value).ownBlock ∧ some k_ ≠ (.slice Ao67 y636.length co67 : Value).ownBlock ∧ some k_ ≠ (.slice Ao70 t646.length co70 : Value).ownBlock)) (by (with_reducible repeat (first | apply Kd.R_alloc | apply Kd.R_drewN | apply Kd.R_drew)); exact Kd.R_mono HO605.out (fun _ hk => ⟨⟨hk.1.1.1, ⟨hk.1.1.2.1, ⟨hk.1.1.2.2.1, ⟨hk.1.1.2.2.2.1, ⟨hk.1.1.2.2.2.2.1, ⟨hk.1.1.2.2.2.2.2.1, ⟨hk.1.1.2.2.2.2.2.2, hk.2⟩⟩⟩⟩⟩⟩⟩, hk.1.2⟩)) hg hat); have n3_ := Aside0.mk (Kd.R_after (ok := (fun k_ => some k_ ≠ (.slice Ao40 x3_3.length co40 : Value).ownBlock ∧ some k_ ≠ (.slice Ao43 t603.length co43 : Value).ownBlock ∧ some k_ ≠ (.slice Ao57 y612.length co57 : Value).ownBlock ∧ some k_ ≠ (.slice Ao53 t618.length co53 : Value).ownBlock ∧ some k_ ≠ (.slice Ao63 y621.length co63 : Value).ownBlock ∧ some k_ ≠ (.slice Ao61 y630.length co61 : Value).ownBlock ∧ some k_ ≠ (.slice Ao67 y636.length co67 : Value).ownBlock ∧ some k_ ≠ (.slice Ao70 t646.length co70 : Value).ownBlock)) (by (with_reducible repeat (first | apply Kd.R_alloc | apply Kd.R_drewN | apply Kd.R_drew)); exact Kd.R_mono HO611.out (fun _ hk => ⟨⟨hk.1.1.1, ⟨hk.1.1.2.1, ⟨hk.1.1.2.2.1, ⟨hk.1.1.2.2.2.1, ⟨hk.1.1.2.2.2.2.1, ⟨hk.1.1.2.2.2.2.2.1, ⟨hk.1.1.2.2.2.2.2.2, hk.2⟩⟩⟩⟩⟩⟩⟩, hk.1.2⟩)) hg hat); have n4_ := Aside0.mk (Kd.R_after (ok := (fun k_ => some k_ ≠ (.slice Ao40 x3_3.length co40 : Value).ownBlock ∧ some k_ ≠ (.slice Ao43 t603.length co43 : Value).ownBlock ∧ some k_ ≠ (.slice Ao48 y609.length co48 : Value).ownBlock ∧ some k_ ≠ (.slice Ao53 t618.length co53 : Value).ownBlock ∧ some k_ ≠ (.slice Ao63 y621.length co63 : Value).ownBlock ∧ some k_ ≠ (.slice Ao61 y630.length co61 : Value).ownBlock ∧ some k_ ≠ (.slice Ao67 y636.length co67 : Value).ownBlock ∧ some k_ ≠ (.slice Ao70 t646.length co70 : Value).ownBlock)) (by (with_reducible repeat (first | apply Kd.R_alloc | apply Kd.R_drewN | apply Kd.R_drew)); exact Kd.R_mono HO614.out (fun _ hk => ⟨⟨hk.1.1.1, ⟨hk.1.1.2.1, ⟨hk.1.1.2.2.1, ⟨hk.1.1.2.2.2.1, ⟨hk.1.1.2.2.2.2.1, ⟨hk.1.1.2.2.2.2.2.1, ⟨hk.1.1.2.2.2.2.2.2, hk.2⟩⟩⟩⟩⟩⟩⟩, hk.1.2⟩)) hg hat); have n5_ := Aside0.mk (Kd.R_after (ok := (fun k_ => some k_ ≠ (.slice Ao40 x3_3.length co40 : Value).ownBlock ∧ some k_ ≠ (.slice Ao43 t603.length co43 : Value).ownBlock ∧ some k_ ≠ (.slice Ao48 y609.length co48 : Value).ownBlock ∧ some k_ ≠ (.slice Ao57 y612.length co57 : Value).ownBlock ∧ some k_ ≠ (.slice Ao63 y621.length co63 : Value).ownBlock ∧ some k_ ≠ (.slice Ao61 y630.length co61 : Value).ownBlock ∧ some k_ ≠ (.slice Ao67 y636.length co67 : Value).ownBlock ∧ some k_ ≠ (.slice Ao70 t646.length co70 : Value).ownBlock)) (by (with_reducible repeat (first | apply Kd.R_alloc | apply Kd.R_drewN | apply Kd.R_drew)); exact Kd.R_mono HO620.out (fun _ hk => ⟨⟨hk.1.1.1, ⟨hk.1.1.2.1, ⟨hk.1.1.2.2.1, ⟨hk.1.1.2.2.2.1, ⟨hk.1.1.2.2.2.2.1, ⟨hk.1.1.2.2.2.2.2.1, ⟨hk.1.1.2.2.2.2.2.2, hk.2⟩⟩⟩⟩⟩⟩⟩, hk.1.2⟩)) hg hat); have n6_ := Aside0.mk (Kd.R_after (ok := (fun k_ => some k_ ≠ (.slice Ao40 x3_3.length co40 : Value).ownBlock ∧ some k_ ≠ (.slice Ao43 t603.length co43 : Value).ownBlock ∧ some k_ ≠ (.slice Ao48 y609.length co48 : Value).ownBlock ∧ some k_ ≠ (.slice Ao57 y612.length co57 : Value).ownBlock ∧ some k_ ≠ (.slice Ao53 t618.length co53 : Value).ownBlock ∧ some k_ ≠ (.slice Ao61 y630.length co61 : Value).ownBlock ∧ some k_ ≠ (.slice Ao67 y636.length co67 : Value).ownBlock ∧ some k_ ≠ (.slice Ao70 t646.length co70 : Value).ownBlock)) (by (with_reducible repeat (first | apply Kd.R_alloc | apply Kd.R_drewN | apply Kd.R_drew)); exact Kd.R_mono HO623.out (fun _ hk => ⟨⟨hk.1.1.1, ⟨hk.1.1.2.1, ⟨hk.1.1.2.2.1, ⟨hk.1.1.2.2.2.1, ⟨hk.1.1.2.2.2.2.1, ⟨hk.1.1.2.2.2.2.2.1, ⟨hk.1.1.2.2.2.2.2.2, hk.2⟩⟩⟩⟩⟩⟩⟩, hk.1.2⟩)) hg hat); have n7_ := Aside0.mk (Kd.R_after (ok := (fun k_ => some k_ ≠ (.slice Ao40 x3_3.length co40 : Value).ownBlock ∧ some k_ ≠ (.slice Ao43 t603.length co43 : Value).ownBlock ∧ some k_ ≠ (.slice Ao48 y609.length co48 : Value).ownBlock ∧ some k_ ≠ (.slice Ao57 y612.length co57 : Value).ownBlock ∧ some k_ ≠ (.slice Ao53 t618.length co53 : Value).ownBlock ∧ some k_ ≠ (.slice Ao63 y621.length co63 : Value).ownBlock ∧ some k_ ≠ (.slice Ao67 y636.length co67 : Value).ownBlock ∧ some k_ ≠ (.slice Ao70 t646.length co70 : Value).ownBlock)) (by (with_reducible repeat (first | apply Kd.R_alloc | apply Kd.R_drewN | apply Kd.R_drew)); exact Kd.R_mono HO632.out (fun _ hk => ⟨⟨hk.1.1.1, ⟨hk.1.1.2.1, ⟨hk.1.1.2.2.1, ⟨hk.1.1.2.2.2.1, ⟨hk.1.1.2.2.2.2.1, ⟨hk.1.1.2.2.2.2.2.1, ⟨hk.1.1.2.2.2.2.2.2, hk.2⟩⟩⟩⟩⟩⟩⟩, hk.1.2⟩)) hg hat); have n8_ := Aside0.mk (Kd.R_after (ok := (fun k_ => some k_ ≠ (.slice Ao40 x3_3.length co40 : Value).ownBlock ∧ some k_ ≠ (.slice Ao43 t603.length co43 : Value).ownBlock ∧ some k_ ≠ (.slice Ao48 y609.length co48 : Value).ownBlock ∧ some k_ ≠ (.slice Ao57 y612.length co57 : Value).ownBlock ∧ some k_ ≠ (.slice Ao53 t618.length co53 : Value).ownBlock ∧ some k_ ≠ (.slice Ao63 y621.length co63 : Value).ownBlock ∧ some k_ ≠ (.slice Ao61 y630.length co61 : Value).ownBlock ∧ some k_ ≠ (.slice Ao70 t646.length co70 : Value).ownBlock)) (by (with_reducible repeat (first | apply Kd.R_alloc | apply Kd.R_drewN | apply Kd.R_drew)); exact Kd.R_mono HO638.out (fun _ hk => ⟨⟨hk.1.1.1, ⟨hk.1.1.2.1, ⟨hk.1.1.2.2.1, ⟨hk.1.1.2.2.2.1, ⟨hk.1.1.2.2.2.2.1, ⟨hk.1.1.2.2.2.2.2.1, ⟨hk.1.1.2.2.2.2.2.2, hk.2⟩⟩⟩⟩⟩⟩⟩, hk.1.2⟩)) hg hat); have n9_ := Aside0.mk (Kd.R_after (ok := (fun k_ => some k_ ≠ (.slice Ao40 x3_3.length co40 : Value).ownBlock ∧ some k_ ≠ (.slice Ao43 t603.length co43 : Value).ownBlock ∧ some k_ ≠ (.slice Ao48 y609.length co48 : Value).ownBlock ∧ some k_ ≠ (.slice Ao57 y612.length co57 : Value).ownBlock ∧ some k_ ≠ (.slice Ao53 t618.length co53 : Value).ownBlock ∧ some k_ ≠ (.slice Ao63 y621.length co63 : Value).ownBlock ∧ some k_ ≠ (.slice Ao61 y630.length co61 : Value).ownBlock ∧ some k_ ≠ (.slice Ao67 y636.length co67 : Value).ownBlock)) (by (with_reducible repeat (first | apply Kd.R_alloc | apply Kd.R_drewN | apply Kd.R_drew)); exact Kd.R_mono HO648.out (fun _ hk => ⟨⟨hk.1.1.1.1.1.1.1.1.2, ⟨hk.1.1.1.1.1.1.1.2, ⟨hk.1.1.1.1.1.1.2, ⟨hk.1.1.1.1.1.2, ⟨hk.1.1.1.1.2, ⟨hk.1.1.1.2, ⟨hk.1.1.2, hk.1.2⟩⟩⟩⟩⟩⟩⟩, hk.2⟩)) hg hat); have n10_ := Aside0.mk (hb); have n11_ := Aside0.mk (ho); clear HO_3; clear BK580; clear HO605; clear HO611; clear HO614; clear HO620; clear HO623; clear HO632; clear HO638; clear HO648; clear HB; clear HO644; have HO_3 := n0_; have BK580 := n1_; have HO605 := n2_; have HO611 := n3_; have HO614 := n4_; have HO620 := n5_; have HO623 := n6_; have HO632 := n7_; have HO638 := n8_; have HO648 := n9_; have HB := n10_; have HO651 := n11_; clear n0_ n1_ n2_ n3_ n4_ n5_ n6_ n7_ n8_ n9_ n10_ n11_; clear ho hb hg hat) | ((with_reducible refine gate_builtin (b := .append) (xs := #[.tmp 59, .tmp 60]) rfl ?_); at_builtin; refine Kd.R_append_rows (Kd.int .u8) (w0 := w) w.heap.size rfl (.tmp 59) (.tmp 60) 22 5 (.int .u8 0) 1 rfl Try.underlying22 info5 rfl (by decide) (by omega) v650 y649 y621 _ _ _ (fun k_ => some k_ ≠ (.slice Ao40 x3_3.length co40 : Value).ownBlock ∧ some k_ ≠ (.slice Ao43 t603.length co43 : Value).ownBlock ∧ some k_ ≠ (.slice Ao48 y609.length co48 : Value).ownBlock ∧ some k_ ≠ (.slice Ao57 y612.length co57 : Value).ownBlock ∧ some k_ ≠ (.slice Ao53 t618.length co53 : Value).ownBlock ∧ some k_ ≠ (.slice Ao63 y621.length co63 : Value).ownBlock ∧ some k_ ≠ (.slice Ao61 y630.length co61 : Value).ownBlock ∧ some k_ ≠ (.slice Ao67 y636.length co67 : Value).ownBlock ∧ some k_ ≠ (.slice Ao70 t646.length co70 : Value).ownBlock) (fun _ => False) rfl rfl ?aO ?aR (fun _ _ h => h) (fun _ h => h.elim) ?aF ?aB ?aS ?aL ?_; (case aR => repeat (first | exact (Kd.R_reads' HO623.out).2.2 | (with_reducible refine Kd.C_alloc ?_ _) | (with_reducible refine Kd.C_drewN ?_ _) | (with_reducible refine Kd.C_drew ?_))); (case aB => exact (by repeat (first | (with_reducible first | exact HB.out | apply below_alloc | apply pw_below_drewN | apply below_drew1 | refine below_set ?_ GE580.out) | exact HB.out))); (case aF => exact (fun k_ hk => ⟨Kd.fresh' (Kd.R_lt (by (with_reducible repeat (first | apply Kd.R_alloc | apply Kd.R_drewN | apply Kd.R_drew)); exact HO_3.out)) k_ hk, Kd.fresh' (Kd.R_lt (by (with_reducible repeat (first | apply Kd.R_alloc | apply Kd.R_drewN | apply Kd.R_drew)); exact HO605.out)) k_ hk, Kd.fresh' (Kd.R_lt (by (with_reducible repeat (first | apply Kd.R_alloc | apply Kd.R_drewN | apply Kd.R_drew)); exact HO611.out)) k_ hk, Kd.fresh' (Kd.R_lt (by (with_reducible repeat (first | apply Kd.R_alloc | apply Kd.R_drewN | apply Kd.R_drew)); exact HO614.out)) k_ hk, Kd.fresh' (Kd.R_lt (by (with_reducible repeat (first | apply Kd.R_alloc | apply Kd.R_drewN | apply Kd.R_drew)); exact HO620.out)) k_ hk, Kd.fresh' (Kd.R_lt (by (with_reducible repeat (first | apply Kd.R_alloc | apply Kd.R_drewN | apply Kd.R_drew)); exact HO623.out)) k_ hk, Kd.fresh' (Kd.R_lt (by (with_reducible repeat (first | apply Kd.R_alloc | apply Kd.R_drewN | apply Kd.R_drew)); exact HO632.out)) k_ hk, Kd.fresh' (Kd.R_lt (by (with_reducible repeat (first | apply Kd.R_alloc | apply Kd.R_drewN | apply Kd.R_drew)); exact HO638.out)) k_ hk, Kd.fresh' (Kd.R_lt (by (with_reducible repeat (first | apply Kd.R_alloc | apply Kd.R_drewN | apply Kd.R_drew)); exact HO648.out)) k_ hk⟩)); (case aO => exact (by (with_reducible repeat (first | apply Kd.R_alloc | apply Kd.R_drewN | apply Kd.R_drew)); exact HO651.out)); (case aS => exact (below_size (by repeat (first | (with_reducible first | exact HB.out | apply below_alloc | apply pw_below_drewN | apply below_drew1 | refine below_set ?_ GE580.out) | exact HB.out)))); (case aL => have := LMc36.out; omega); intro v653 w71 ho hb hg hat; rw [← Ny652.out] at ho; have n0_ := Aside0.mk (Kd.R_after (ok := (fun k_ => some k_ ≠ (.slice Ao43 t603.length co43 : Value).ownBlock ∧ some k_ ≠ (.slice Ao48 y609.length co48 : Value).ownBlock ∧ some k_ ≠ (.slice Ao57 y612.length co57 : Value).ownBlock ∧ some k_ ≠ (.slice Ao53 t618.length co53 : Value).ownBlock ∧ some k_ ≠ (.slice Ao63 y621.length co63 : Value).ownBlock ∧ some k_ ≠ (.slice Ao61 y630.length co61 : Value).ownBlock ∧ some k_ ≠ (.slice Ao67 y636.length co67 : Value).ownBlock ∧ some k_ ≠ (.slice Ao70 t646.length co70 : Value).ownBlock)) (by (with_reducible repeat (first | apply Kd.R_alloc | apply Kd.R_drewN | apply Kd.R_drew)); exact HO_3.out) hg hat); have n1_ := Aside0.mk (blk_grown (g := gb580) (o := .cells #[.int .i64 a0_0, .int .i64 a0_1, .int .i64 a0_2, .int .i64 a0_3, .int .i64 a0_4, .int .i64 a0_5, .slice A0_6 l0_6.length c0_6] 34 (0, 0)) (by (with_reducible repeat (first | refine blk_drewN ?_ _ | refine blk_drew ?_ | refine blk_alloc ?_ _)); exact BK580.out) hg (Kd.R_ne HO651.out BK580.out (by decide))); have n2_ := Aside0.mk (Kd.R_after (ok := (fun k_ => some k_ ≠ (.slice Ao40 x3_3.length co40 : Value).ownBlock ∧ some k_ ≠ (.slice Ao48 y609.length co48 : Value).ownBlock ∧ some k_ ≠ (.slice Ao57 y612.length co57 : Value).ownBlock ∧ some k_ ≠ (.slice Ao53 t618.length co53 : Value).ownBlock ∧ some k_ ≠ (.slice Ao63 y621.length co63 : Value).ownBlock ∧ some k_ ≠ (.slice Ao61 y630.length co61 : Value).ownBlock ∧ some k_ ≠ (.slice Ao67 y636.length co67 : Value).ownBlock ∧ some k_ ≠ (.slice Ao70 t646.length co70 : Value).ownBlock)) (by (with_reducible repeat (first | apply Kd.R_alloc | apply Kd.R_drewN | apply Kd.R_drew)); exact HO605.out) hg hat); have n3_ := Aside0.mk (Kd.R_after (ok := (fun k_ => some k_ ≠ (.slice Ao40 x3_3.length co40 : Value).ownBlock ∧ some k_ ≠ (.slice Ao43 t603.length co43 : Value).ownBlock ∧ some k_ ≠ (.slice Ao57 y612.length co57 : Value).ownBlock ∧ some k_ ≠ (.slice Ao53 t618.length co53 : Value).ownBlock ∧ some k_ ≠ (.slice Ao63 y621.length co63 : Value).ownBlock ∧ some k_ ≠ (.slice Ao61 y630.length co61 : Value).ownBlock ∧ some k_ ≠ (.slice Ao67 y636.length co67 : Value).ownBlock ∧ some k_ ≠ (.slice Ao70 t646.length co70 : Value).ownBlock)) (by (with_reducible repeat (first | apply Kd.R_alloc | apply Kd.R_drewN | apply Kd.R_drew)); exact HO611.out) hg hat); have n4_ := Aside0.mk (Kd.R_after (ok := (fun k_ => some k_ ≠ (.slice Ao40 x3_3.length co40 : Value).ownBlock ∧ some k_ ≠ (.slice Ao43 t603.length co43 : Value).ownBlock ∧ some k_ ≠ (.slice Ao48 y609.length co48 : Value).ownBlock ∧ some k_ ≠ (.slice Ao53 t618.length co53 : Value).ownBlock ∧ some k_ ≠ (.slice Ao63 y621.length co63 : Value).ownBlock ∧ some k_ ≠ (.slice Ao61 y630.length co61 : Value).ownBlock ∧ some k_ ≠ (.slice Ao67 y636.length co67 : Value).ownBlock ∧ some k_ ≠ (.slice Ao70 t646.length co70 : Value).ownBlock)) (by (with_reducible repeat (first | apply Kd.R_alloc | apply Kd.R_drewN | apply Kd.R_drew)); exact HO614.out) hg hat); have n5_ := Aside0.mk (Kd.R_after (ok := (fun k_ => some k_ ≠ (.slice Ao40 x3_3.length co40 : Value).ownBlock ∧ some k_ ≠ (.slice Ao43 t603.length co43 : Value).ownBlock ∧ some k_ ≠ (.slice Ao48 y609.length co48 : Value).ownBlock ∧ some k_ ≠ (.slice Ao57 y612.length co57 : Value).ownBlock ∧ some k_ ≠ (.slice Ao63 y621.length co63 : Value).ownBlock ∧ some k_ ≠ (.slice Ao61 y630.length co61 : Value).ownBlock ∧ some k_ ≠ (.slice Ao67 y636.length co67 : Value).ownBlock ∧ some k_ ≠ (.slice Ao70 t646.length co70 : Value).ownBlock)) (by (with_reducible repeat (first | apply Kd.R_alloc | apply Kd.R_drewN | apply Kd.R_drew)); exact HO620.out) hg hat); have n6_ := Aside0.mk (Kd.R_after (ok := (fun k_ => some k_ ≠ (.slice Ao40 x3_3.length co40 : Value).ownBlock ∧ some k_ ≠ (.slice Ao43 t603.length co43 : Value).ownBlock ∧ some k_ ≠ (.slice Ao48 y609.length co48 : Value).ownBlock ∧ some k_ ≠ (.slice Ao57 y612.length co57 : Value).ownBlock ∧ some k_ ≠ (.slice Ao53 t618.length co53 : Value).ownBlock ∧ some k_ ≠ (.slice Ao61 y630.length co61 : Value).ownBlock ∧ some k_ ≠ (.slice Ao67 y636.length co67 : Value).ownBlock ∧ some k_ ≠ (.slice Ao70 t646.length co70 : Value).ownBlock)) (by (with_reducible repeat (first | apply Kd.R_alloc | apply Kd.R_drewN | apply Kd.R_drew)); exact HO623.out) hg hat); have n7_ := Aside0.mk (Kd.R_after (ok := (fun k_ => some k_ ≠ (.slice Ao40 x3_3.length co40 : Value).ownBlock ∧ some k_ ≠ (.slice Ao43 t603.length co43 : Value).ownBlock ∧ some k_ ≠ (.slice Ao48 y609.length co48 : Value).ownBlock ∧ some k_ ≠ (.slice Ao57 y612.length co57 : Value).ownBlock ∧ some k_ ≠ (.slice Ao53 t618.length co53 : Value).ownBlock ∧ some k_ ≠ (.slice Ao63 y621.length co63 : Value).ownBlock ∧ some k_ ≠ (.slice Ao67 y636.length co67 : Value).ownBlock ∧ some k_ ≠ (.slice Ao70 t646.length co70 : Value).ownBlock)) (by (with_reducible repeat (first | apply Kd.R_alloc | apply Kd.R_drewN | apply Kd.R_drew)); exact HO632.out) hg hat); have n8_ := Aside0.mk (Kd.R_after (ok := (fun k_ => some k_ ≠ (.slice Ao40 x3_3.length co40 : Value).ownBlock ∧ some k_ ≠ (.slice Ao43 t603.length co43 : Value).ownBlock ∧ some k_ ≠ (.slice Ao48 y609.length co48 : Value).ownBlock ∧ some k_ ≠ (.slice Ao57 y612.length co57 : Value).ownBlock ∧ some k_ ≠ (.slice Ao53 t618.length co53 : Value).ownBlock ∧ some k_ ≠ (.slice Ao63 y621.length co63 : Value).ownBlock ∧ some k_ ≠ (.slice Ao61 y630.length co61 : Value).ownBlock ∧ some k_ ≠ (.slice Ao70 t646.length co70 : Value).ownBlock)) (by (with_reducible repeat (first | apply Kd.R_alloc | apply Kd.R_drewN | apply Kd.R_drew)); exact HO638.out) hg hat); have n9_ := Aside0.mk (Kd.R_after (ok := (fun k_ => some k_ ≠ (.slice Ao40 x3_3.length co40 : Value).ownBlock ∧ some k_ ≠ (.slice Ao43 t603.length co43 : Value).ownBlock ∧ some k_ ≠ (.slice Ao48 y609.length co48 : Value).ownBlock ∧ some k_ ≠ (.slice Ao57 y612.length co57 : Value).ownBlock ∧ some k_ ≠ (.slice Ao53 t618.length co53 : Value).ownBlock ∧ some k_ ≠ (.slice Ao63 y621.length co63 : Value).ownBlock ∧ some k_ ≠ (.slice Ao61 y630.length co61 : Value).ownBlock ∧ some k_ ≠ (.slice Ao67 y636.length co67 : Value).ownBlock)) (by (with_reducible repeat (first | apply Kd.R_alloc | apply Kd.R_drewN | apply Kd.R_drew)); exact HO648.out) hg hat); have n10_ := Aside0.mk (hb); have n11_ := Aside0.mk (ho); clear HO_3; clear BK580; clear HO605; clear HO611; clear HO614; clear HO620; clear HO623; clear HO632; clear HO638; clear HO648; clear HB; clear HO651; have HO_3 := n0_; have BK580 := n1_; have HO605 := n2_; have HO611 := n3_; have HO614 := n4_; have HO620 := n5_; have HO623 := n6_; have HO632 := n7_; have HO638 := n8_; have HO648 := n9_; have HB := n10_; have HO654 := n11_; clear n0_ n1_ n2_ n3_ n4_ n5_ n6_ n7_ n8_ n9_ n10_ n11_; clear ho hb hg hat) | ((with_reducible refine gate_builtin (b := .append) (xs := #[.tmp 62, .tmp 63]) rfl ?_); at_builtin; refine Kd.R_append_rows (Kd.int .u8) (w0 := w) w.heap.size rfl (.tmp 62) (.tmp 63) 22 5 (.int .u8 0) 1 rfl Try.underlying22 info5 rfl (by decide) (by omega) v653 y652 x3_3 _ _ _ (fun k_ => some k_ ≠ (.slice Ao40 x3_3.length co40 : Value).ownBlock ∧ some k_ ≠ (.slice Ao43 t603.length co43 : Value).ownBlock ∧ some k_ ≠ (.slice Ao48 y609.length co48 : Value).ownBlock ∧ some k_ ≠ (.slice Ao57 y612.length co57 : Value).ownBlock ∧ some k_ ≠ (.slice Ao53 t618.length co53 : Value).ownBlock ∧ some k_ ≠ (.slice Ao63 y621.length co63 : Value).ownBlock ∧ some k_ ≠ (.slice Ao61 y630.length co61 : Value).ownBlock ∧ some k_ ≠ (.slice Ao67 y636.length co67 : Value).ownBlock ∧ some k_ ≠ (.slice Ao70 t646.length co70 : Value).ownBlock) (fun _ => False) rfl rfl ?aO ?aR (fun _ _ h => h) (fun _ h => h.elim) ?aF ?aB ?aS ?aL ?_; (case aR => repeat (first | exact (Kd.R_reads' HO_3.out).2.2 | (with_reducible refine Kd.C_alloc ?_ _) | (with_reducible refine Kd.C_drewN ?_ _) | (with_reducible refine Kd.C_drew ?_))); (case aB => exact (by repeat (first | (with_reducible first | exact HB.out | apply below_alloc | apply pw_below_drewN | apply below_drew1 | refine below_set ?_ GE580.out) | exact HB.out))); (case aF => exact (fun k_ hk => ⟨Kd.fresh' (Kd.R_lt (by (with_reducible repeat (first | apply Kd.R_alloc | apply Kd.R_drewN | apply Kd.R_drew)); exact HO_3.out)) k_ hk, Kd.fresh' (Kd.R_lt (by (with_reducible repeat (first | apply Kd.R_alloc | apply Kd.R_drewN | apply Kd.R_drew)); exact HO605.out)) k_ hk, Kd.fresh' (Kd.R_lt (by (with_reducible repeat (first | apply Kd.R_alloc | apply Kd.R_drewN | apply Kd.R_drew)); exact HO611.out)) k_ hk, Kd.fresh' (Kd.R_lt (by (with_reducible repeat (first | apply Kd.R_alloc | apply Kd.R_drewN | apply Kd.R_drew)); exact HO614.out)) k_ hk, Kd.fresh' (Kd.R_lt (by (with_reducible repeat (first | apply Kd.R_alloc | apply Kd.R_drewN | apply Kd.R_drew)); exact HO620.out)) k_ hk, Kd.fresh' (Kd.R_lt (by (with_reducible repeat (first | apply Kd.R_alloc | apply Kd.R_drewN | apply Kd.R_drew)); exact HO623.out)) k_ hk, Kd.fresh' (Kd.R_lt (by (with_reducible repeat (first | apply Kd.R_alloc | apply Kd.R_drewN | apply Kd.R_drew)); exact HO632.out)) k_ hk, Kd.fresh' (Kd.R_lt (by (with_reducible repeat (first | apply Kd.R_alloc | apply Kd.R_drewN | apply Kd.R_drew)); exact HO638.out)) k_ hk, Kd.fresh' (Kd.R_lt (by (with_reducible repeat (first | apply Kd.R_alloc | apply Kd.R_drewN | apply Kd.R_drew)); exact HO648.out)) k_ hk⟩)); (case aO => exact (by (with_reducible repeat (first | apply Kd.R_alloc | apply Kd.R_drewN | apply Kd.R_drew)); exact HO654.out)); (case aS => exact (below_size (by repeat (first | (with_reducible first | exact HB.out | apply below_alloc | apply pw_below_drewN | apply below_drew1 | refine below_set ?_ GE580.out) | exact HB.out)))); (case aL => have := LMc37.out; omega); intro v656 w72 ho hb hg hat; rw [← Ny655.out] at ho; have n0_ := Aside0.mk (Kd.R_after (ok := (fun k_ => some k_ ≠ (.slice Ao43 t603.length co43 : Value).ownBlock ∧ some k_ ≠ (.slice Ao48 y609.length co48 : Value).ownBlock ∧ some k_ ≠ (.slice Ao57 y612.length co57 : Value).ownBlock ∧ some k_ ≠ (.slice Ao53 t618.length co53 : Value).ownBlock ∧ some k_ ≠ (.slice Ao63 y621.length co63 : Value).ownBlock ∧ some k_ ≠ (.slice Ao61 y630.length co61 : Value).ownBlock ∧ some k_ ≠ (.slice Ao67 y636.length co67 : Value).ownBlock ∧ some k_ ≠ (.slice Ao70 t646.length co70 : Value).ownBlock)) (by (with_reducible repeat (first | apply Kd.R_alloc | apply Kd.R_drewN | apply Kd.R_drew)); exact HO_3.out) hg hat); have n1_ := Aside0.mk (blk_grown (g := gb580) (o := .cells #[.int .i64 a0_0, .int .i64 a0_1, .int .i64 a0_2, .int .i64 a0_3, .int .i64 a0_4, .int .i64 a0_5, .slice A0_6 l0_6.length c0_6] 34 (0, 0)) (by (with_reducible repeat (first | refine blk_drewN ?_ _ | refine blk_drew ?_ | refine blk_alloc ?_ _)); exact BK580.out) hg (Kd.R_ne HO654.out BK580.out (by decide))); have n2_ := Aside0.mk (Kd.R_after (ok := (fun k_ => some k_ ≠ (.slice Ao40 x3_3.length co40 : Value).ownBlock ∧ some k_ ≠ (.slice Ao48 y609.length co48 : Value).ownBlock ∧ some k_ ≠ (.slice Ao57 y612.length co57 : Value).ownBlock ∧ some k_ ≠ (.slice Ao53 t618.length co53 : Value).ownBlock ∧ some k_ ≠ (.slice Ao63 y621.length co63 : Value).ownBlock ∧ some k_ ≠ (.slice Ao61 y630.length co61 : Value).ownBlock ∧ some k_ ≠ (.slice Ao67 y636.length co67 : Value).ownBlock ∧ some k_ ≠ (.slice Ao70 t646.length co70 : Value).ownBlock)) (by (with_reducible repeat (first | apply Kd.R_alloc | apply Kd.R_drewN | apply Kd.R_drew)); exact HO605.out) hg hat); have n3_ := Aside0.mk (Kd.R_after (ok := (fun k_ => some k_ ≠ (.slice Ao40 x3_3.length co40 : Value).ownBlock ∧ some k_ ≠ (.slice Ao43 t603.length co43 : Value).ownBlock ∧ some k_ ≠ (.slice Ao57 y612.length co57 : Value).ownBlock ∧ some k_ ≠ (.slice Ao53 t618.length co53 : Value).ownBlock ∧ some k_ ≠ (.slice Ao63 y621.length co63 : Value).ownBlock ∧ some k_ ≠ (.slice Ao61 y630.length co61 : Value).ownBlock ∧ some k_ ≠ (.slice Ao67 y636.length co67 : Value).ownBlock ∧ some k_ ≠ (.slice Ao70 t646.length co70 : Value).ownBlock)) (by (with_reducible repeat (first | apply Kd.R_alloc | apply Kd.R_drewN | apply Kd.R_drew)); exact HO611.out) hg hat); have n4_ := Aside0.mk (Kd.R_after (ok := (fun k_ => some k_ ≠ (.slice Ao40 x3_3.length co40 : Value).ownBlock ∧ some k_ ≠ (.slice Ao43 t603.length co43 : Value).ownBlock ∧ some k_ ≠ (.slice Ao48 y609.length co48 : Value).ownBlock ∧ some k_ ≠ (.slice Ao53 t618.length co53 : Value).ownBlock ∧ some k_ ≠ (.slice Ao63 y621.length co63 : Value).ownBlock ∧ some k_ ≠ (.slice Ao61 y630.length co61 : Value).ownBlock ∧ some k_ ≠ (.slice Ao67 y636.length co67 : Value).ownBlock ∧ some k_ ≠ (.slice Ao70 t646.length co70 : Value).ownBlock)) (by (with_reducible repeat (first | apply Kd.R_alloc | apply Kd.R_drewN | apply Kd.R_drew)); exact HO614.out) hg hat); have n5_ := Aside0.mk (Kd.R_after (ok := (fun k_ => some k_ ≠ (.slice Ao40 x3_3.length co40 : Value).ownBlock ∧ some k_ ≠ (.slice Ao43 t603.length co43 : Value).ownBlock ∧ some k_ ≠ (.slice Ao48 y609.length co48 : Value).ownBlock ∧ some k_ ≠ (.slice Ao57 y612.length co57 : Value).ownBlock ∧ some k_ ≠ (.slice Ao63 y621.length co63 : Value).ownBlock ∧ some k_ ≠ (.slice Ao61 y630.length co61 : Value).ownBlock ∧ some k_ ≠ (.slice Ao67 y636.length co67 : Value).ownBlock ∧ some k_ ≠ (.slice Ao70 t646.length co70 : Value).ownBlock)) (by (with_reducible repeat (first | apply Kd.R_alloc | apply Kd.R_drewN | apply Kd.R_drew)); exact HO620.out) hg hat); have n6_ := Aside0.mk (Kd.R_after (ok := (fun k_ => some k_ ≠ (.slice Ao40 x3_3.length co40 : Value).ownBlock ∧ some k_ ≠ (.slice Ao43 t603.length co43 : Value).ownBlock ∧ some k_ ≠ (.slice Ao48 y609.length co48 : Value).ownBlock ∧ some k_ ≠ (.slice Ao57 y612.length co57 : Value).ownBlock ∧ some k_ ≠ (.slice Ao53 t618.length co53 : Value).ownBlock ∧ some k_ ≠ (.slice Ao61 y630.length co61 : Value).ownBlock ∧ some k_ ≠ (.slice Ao67 y636.length co67 : Value).ownBlock ∧ some k_ ≠ (.slice Ao70 t646.length co70 : Value).ownBlock)) (by (with_reducible repeat (first | apply Kd.R_alloc | apply Kd.R_drewN | apply Kd.R_drew)); exact HO623.out) hg hat); have n7_ := Aside0.mk (Kd.R_after (ok := (fun k_ => some k_ ≠ (.slice Ao40 x3_3.length co40 : Value).ownBlock ∧ some k_ ≠ (.slice Ao43 t603.length co43 : Value).ownBlock ∧ some k_ ≠ (.slice Ao48 y609.length co48 : Value).ownBlock ∧ some k_ ≠ (.slice Ao57 y612.length co57 : Value).ownBlock ∧ some k_ ≠ (.slice Ao53 t618.length co53 : Value).ownBlock ∧ some k_ ≠ (.slice Ao63 y621.length co63 : Value).ownBlock ∧ some k_ ≠ (.slice Ao67 y636.length co67 : Value).ownBlock ∧ some k_ ≠ (.slice Ao70 t646.length co70 : Value).ownBlock)) (by (with_reducible repeat (first | apply Kd.R_alloc | apply Kd.R_drewN | apply Kd.R_drew)); exact HO632.out) hg hat); have n8_ := Aside0.mk (Kd.R_after (ok := (fun k_ => some k_ ≠ (.slice Ao40 x3_3.length co40 : Value).ownBlock ∧ some k_ ≠ (.slice Ao43 t603.length co43 : Value).ownBlock ∧ some k_ ≠ (.slice Ao48 y609.length co48 : Value).ownBlock ∧ some k_ ≠ (.slice Ao57 y612.length co57 : Value).ownBlock ∧ some k_ ≠ (.slice Ao53 t618.length co53 : Value).ownBlock ∧ some k_ ≠ (.slice Ao63 y621.length co63 : Value).ownBlock ∧ some k_ ≠ (.slice Ao61 y630.length co61 : Value).ownBlock ∧ some k_ ≠ (.slice Ao70 t646.length co70 : Value).ownBlock)) (by (with_reducible repeat (first | apply Kd.R_alloc | apply Kd.R_drewN | apply Kd.R_drew)); exact HO638.out) hg hat); have n9_ := Aside0.mk (Kd.R_after (ok := (fun k_ => some k_ ≠ (.slice Ao40 x3_3.length co40 : Value).ownBlock ∧ some k_ ≠ (.slice Ao43 t603.length co43 : Value).ownBlock ∧ some k_ ≠ (.slice Ao48 y609.length co48 : Value).ownBlock ∧ some k_ ≠ (.slice Ao57 y612.length co57 : Value).ownBlock ∧ some k_ ≠ (.slice Ao53 t618.length co53 : Value).ownBlock ∧ some k_ ≠ (.slice Ao63 y621.length co63 : Value).ownBlock ∧ some k_ ≠ (.slice Ao61 y630.length co61 : Value).ownBlock ∧ some k_ ≠ (.slice Ao67 y636.length co67 : Value).ownBlock)) (by (with_reducible repeat (first | apply Kd.R_alloc | apply Kd.R_drewN | apply Kd.R_drew)); exact HO648.out) hg hat); have n10_ := Aside0.mk (hb); have n11_ := Aside0.mk (ho); clear HO_3; clear BK580; clear HO605; clear HO611; clear HO614; clear HO620; clear HO623; clear HO632; clear HO638; clear HO648; clear HB; clear HO654; have HO_3 := n0_; have BK580 := n1_; have HO605 := n2_; have HO611 := n3_; have HO614 := n4_; have HO620 := n5_; have HO623 := n6_; have HO632 := n7_; have HO638 := n8_; have HO648 := n9_; have HB := n10_; have HO657 := n11_; clear n0_ n1_ n2_ n3_ n4_ n5_ n6_ n7_ n8_ n9_ n10_ n11_; clear ho hb hg hat))
              go_ret
              exact ⟨_, by first | rfl | (simp [errW_none, errW_some] <;> rfl) | (simp [*, errW_none, errW_some] <;> rfl), by (with_reducible repeat (first | apply Kd.R_alloc | apply Kd.R_drewN | apply Kd.R_drew)); exact Kd.R_mono HO657.out (fun _ hk => trivial), by repeat (first | (with_reducible first | exact HB.out | apply below_alloc | apply pw_below_drewN | apply below_drew1 | refine below_set ?_ GE580.out) | exact HB.out)⟩
             ·rw [if_neg c37] at H
              exact absurd H (by simp)
            ·rw [if_neg c36] at H
             exact absurd H (by simp)
           ·rw [if_neg c35] at H
            exact absurd H (by simp)
          ·rw [if_neg c32] at H
           exact absurd H (by simp)
         ·rw [if_neg c31] at H
          exact absurd H (by simp)
        ·rw [if_neg c30] at H
         exact absurd H (by simp)
       ·rw [if_neg c29] at H
        exact absurd H (by simp)
      ·rw [if_neg c28] at H
       exact absurd H (by simp)
     ·rw [if_neg c25] at H
      exact absurd H (by simp)
    ·rw [if_neg c24] at H
     exact absurd H (by simp)
 ·rw [if_neg c2] at H
  exact absurd H (by simp)
end Go.Proofs.Ytidejdfbapjfiaa.G
namespace Go.Proofs.Ytidejdfbapjfiaa.G
open Go.RowKit Go.Proofs.YtidejdfbapjfiaaW.PrintWords Go.Proofs.YtidejdfbapjfiaaW.PrintLast Go.Proofs.YtidejdfbapjfiaaW.PrintMore
attribute [local go_sem] max2_int min2_int max_two min_two max_three min_three max_four min_four   -- for this text's walks alone
set_option linter.unusedVariables false
set_option linter.unusedSimpArgs false
theorem cut_world {P : Program} {c : Code} {Q : Exit → Act → World → Prop} {a : Act} {w : World} (F : World → Prop) (hF : F w) (h : ∀ w, F w → Code.wp P c Q a w) : Code.wp P c Q a w := h w hF
def spec_TtlDown.f (k : Nat) (l0 : List Int) : Option (Int × List Int) := (spec_ParsePacket.f k l0).bind fun bt659 => (if bt659.1 = 0 then (if bt659.2.2.2.2.1 = 1 then (some (10, ([] : List Int))) else ((spec_l2Build.f k bt659.2.1 bt659.2.2.1 bt659.2.2.2.1 (wrap64 (bt659.2.2.2.2.1 - 1)) bt659.2.2.2.2.2.1 bt659.2.2.2.2.2.2.1 bt659.2.2.2.2.2.2.2).bind fun t670 => (some (0, t670)))) else (some (bt659.1, ([] : List Int))))
set_option maxHeartbeats 8000000 in
set_option maxRecDepth 100000 in
theorem spec_TtlDown.calls (k : Nat) (A0 : Option Addr) (c0 : Nat) (l0 : List Int) (r1 : Int) (r2 : List Int) (w : World) (hr0 : Kd.C (Kd.int .u8) w A0 l0.length l0) (hc0 : l0.length ≤ c0) (h : spec_TtlDown.f k l0 = some (r1, r2)) :
  Calls Try.prog 23 #[.slice A0 l0.length c0] w fun e w' => ∃ v1_ : Value, e = .returned (.agg #[.int .i64 r1, v1_]) ∧ Kd.R (Kd.int .u8) 5 w' w.heap.size (fun _ => True) v1_ r2 ∧ Below w.heap.size w w' := by
 have hu29 := Try.underlying29
 have hu36 := Try.underlying36
 have hu34 := Try.underlying34
 have HR0 := Aside0.mk hr0
 have HC0 := Aside0.mk hc0
 clear hr0 hc0
 have HB := Aside0.mk (Below.refl w.heap.size w)
 have H : ((spec_ParsePacket.f k l0).bind fun bt659 => (if bt659.1 = 0 then (if bt659.2.2.2.2.1 = 1 then (some (10, ([] : List Int))) else ((spec_l2Build.f k bt659.2.1 bt659.2.2.1 bt659.2.2.2.1 (wrap64 (bt659.2.2.2.2.1 - 1)) bt659.2.2.2.2.2.1 bt659.2.2.2.2.2.2.1 bt659.2.2.2.2.2.2.2).bind fun t670 => (some (0, t670)))) else (some (bt659.1, ([] : List Int))))) = some (r1, r2) := h
 clear h
 replace H := Option.bind_eq_some_iff.mp H
 obtain ⟨⟨t659, t660, t661, t662, t663, t664, t665, t666⟩, A20, H⟩ := H
 try dsimp only at H
 have A2 := Aside0.mk A20
 clear A20
 by_cases c3 : t659 = 0
 ·rw [if_pos c3] at H
  have c3b0 : (t659 == 0) = true := beq_iff_eq.mpr c3
  have c3b1 : (t659 != 0) = false := bne_eq_false_iff_eq.mpr c3
  clear c3
  by_cases c4 : t663 = 1
  ·rw [if_pos c4] at H
   have c4b0 : (t663 == 1) = true := beq_iff_eq.mpr c4
   have c4b1 : (t663 != 1) = false := bne_eq_false_iff_eq.mpr c4
   clear c4
   simp only [Option.some.injEq, Prod.mk.injEq] at H
   obtain ⟨rfl, rfl⟩ := H
   go_enter Try.func23, Try.ntmps23
   go_wp2_with (first | ((with_reducible refine gate_dst (N := 2) rfl ?_); refine box_event ?hg (N := 2) ?hd (cs := #[.int .i64 0, .slice none 0 0]) (t := 29) ?hr ?_; (case hd => rfl); (case hg => rfl); (case hr => first | (go_simp; done) | (go_simp; rfl)); intro gb658 hg w5 hbox hb; have n0_ := Aside0.mk (below_step (by repeat (first | (with_reducible first | exact HB.out | apply below_alloc | apply pw_below_drewN | apply below_drew1) | exact HB.out)) hb); have n1_ := Aside0.mk (hbox); have n2_ := Aside0.mk ((by rw [hg]; exact (below_size (by repeat (first | (with_reducible first | exact HB.out | apply below_alloc | apply pw_below_drewN | apply below_drew1) | exact HB.out))) : w.heap.size ≤ gb658)); have n3_ := Aside0.mk ((by rw [hg]; exact (below_size (by repeat (first | (with_reducible first | exact HB.out | apply below_alloc | apply pw_below_drewN | apply below_drew1) | exact HB.out))) : w.heap.size ≤ gb658)); clear HB; have HB := n0_; have BK658 := n1_; have GW658 := n2_; have GE658 := n3_; clear n0_ n1_ n2_ n3_; clear hb hbox hg) | ((with_reducible refine gate_callee (f := 15) rfl ?_); refine goesL_ (some 5) rfl rfl Try.func15 (by kernel_rfl) rfl #[.slice A0 l0.length c0] rfl (by (try simp only [List.map_toArray, List.map_cons, List.map_nil]); first | done | rfl | (simp only [List.length_drop, List.length_take]; rfl)) ?_; (with_reducible refine (spec_ParsePacket.calls k _ _ l0 t659 t660 t661 t662 t663 t664 t665 t666 _ ?side1 ?side2 A2.out).mono ?_); (case side1 => repeat (first | exact (Kd.C_below HR0.out HB.out) | (with_reducible refine Kd.C_alloc ?_ _) | (with_reducible refine Kd.C_drewN ?_ _) | (with_reducible refine Kd.C_drew ?_))); (case side2 => exact HC0.out); rintro e w6 ⟨v667, rfl, ho0, hb⟩; refine ⟨_, rfl, ?_⟩; have n0_ := Aside0.mk (Kd.R_lower ho0 (below_size (by repeat (first | (with_reducible first | exact HB.out | apply below_alloc | apply pw_below_drewN | apply below_drew1 | refine below_set ?_ GE658.out) | exact HB.out)))); have n1_ := Aside0.mk (blk_below (g := gb658) (o := .cells #[.int .i64 0, .slice none 0 0] 29 (0, 0)) (by (with_reducible repeat (first | refine blk_drewN ?_ _ | refine blk_drew ?_ | refine blk_alloc ?_ _)); exact BK658.out) hb); have n2_ := Aside0.mk (below_step (by repeat (first | (with_reducible first | exact HB.out | apply below_alloc | apply pw_below_drewN | apply below_drew1 | refine below_set ?_ GE658.out) | exact HB.out)) hb); clear BK658; clear HB; have HO668 := n0_; have BK658 := n1_; have HB := n2_; clear n0_ n1_ n2_; (try clear hb); (try clear hb2); (try clear hk); (try clear hi); (try clear ho0)) | ((with_reducible refine gate_dst (N := 3) rfl ?_); refine box_event ?hg (N := 3) ?hd (cs := #[.int .i64 0, .int .i64 0, .int .i64 0, .int .i64 0, .int .i64 0, .int .i64 0, .int .i64 0, .slice none 0 0]) (t := 36) ?hr ?_; (case hd => rfl); (case hg => rfl); (case hr => first | (go_simp; done) | (go_simp; rfl)); intro gb669 hg w7 hbox hb; have n0_ := Aside0.mk (Kd.R_below (by (with_reducible repeat (first | apply Kd.R_alloc | apply Kd.R_drewN | apply Kd.R_drew)); exact HO668.out) hb); have n1_ := Aside0.mk (blk_below (g := gb658) (o := .cells #[.int .i64 0, .slice none 0 0] 29 (0, 0)) (by (with_reducible repeat (first | refine blk_drewN ?_ _ | refine blk_drew ?_ | refine blk_alloc ?_ _)); exact BK658.out) hb); have n2_ := Aside0.mk (below_step (by repeat (first | (with_reducible first | exact HB.out | apply below_alloc | apply pw_below_drewN | apply below_drew1 | refine below_set ?_ GE658.out) | exact HB.out)) hb); have n3_ := Aside0.mk (hbox); have n4_ := Aside0.mk ((by rw [hg]; exact (below_size (by repeat (first | (with_reducible first | exact HB.out | apply below_alloc | apply pw_below_drewN | apply below_drew1 | refine below_set ?_ GE658.out) | exact HB.out))) : w.heap.size ≤ gb669)); have n5_ := Aside0.mk ((by rw [hg]; exact (below_size (by repeat (first | (with_reducible first | exact HB.out | apply below_alloc | apply pw_below_drewN | apply below_drew1 | refine below_set ?_ GE658.out) | exact HB.out))) : w.heap.size ≤ gb669)); have n6_ := Aside0.mk ((by rw [hg]; exact Nat.ne_of_lt (blk_lt (g := gb658) (o := .cells #[.int .i64 0, .slice none 0 0] 29 (0, 0)) (by (with_reducible repeat (first | refine blk_drewN ?_ _ | refine blk_drew ?_ | refine blk_alloc ?_ _)); exact BK658.out)) : gb658 ≠ gb669)); have n7_ := Aside0.mk ((by rw [hg]; exact Nat.ne_of_gt (blk_lt (g := gb658) (o := .cells #[.int .i64 0, .slice none 0 0] 29 (0, 0)) (by (with_reducible repeat (first | refine blk_drewN ?_ _ | refine blk_drew ?_ | refine blk_alloc ?_ _)); exact BK658.out)) : gb669 ≠ gb658)); clear HO668; clear BK658; clear HB; have HO668 := n0_; have BK658 := n1_; have HB := n2_; have BK669 := n3_; have GW669 := n4_; have GE669 := n5_; have NB658_669 := n6_; have NB669_658 := n7_; clear n0_ n1_ n2_ n3_ n4_ n5_ n6_ n7_; clear hb hbox hg; have hnb8 := NB669_658.out; have hnc8 := NB658_669.out; have hcz9_0 : w7.cell? ⟨gb669, 0, none⟩ = some (.int .i64 0) := (blk_cell BK669.out 0).trans rfl; have hcz9_1 : w7.cell? ⟨gb669, 1, none⟩ = some (.int .i64 0) := (blk_cell BK669.out 1).trans rfl; have hcz9_2 : w7.cell? ⟨gb669, 2, none⟩ = some (.int .i64 0) := (blk_cell BK669.out 2).trans rfl; have hcz9_3 : w7.cell? ⟨gb669, 3, none⟩ = some (.int .i64 0) := (blk_cell BK669.out 3).trans rfl; have hcz9_4 : w7.cell? ⟨gb669, 4, none⟩ = some (.int .i64 0) := (blk_cell BK669.out 4).trans rfl; have hcz9_5 : w7.cell? ⟨gb669, 5, none⟩ = some (.int .i64 0) := (blk_cell BK669.out 5).trans rfl; have hcz9_6 : w7.cell? ⟨gb669, 6, none⟩ = some (.int .i64 0) := (blk_cell BK669.out 6).trans rfl; have hcz9_7 : w7.cell? ⟨gb669, 7, none⟩ = some (.slice none 0 0) := (blk_cell BK669.out 7).trans rfl; have hfz9_0 := blk_frozen BK669.out 0; have hfz9_1 := blk_frozen BK669.out 1; have hfz9_2 := blk_frozen BK669.out 2; have hfz9_3 := blk_frozen BK669.out 3; have hfz9_4 := blk_frozen BK669.out 4; have hfz9_5 := blk_frozen BK669.out 5; have hfz9_6 := blk_frozen BK669.out 6; have hfz9_7 := blk_frozen BK669.out 7; obtain ⟨Ao10, co10, eo10⟩ := Kd.R_slice HO668.out; subst eo10; have hcz11_0 : w7.cell? ⟨gb658, 0, none⟩ = some (.int .i64 0) := (blk_cell BK658.out 0).trans rfl; have hcz11_1 : w7.cell? ⟨gb658, 1, none⟩ = some (.slice none 0 0) := (blk_cell BK658.out 1).trans rfl; have hfz11_0 := blk_frozen BK658.out 0; have hfz11_1 := blk_frozen BK658.out 1))
   refine bodyPost_ret (results_cell_row rfl _ _ gb658 29 #[.int .i64 10, .slice none 0 0] (0, 0) _ rfl (by (with_reducible repeat (first | refine blk_drewN ?_ _ | refine blk_drew ?_ | refine blk_alloc ?_ _)); refine blk_put (cs := #[.int .i64 10, .slice none 0 0]) ?_ 1 _ rfl; (with_reducible repeat (first | refine blk_drewN ?_ _ | refine blk_drew ?_ | refine blk_alloc ?_ _)); refine blk_put (cs := #[.int .i64 0, .slice none 0 0]) ?_ 0 _ rfl; (with_reducible repeat (first | refine blk_drewN ?_ _ | refine blk_drew ?_ | refine blk_alloc ?_ _)); refine blk_far ?_ NB658_669.out _; (with_reducible repeat (first | refine blk_drewN ?_ _ | refine blk_drew ?_ | refine blk_alloc ?_ _)); refine blk_far ?_ NB658_669.out _; (with_reducible repeat (first | refine blk_drewN ?_ _ | refine blk_drew ?_ | refine blk_alloc ?_ _)); refine blk_far ?_ NB658_669.out _; (with_reducible repeat (first | refine blk_drewN ?_ _ | refine blk_drew ?_ | refine blk_alloc ?_ _)); refine blk_far ?_ NB658_669.out _; (with_reducible repeat (first | refine blk_drewN ?_ _ | refine blk_drew ?_ | refine blk_alloc ?_ _)); refine blk_far ?_ NB658_669.out _; (with_reducible repeat (first | refine blk_drewN ?_ _ | refine blk_drew ?_ | refine blk_alloc ?_ _)); refine blk_far ?_ NB658_669.out _; (with_reducible repeat (first | refine blk_drewN ?_ _ | refine blk_drew ?_ | refine blk_alloc ?_ _)); refine blk_far ?_ NB658_669.out _; (with_reducible repeat (first | refine blk_drewN ?_ _ | refine blk_drew ?_ | refine blk_alloc ?_ _)); refine blk_far ?_ NB658_669.out _; (with_reducible repeat (first | refine blk_drewN ?_ _ | refine blk_drew ?_ | refine blk_alloc ?_ _)); exact BK658.out) Try.underlying29 rfl (by kernel_rfl)) rfl ?_
   exact ⟨_, by first | rfl | (simp [errW_none, errW_some] <;> rfl) | (simp [*, errW_none, errW_some] <;> rfl), by first | exact Kd.R_nil _ _ _ _ _ | exact Kd.N_nil _ _ _ _ _ | exact Kd.V_nil _ _ _ _ _ | exact Kd.Q_nil _ _ _ _ _ | exact Kd.S_nil _ _ _ _ _, by repeat (first | (with_reducible first | exact HB.out | apply below_alloc | apply pw_below_drewN | apply below_drew1 | refine below_set ?_ GE658.out | refine below_set ?_ GE669.out) | exact HB.out)⟩
  ·rw [if_neg c4] at H
   have c4b0 : (t663 == 1) = false := beq_eq_false_iff_ne.mpr c4
   have c4b1 : (t663 != 1) = true := bne_iff_ne.mpr c4
   replace H := Option.bind_eq_some_iff.mp H
   obtain ⟨t670, A120, H⟩ := H
   try dsimp only at H
   have A12 := Aside0.mk A120
   clear A120
   simp only [Option.some.injEq, Prod.mk.injEq] at H
   obtain ⟨rfl, rfl⟩ := H
   go_enter Try.func23, Try.ntmps23
   go_upto_region 7 with (first | ((with_reducible refine gate_dst (N := 2) rfl ?_); refine box_event ?hg (N := 2) ?hd (cs := #[.int .i64 0, .slice none 0 0]) (t := 29) ?hr ?_; (case hd => rfl); (case hg => rfl); (case hr => first | (go_simp; done) | (go_simp; rfl)); intro gb658 hg w13 hbox hb; have n0_ := Aside0.mk (below_step (by repeat (first | (with_reducible first | exact HB.out | apply below_alloc | apply pw_below_drewN | apply below_drew1) | exact HB.out)) hb); have n1_ := Aside0.mk (hbox); have n2_ := Aside0.mk ((by rw [hg]; exact (below_size (by repeat (first | (with_reducible first | exact HB.out | apply below_alloc | apply pw_below_drewN | apply below_drew1) | exact HB.out))) : w.heap.size ≤ gb658)); have n3_ := Aside0.mk ((by rw [hg]; exact (below_size (by repeat (first | (with_reducible first | exact HB.out | apply below_alloc | apply pw_below_drewN | apply below_drew1) | exact HB.out))) : w.heap.size ≤ gb658)); clear HB; have HB := n0_; have BK658 := n1_; have GW658 := n2_; have GE658 := n3_; clear n0_ n1_ n2_ n3_; clear hb hbox hg) | ((with_reducible refine gate_callee (f := 15) rfl ?_); refine goesL_ (some 5) rfl rfl Try.func15 (by kernel_rfl) rfl #[.slice A0 l0.length c0] rfl (by (try simp only [List.map_toArray, List.map_cons, List.map_nil]); first | done | rfl | (simp only [List.length_drop, List.length_take]; rfl)) ?_; (with_reducible refine (spec_ParsePacket.calls k _ _ l0 t659 t660 t661 t662 t663 t664 t665 t666 _ ?side1 ?side2 A2.out).mono ?_); (case side1 => repeat (first | exact (Kd.C_below HR0.out HB.out) | (with_reducible refine Kd.C_alloc ?_ _) | (with_reducible refine Kd.C_drewN ?_ _) | (with_reducible refine Kd.C_drew ?_))); (case side2 => exact HC0.out); rintro e w14 ⟨v667, rfl, ho0, hb⟩; refine ⟨_, rfl, ?_⟩; have n0_ := Aside0.mk (Kd.R_lower ho0 (below_size (by repeat (first | (with_reducible first | exact HB.out | apply below_alloc | apply pw_below_drewN | apply below_drew1 | refine below_set ?_ GE658.out) | exact HB.out)))); have n1_ := Aside0.mk (blk_below (g := gb658) (o := .cells #[.int .i64 0, .slice none 0 0] 29 (0, 0)) (by (with_reducible repeat (first | refine blk_drewN ?_ _ | refine blk_drew ?_ | refine blk_alloc ?_ _)); exact BK658.out) hb); have n2_ := Aside0.mk (below_step (by repeat (first | (with_reducible first | exact HB.out | apply below_alloc | apply pw_below_drewN | apply below_drew1 | refine below_set ?_ GE658.out) | exact HB.out)) hb); clear BK658; clear HB; have HO668 := n0_; have BK658 := n1_; have HB := n2_; clear n0_ n1_ n2_; (try clear hb); (try clear hb2); (try clear hk); (try clear hi); (try clear ho0)) | ((with_reducible refine gate_dst (N := 3) rfl ?_); refine box_event ?hg (N := 3) ?hd (cs := #[.int .i64 0, .int .i64 0, .int .i64 0, .int .i64 0, .int .i64 0, .int .i64 0, .int .i64 0, .slice none 0 0]) (t := 36) ?hr ?_; (case hd => rfl); (case hg => rfl); (case hr => first | (go_simp; done) | (go_simp; rfl)); intro gb669 hg w15 hbox hb; have n0_ := Aside0.mk (Kd.R_below (by (with_reducible repeat (first | apply Kd.R_alloc | apply Kd.R_drewN | apply Kd.R_drew)); exact HO668.out) hb); have n1_ := Aside0.mk (blk_below (g := gb658) (o := .cells #[.int .i64 0, .slice none 0 0] 29 (0, 0)) (by (with_reducible repeat (first | refine blk_drewN ?_ _ | refine blk_drew ?_ | refine blk_alloc ?_ _)); exact BK658.out) hb); have n2_ := Aside0.mk (below_step (by repeat (first | (with_reducible first | exact HB.out | apply below_alloc | apply pw_below_drewN | apply below_drew1 | refine below_set ?_ GE658.out) | exact HB.out)) hb); have n3_ := Aside0.mk (hbox); have n4_ := Aside0.mk ((by rw [hg]; exact (below_size (by repeat (first | (with_reducible first | exact HB.out | apply below_alloc | apply pw_below_drewN | apply below_drew1 | refine below_set ?_ GE658.out) | exact HB.out))) : w.heap.size ≤ gb669)); have n5_ := Aside0.mk ((by rw [hg]; exact (below_size (by repeat (first | (with_reducible first | exact HB.out | apply below_alloc | apply pw_below_drewN | apply below_drew1 | refine below_set ?_ GE658.out) | exact HB.out))) : w.heap.size ≤ gb669)); have n6_ := Aside0.mk ((by rw [hg]; exact Nat.ne_of_lt (blk_lt (g := gb658) (o := .cells #[.int .i64 0, .slice none 0 0] 29 (0, 0)) (by (with_reducible repeat (first | refine blk_drewN ?_ _ | refine blk_drew ?_ | refine blk_alloc ?_ _)); exact BK658.out)) : gb658 ≠ gb669)); have n7_ := Aside0.mk ((by rw [hg]; exact Nat.ne_of_gt (blk_lt (g := gb658) (o := .cells #[.int .i64 0, .slice none 0 0] 29 (0, 0)) (by (with_reducible repeat (first | refine blk_drewN ?_ _ | refine blk_drew ?_ | refine blk_alloc ?_ _)); exact BK658.out)) : gb669 ≠ gb658)); clear HO668; clear BK658; clear HB; have HO668 := n0_; have BK658 := n1_; have HB := n2_; have BK669 := n3_; have GW669 := n4_; have GE669 := n5_; have NB658_669 := n6_; have NB669_658 := n7_; clear n0_ n1_ n2_ n3_ n4_ n5_ n6_ n7_; clear hb hbox hg; have hnb16 := NB669_658.out; have hnc16 := NB658_669.out; have hcz17_0 : w15.cell? ⟨gb669, 0, none⟩ = some (.int .i64 0) := (blk_cell BK669.out 0).trans rfl; have hcz17_1 : w15.cell? ⟨gb669, 1, none⟩ = some (.int .i64 0) := (blk_cell BK669.out 1).trans rfl; have hcz17_2 : w15.cell? ⟨gb669, 2, none⟩ = some (.int .i64 0) := (blk_cell BK669.out 2).trans rfl; have hcz17_3 : w15.cell? ⟨gb669, 3, none⟩ = some (.int .i64 0) := (blk_cell BK669.out 3).trans rfl; have hcz17_4 : w15.cell? ⟨gb669, 4, none⟩ = some (.int .i64 0) := (blk_cell BK669.out 4).trans rfl; have hcz17_5 : w15.cell? ⟨gb669, 5, none⟩ = some (.int .i64 0) := (blk_cell BK669.out 5).trans rfl; have hcz17_6 : w15.cell? ⟨gb669, 6, none⟩ = some (.int .i64 0) := (blk_cell BK669.out 6).trans rfl; have hcz17_7 : w15.cell? ⟨gb669, 7, none⟩ = some (.slice none 0 0) := (blk_cell BK669.out 7).trans rfl; have hfz17_0 := blk_frozen BK669.out 0; have hfz17_1 := blk_frozen BK669.out 1; have hfz17_2 := blk_frozen BK669.out 2; have hfz17_3 := blk_frozen BK669.out 3; have hfz17_4 := blk_frozen BK669.out 4; have hfz17_5 := blk_frozen BK669.out 5; have hfz17_6 := blk_frozen BK669.out 6; have hfz17_7 := blk_frozen BK669.out 7; obtain ⟨Ao18, co18, eo18⟩ := Kd.R_slice HO668.out; subst eo18))
   refine cut_world (F := fun W => W.heap[gb658]? = some (.cells #[.int .i64 0, .slice none 0 0] 29 (0, 0)) ∧ W.heap[gb669]? = some (.cells #[.int .i64 t659, .int .i64 t660, .int .i64 t661, .int .i64 t662, .int .i64 (wrap64 (t663 - 1)), .int .i64 t664, .int .i64 t665, .slice Ao18 t666.length co18] 36 (0, 0)) ∧ Below w.heap.size w W ∧ Kd.R (Kd.int .u8) 5 W w.heap.size (fun k_ => True) (.slice Ao18 t666.length co18) t666) ⟨by (with_reducible repeat (first | refine blk_drewN ?_ _ | refine blk_drew ?_ | refine blk_alloc ?_ _)); refine blk_far ?_ NB658_669.out _; (with_reducible repeat (first | refine blk_drewN ?_ _ | refine blk_drew ?_ | refine blk_alloc ?_ _)); refine blk_far ?_ NB658_669.out _; (with_reducible repeat (first | refine blk_drewN ?_ _ | refine blk_drew ?_ | refine blk_alloc ?_ _)); refine blk_far ?_ NB658_669.out _; (with_reducible repeat (first | refine blk_drewN ?_ _ | refine blk_drew ?_ | refine blk_alloc ?_ _)); refine blk_far ?_ NB658_669.out _; (with_reducible repeat (first | refine blk_drewN ?_ _ | refine blk_drew ?_ | refine blk_alloc ?_ _)); refine blk_far ?_ NB658_669.out _; (with_reducible repeat (first | refine blk_drewN ?_ _ | refine blk_drew ?_ | refine blk_alloc ?_ _)); refine blk_far ?_ NB658_669.out _; (with_reducible repeat (first | refine blk_drewN ?_ _ | refine blk_drew ?_ | refine blk_alloc ?_ _)); refine blk_far ?_ NB658_669.out _; (with_reducible repeat (first | refine blk_drewN ?_ _ | refine blk_drew ?_ | refine blk_alloc ?_ _)); refine blk_far ?_ NB658_669.out _; (with_reducible repeat (first | refine blk_drewN ?_ _ | refine blk_drew ?_ | refine blk_alloc ?_ _)); refine blk_far ?_ NB658_669.out _; (with_reducible repeat (first | refine blk_drewN ?_ _ | refine blk_drew ?_ | refine blk_alloc ?_ _)); exact BK658.out, by (with_reducible repeat (first | refine blk_drewN ?_ _ | refine blk_drew ?_ | refine blk_alloc ?_ _)); refine blk_put (cs := #[.int .i64 t659, .int .i64 t660, .int .i64 t661, .int .i64 t662, .int .i64 t663, .int .i64 t664, .int .i64 t665, .slice Ao18 t666.length co18]) ?_ 4 _ rfl; (with_reducible repeat (first | refine blk_drewN ?_ _ | refine blk_drew ?_ | refine blk_alloc ?_ _)); refine blk_put (cs := #[.int .i64 t659, .int .i64 t660, .int .i64 t661, .int .i64 t662, .int .i64 t663, .int .i64 t664, .int .i64 t665, .slice none 0 0]) ?_ 7 _ rfl; (with_reducible repeat (first | refine blk_drewN ?_ _ | refine blk_drew ?_ | refine blk_alloc ?_ _)); refine blk_put (cs := #[.int .i64 t659, .int .i64 t660, .int .i64 t661, .int .i64 t662, .int .i64 t663, .int .i64 t664, .int .i64 0, .slice none 0 0]) ?_ 6 _ rfl; (with_reducible repeat (first | refine blk_drewN ?_ _ | refine blk_drew ?_ | refine blk_alloc ?_ _)); refine blk_put (cs := #[.int .i64 t659, .int .i64 t660, .int .i64 t661, .int .i64 t662, .int .i64 t663, .int .i64 0, .int .i64 0, .slice none 0 0]) ?_ 5 _ rfl; (with_reducible repeat (first | refine blk_drewN ?_ _ | refine blk_drew ?_ | refine blk_alloc ?_ _)); refine blk_put (cs := #[.int .i64 t659, .int .i64 t660, .int .i64 t661, .int .i64 t662, .int .i64 0, .int .i64 0, .int .i64 0, .slice none 0 0]) ?_ 4 _ rfl; (with_reducible repeat (first | refine blk_drewN ?_ _ | refine blk_drew ?_ | refine blk_alloc ?_ _)); refine blk_put (cs := #[.int .i64 t659, .int .i64 t660, .int .i64 t661, .int .i64 0, .int .i64 0, .int .i64 0, .int .i64 0, .slice none 0 0]) ?_ 3 _ rfl; (with_reducible repeat (first | refine blk_drewN ?_ _ | refine blk_drew ?_ | refine blk_alloc ?_ _)); refine blk_put (cs := #[.int .i64 t659, .int .i64 t660, .int .i64 0, .int .i64 0, .int .i64 0, .int .i64 0, .int .i64 0, .slice none 0 0]) ?_ 2 _ rfl; (with_reducible repeat (first | refine blk_drewN ?_ _ | refine blk_drew ?_ | refine blk_alloc ?_ _)); refine blk_put (cs := #[.int .i64 t659, .int .i64 0, .int .i64 0, .int .i64 0, .int .i64 0, .int .i64 0, .int .i64 0, .slice none 0 0]) ?_ 1 _ rfl; (with_reducible repeat (first | refine blk_drewN ?_ _ | refine blk_drew ?_ | refine blk_alloc ?_ _)); refine blk_put (cs := #[.int .i64 0, .int .i64 0, .int .i64 0, .int .i64 0, .int .i64 0, .int .i64 0, .int .i64 0, .slice none 0 0]) ?_ 0 _ rfl; (with_reducible repeat (first | refine blk_drewN ?_ _ | refine blk_drew ?_ | refine blk_alloc ?_ _)); exact BK669.out, by repeat (first | (with_reducible first | exact HB.out | apply below_alloc | apply pw_below_drewN | apply below_drew1 | refine below_set ?_ GE658.out | refine below_set ?_ GE669.out) | exact HB.out), (by (with_reducible repeat (first | apply Kd.R_alloc | apply Kd.R_drewN | apply Kd.R_drew)); exact (Kd.R_mono (Kd.R_far (p := ⟨gb669, 4, none⟩) (Kd.R_far (p := ⟨gb669, 7, none⟩) (Kd.R_far (p := ⟨gb669, 6, none⟩) (Kd.R_far (p := ⟨gb669, 5, none⟩) (Kd.R_far (p := ⟨gb669, 4, none⟩) (Kd.R_far (p := ⟨gb669, 3, none⟩) (Kd.R_far (p := ⟨gb669, 2, none⟩) (Kd.R_far (p := ⟨gb669, 1, none⟩) (Kd.R_far (p := ⟨gb669, 0, none⟩) (Kd.R_types HO668.out BK669.out (by decide)) (fun _ hk => hk.2) (.int .i64 t659)) (fun _ hk => hk.2) (.int .i64 t660)) (fun _ hk => hk.2) (.int .i64 t661)) (fun _ hk => hk.2) (.int .i64 t662)) (fun _ hk => hk.2) (.int .i64 t663)) (fun _ hk => hk.2) (.int .i64 t664)) (fun _ hk => hk.2) (.int .i64 t665)) (fun _ hk => hk.2) (.slice Ao18 t666.length co18)) (fun _ hk => hk.2) (.int .i64 (wrap64 (t663 - 1)))) (fun _ h_ => h_.1)))⟩ ?_
   rintro w99 ⟨b0_, b1_, b2_, b3_⟩
   clear BK658 BK669 HB HO668
   have BK658 := Aside0.mk b0_
   have BK669 := Aside0.mk b1_
   have HB := Aside0.mk b2_
   have HO668 := Aside0.mk b3_
   clear b0_ b1_ b2_ b3_
   have hczw99_gb658_0 : w99.cell? ⟨gb658, 0, none⟩ = some (.int .i64 0) := (blk_cell BK658.out 0).trans rfl
   have hfzw99_gb658_0 := blk_frozen BK658.out 0
   have hczw99_gb658_1 : w99.cell? ⟨gb658, 1, none⟩ = some (.slice none 0 0) := (blk_cell BK658.out 1).trans rfl
   have hfzw99_gb658_1 := blk_frozen BK658.out 1
   have hczw99_gb669_0 : w99.cell? ⟨gb669, 0, none⟩ = some (.int .i64 t659) := (blk_cell BK669.out 0).trans rfl
   have hfzw99_gb669_0 := blk_frozen BK669.out 0
   have hczw99_gb669_1 : w99.cell? ⟨gb669, 1, none⟩ = some (.int .i64 t660) := (blk_cell BK669.out 1).trans rfl
   have hfzw99_gb669_1 := blk_frozen BK669.out 1
   have hczw99_gb669_2 : w99.cell? ⟨gb669, 2, none⟩ = some (.int .i64 t661) := (blk_cell BK669.out 2).trans rfl
   have hfzw99_gb669_2 := blk_frozen BK669.out 2
   have hczw99_gb669_3 : w99.cell? ⟨gb669, 3, none⟩ = some (.int .i64 t662) := (blk_cell BK669.out 3).trans rfl
   have hfzw99_gb669_3 := blk_frozen BK669.out 3
   have hczw99_gb669_4 : w99.cell? ⟨gb669, 4, none⟩ = some (.int .i64 (wrap64 (t663 - 1))) := (blk_cell BK669.out 4).trans rfl
   have hfzw99_gb669_4 := blk_frozen BK669.out 4
   have hczw99_gb669_5 : w99.cell? ⟨gb669, 5, none⟩ = some (.int .i64 t664) := (blk_cell BK669.out 5).trans rfl
   have hfzw99_gb669_5 := blk_frozen BK669.out 5
   have hczw99_gb669_6 : w99.cell? ⟨gb669, 6, none⟩ = some (.int .i64 t665) := (blk_cell BK669.out 6).trans rfl
   have hfzw99_gb669_6 := blk_frozen BK669.out 6
   have hczw99_gb669_7 : w99.cell? ⟨gb669, 7, none⟩ = some (.slice Ao18 t666.length co18) := (blk_cell BK669.out 7).trans rfl
   have hfzw99_gb669_7 := blk_frozen BK669.out 7
   go_wp2_with (first | ((with_reducible refine gate_callee (f := 61) rfl ?_); refine goesL_ (some 25) rfl rfl Try.func61 (by kernel_rfl) rfl #[.agg #[.int .i64 t660, .int .i64 t661, .int .i64 t662, .int .i64 (wrap64 (t663 - 1)), .int .i64 t664, .int .i64 t665, .slice Ao18 t666.length co18]] rfl (by (try simp only [List.map_toArray, List.map_cons, List.map_nil]); first | done | rfl | (simp only [List.length_drop, List.length_take]; rfl)) ?_; (with_reducible refine (spec_l2Build.calls k t660 t661 t662 (wrap64 (t663 - 1)) t664 t665 _ _ t666 t670 _ ?side1 ?side2 A12.out).mono ?_); (case side1 => refine (Kd.R_reads' (e := 5) (base := w.heap.size) (ok := fun k_ => True) (n := t666.length) (c := co18) ?_).2.2; exact HO668.out); (case side2 => exact (Kd.R_reads' HO668.out).2.1); rintro e w19 ⟨v671, rfl, ho0, hb⟩; refine ⟨_, rfl, ?_⟩; have n0_ := Aside0.mk (Kd.R_elder' HO668.out (Kd.R_base ho0) hb); have n1_ := Aside0.mk (Kd.R_lower (Kd.R_new' ho0 (Kd.R_lt HO668.out)) (below_size (by repeat (first | (with_reducible first | exact HB.out | apply below_alloc | apply pw_below_drewN | apply below_drew1 | refine below_set ?_ GE658.out | refine below_set ?_ GE669.out) | exact HB.out)))); have n2_ := Aside0.mk (blk_below (g := gb658) (o := .cells #[.int .i64 0, .slice none 0 0] 29 (0, 0)) BK658.out hb); have n3_ := Aside0.mk (blk_below (g := gb669) (o := .cells #[.int .i64 t659, .int .i64 t660, .int .i64 t661, .int .i64 t662, .int .i64 (wrap64 (t663 - 1)), .int .i64 t664, .int .i64 t665, .slice Ao18 t666.length co18] 36 (0, 0)) BK669.out hb); have n4_ := Aside0.mk (below_step (by repeat (first | (with_reducible first | exact HB.out | apply below_alloc | apply pw_below_drewN | apply below_drew1 | refine below_set ?_ GE658.out | refine below_set ?_ GE669.out) | exact HB.out)) hb); clear HO668; clear BK658; clear BK669; clear HB; have HO668 := n0_; have HO672 := n1_; have BK658 := n2_; have BK669 := n3_; have HB := n4_; clear n0_ n1_ n2_ n3_ n4_; (try clear hb); (try clear hb2); (try clear hk); (try clear hi); (try clear ho0); obtain ⟨Ao20, co20, eo20⟩ := Kd.R_slice HO672.out; subst eo20; have hcz21_0 : w19.cell? ⟨gb658, 0, none⟩ = some (.int .i64 0) := (blk_cell BK658.out 0).trans rfl; have hcz21_1 : w19.cell? ⟨gb658, 1, none⟩ = some (.slice none 0 0) := (blk_cell BK658.out 1).trans rfl; have hfz21_0 := blk_frozen BK658.out 0; have hfz21_1 := blk_frozen BK658.out 1))
   refine bodyPost_ret (results_cell_row rfl _ _ gb658 29 #[.int .i64 0, .slice Ao20 t670.length co20] (0, 0) _ rfl (by (with_reducible repeat (first | refine blk_drewN ?_ _ | refine blk_drew ?_ | refine blk_alloc ?_ _)); refine blk_put (cs := #[.int .i64 0, .slice none 0 0]) ?_ 1 _ rfl; (with_reducible repeat (first | refine blk_drewN ?_ _ | refine blk_drew ?_ | refine blk_alloc ?_ _)); refine blk_put (cs := #[.int .i64 0, .slice none 0 0]) ?_ 0 _ rfl; (with_reducible repeat (first | refine blk_drewN ?_ _ | refine blk_drew ?_ | refine blk_alloc ?_ _)); exact BK658.out) Try.underlying29 rfl (by kernel_rfl)) rfl ?_
   exact ⟨_, by first | rfl | (simp [errW_none, errW_some] <;> rfl) | (simp [*, errW_none, errW_some] <;> rfl), by (with_reducible repeat (first | apply Kd.R_alloc | apply Kd.R_drewN | apply Kd.R_drew)); exact Kd.R_mono (Kd.R_far (p := ⟨gb658, 1, none⟩) (Kd.R_far (p := ⟨gb658, 0, none⟩) (Kd.R_types HO672.out BK658.out (by decide)) (fun _ hk => hk.2) (.int .i64 0)) (fun _ hk => hk.2) (.slice Ao20 t670.length co20)) (fun _ hk => trivial), by repeat (first | (with_reducible first | exact HB.out | apply below_alloc | apply pw_below_drewN | apply below_drew1 | refine below_set ?_ GE658.out | refine below_set ?_ GE669.out) | exact HB.out)⟩
 ·rw [if_neg c3] at H
  have c3b0 : (t659 == 0) = false := beq_eq_false_iff_ne.mpr c3
  have c3b1 : (t659 != 0) = true := bne_iff_ne.mpr c3
  simp only [Option.some.injEq, Prod.mk.injEq] at H
  obtain ⟨rfl, rfl⟩ := H
  go_enter Try.func23, Try.ntmps23
  go_wp2_with (first | ((with_reducible refine gate_dst (N := 2) rfl ?_); refine box_event ?hg (N := 2) ?hd (cs := #[.int .i64 0, .slice none 0 0]) (t := 29) ?hr ?_; (case hd => rfl); (case hg => rfl); (case hr => first | (go_simp; done) | (go_simp; rfl)); intro gb658 hg w22 hbox hb; have n0_ := Aside0.mk (below_step (by repeat (first | (with_reducible first | exact HB.out | apply below_alloc | apply pw_below_drewN | apply below_drew1) | exact HB.out)) hb); have n1_ := Aside0.mk (hbox); have n2_ := Aside0.mk ((by rw [hg]; exact (below_size (by repeat (first | (with_reducible first | exact HB.out | apply below_alloc | apply pw_below_drewN | apply below_drew1) | exact HB.out))) : w.heap.size ≤ gb658)); have n3_ := Aside0.mk ((by rw [hg]; exact (below_size (by repeat (first | (with_reducible first | exact HB.out | apply below_alloc | apply pw_below_drewN | apply below_drew1) | exact HB.out))) : w.heap.size ≤ gb658)); clear HB; have HB := n0_; have BK658 := n1_; have GW658 := n2_; have GE658 := n3_; clear n0_ n1_ n2_ n3_; clear hb hbox hg) | ((with_reducible refine gate_callee (f := 15) rfl ?_); refine goesL_ (some 5) rfl rfl Try.func15 (by kernel_rfl) rfl #[.slice A0 l0.length c0] rfl (by (try simp only [List.map_toArray, List.map_cons, List.map_nil]); first | done | rfl | (simp only [List.length_drop, List.length_take]; rfl)) ?_; (with_reducible refine (spec_ParsePacket.calls k _ _ l0 t659 t660 t661 t662 t663 t664 t665 t666 _ ?side1 ?side2 A2.out).mono ?_); (case side1 => repeat (first | exact (Kd.C_below HR0.out HB.out) | (with_reducible refine Kd.C_alloc ?_ _) | (with_reducible refine Kd.C_drewN ?_ _) | (with_reducible refine Kd.C_drew ?_))); (case side2 => exact HC0.out); rintro e w23 ⟨v667, rfl, ho0, hb⟩; refine ⟨_, rfl, ?_⟩; have n0_ := Aside0.mk (Kd.R_lower ho0 (below_size (by repeat (first | (with_reducible first | exact HB.out | apply below_alloc | apply pw_below_drewN | apply below_drew1 | refine below_set ?_ GE658.out) | exact HB.out)))); have n1_ := Aside0.mk (blk_below (g := gb658) (o := .cells #[.int .i64 0, .slice none 0 0] 29 (0, 0)) (by (with_reducible repeat (first | refine blk_drewN ?_ _ | refine blk_drew ?_ | refine blk_alloc ?_ _)); exact BK658.out) hb); have n2_ := Aside0.mk (below_step (by repeat (first | (with_reducible first | exact HB.out | apply below_alloc | apply pw_below_drewN | apply below_drew1 | refine below_set ?_ GE658.out) | exact HB.out)) hb); clear BK658; clear HB; have HO668 := n0_; have BK658 := n1_; have HB := n2_; clear n0_ n1_ n2_; (try clear hb); (try clear hb2); (try clear hk); (try clear hi); (try clear ho0)) | ((with_reducible refine gate_dst (N := 3) rfl ?_); refine box_event ?hg (N := 3) ?hd (cs := #[.int .i64 0, .int .i64 0, .int .i64 0, .int .i64 0, .int .i64 0, .int .i64 0, .int .i64 0, .slice none 0 0]) (t := 36) ?hr ?_; (case hd => rfl); (case hg => rfl); (case hr => first | (go_simp; done) | (go_simp; rfl)); intro gb669 hg w24 hbox hb; have n0_ := Aside0.mk (Kd.R_below (by (with_reducible repeat (first | apply Kd.R_alloc | apply Kd.R_drewN | apply Kd.R_drew)); exact HO668.out) hb); have n1_ := Aside0.mk (blk_below (g := gb658) (o := .cells #[.int .i64 0, .slice none 0 0] 29 (0, 0)) (by (with_reducible repeat (first | refine blk_drewN ?_ _ | refine blk_drew ?_ | refine blk_alloc ?_ _)); exact BK658.out) hb); have n2_ := Aside0.mk (below_step (by repeat (first | (with_reducible first | exact HB.out | apply below_alloc | apply pw_below_drewN | apply below_drew1 | refine below_set ?_ GE658.out) | exact HB.out)) hb); have n3_ := Aside0.mk (hbox); have n4_ := Aside0.mk ((by rw [hg]; exact (below_size (by repeat (first | (with_reducible first | exact HB.out | apply below_alloc | apply pw_below_drewN | apply below_drew1 | refine below_set ?_ GE658.out) | exact HB.out))) : w.heap.size ≤ gb669)); have n5_ := Aside0.mk ((by rw [hg]; exact (below_size (by repeat (first | (with_reducible first | exact HB.out | apply below_alloc | apply pw_below_drewN | apply below_drew1 | refine below_set ?_ GE658.out) | exact HB.out))) : w.heap.size ≤ gb669)); have n6_ := Aside0.mk ((by rw [hg]; exact Nat.ne_of_lt (blk_lt (g := gb658) (o := .cells #[.int .i64 0, .slice none 0 0] 29 (0, 0)) (by (with_reducible repeat (first | refine blk_drewN ?_ _ | refine blk_drew ?_ | refine blk_alloc ?_ _)); exact BK658.out)) : gb658 ≠ gb669)); have n7_ := Aside0.mk ((by rw [hg]; exact Nat.ne_of_gt (blk_lt (g := gb658) (o := .cells #[.int .i64 0, .slice none 0 0] 29 (0, 0)) (by (with_reducible repeat (first | refine blk_drewN ?_ _ | refine blk_drew ?_ | refine blk_alloc ?_ _)); exact BK658.out)) : gb669 ≠ gb658)); clear HO668; clear BK658; clear HB; have HO668 := n0_; have BK658 := n1_; have HB := n2_; have BK669 := n3_; have GW669 := n4_; have GE669 := n5_; have NB658_669 := n6_; have NB669_658 := n7_; clear n0_ n1_ n2_ n3_ n4_ n5_ n6_ n7_; clear hb hbox hg; have hnb25 := NB669_658.out; have hnc25 := NB658_669.out; have hcz26_0 : w24.cell? ⟨gb669, 0, none⟩ = some (.int .i64 0) := (blk_cell BK669.out 0).trans rfl; have hcz26_1 : w24.cell? ⟨gb669, 1, none⟩ = some (.int .i64 0) := (blk_cell BK669.out 1).trans rfl; have hcz26_2 : w24.cell? ⟨gb669, 2, none⟩ = some (.int .i64 0) := (blk_cell BK669.out 2).trans rfl; have hcz26_3 : w24.cell? ⟨gb669, 3, none⟩ = some (.int .i64 0) := (blk_cell BK669.out 3).trans rfl; have hcz26_4 : w24.cell? ⟨gb669, 4, none⟩ = some (.int .i64 0) := (blk_cell BK669.out 4).trans rfl; have hcz26_5 : w24.cell? ⟨gb669, 5, none⟩ = some (.int .i64 0) := (blk_cell BK669.out 5).trans rfl; have hcz26_6 : w24.cell? ⟨gb669, 6, none⟩ = some (.int .i64 0) := (blk_cell BK669.out 6).trans rfl; have hcz26_7 : w24.cell? ⟨gb669, 7, none⟩ = some (.slice none 0 0) := (blk_cell BK669.out 7).trans rfl; have hfz26_0 := blk_frozen BK669.out 0; have hfz26_1 := blk_frozen BK669.out 1; have hfz26_2 := blk_frozen BK669.out 2; have hfz26_3 := blk_frozen BK669.out 3; have hfz26_4 := blk_frozen BK669.out 4; have hfz26_5 := blk_frozen BK669.out 5; have hfz26_6 := blk_frozen BK669.out 6; have hfz26_7 := blk_frozen BK669.out 7; obtain ⟨Ao27, co27, eo27⟩ := Kd.R_slice HO668.out; subst eo27; have hcz28_0 : w24.cell? ⟨gb658, 0, none⟩ = some (.int .i64 0) := (blk_cell BK658.out 0).trans rfl; have hcz28_1 : w24.cell? ⟨gb658, 1, none⟩ = some (.slice none 0 0) := (blk_cell BK658.out 1).trans rfl; have hfz28_0 := blk_frozen BK658.out 0; have hfz28_1 := blk_frozen BK658.out 1))
  refine bodyPost_ret (results_cell_row rfl _ _ gb658 29 #[.int .i64 t659, .slice none 0 0] (0, 0) _ rfl (by (with_reducible repeat (first | refine blk_drewN ?_ _ | refine blk_drew ?_ | refine blk_alloc ?_ _)); refine blk_put (cs := #[.int .i64 t659, .slice none 0 0]) ?_ 1 _ rfl; (with_reducible repeat (first | refine blk_drewN ?_ _ | refine blk_drew ?_ | refine blk_alloc ?_ _)); refine blk_put (cs := #[.int .i64 0, .slice none 0 0]) ?_ 0 _ rfl; (with_reducible repeat (first | refine blk_drewN ?_ _ | refine blk_drew ?_ | refine blk_alloc ?_ _)); refine blk_far ?_ NB658_669.out _; (with_reducible repeat (first | refine blk_drewN ?_ _ | refine blk_drew ?_ | refine blk_alloc ?_ _)); refine blk_far ?_ NB658_669.out _; (with_reducible repeat (first | refine blk_drewN ?_ _ | refine blk_drew ?_ | refine blk_alloc ?_ _)); refine blk_far ?_ NB658_669.out _; (with_reducible repeat (first | refine blk_drewN ?_ _ | refine blk_drew ?_ | refine blk_alloc ?_ _)); refine blk_far ?_ NB658_669.out _; (with_reducible repeat (first | refine blk_drewN ?_ _ | refine blk_drew ?_ | refine blk_alloc ?_ _)); refine blk_far ?_ NB658_669.out _; (with_reducible repeat (first | refine blk_drewN ?_ _ | refine blk_drew ?_ | refine blk_alloc ?_ _)); refine blk_far ?_ NB658_669.out _; (with_reducible repeat (first | refine blk_drewN ?_ _ | refine blk_drew ?_ | refine blk_alloc ?_ _)); refine blk_far ?_ NB658_669.out _; (with_reducible repeat (first | refine blk_drewN ?_ _ | refine blk_drew ?_ | refine blk_alloc ?_ _)); refine blk_far ?_ NB658_669.out _; (with_reducible repeat (first | refine blk_drewN ?_ _ | refine blk_drew ?_ | refine blk_alloc ?_ _)); exact BK658.out) Try.underlying29 rfl (by kernel_rfl)) rfl ?_
  exact ⟨_, by first | rfl | (simp [errW_none, errW_some] <;> rfl) | (simp [*, errW_none, errW_some] <;> rfl), by first | exact Kd.R_nil _ _ _ _ _ | exact Kd.N_nil _ _ _ _ _ | exact Kd.V_nil _ _ _ _ _ | exact Kd.Q_nil _ _ _ _ _ | exact Kd.S_nil _ _ _ _ _, by repeat (first | (with_reducible first | exact HB.out | apply below_alloc | apply pw_below_drewN | apply below_drew1 | refine below_set ?_ GE658.out | refine below_set ?_ GE669.out) | exact HB.out)⟩
end Go.Proofs.Ytidejdfbapjfiaa.G
namespace Go.Proofs.Ytidejdfbapjfiaa.G
open Go.RowKit Go.Proofs.YtidejdfbapjfiaaW.PrintWords Go.Proofs.YtidejdfbapjfiaaW.PrintLast Go.Proofs.YtidejdfbapjfiaaW.PrintMore
attribute [local go_sem] max2_int min2_int max_two min_two max_three min_three max_four min_four   -- for this text's walks alone
set_option linter.unusedVariables false
set_option linter.unusedSimpArgs false
def impl_take.l0 : Nat → Int → List Int → Int → Int → Option (Int)
 | 0, _, _, _, _ => none
 | k + 1, x3, x6, x7, x8 => if x8 < x7 then (if 0 ≤ x8 then (if x8 < (x6.length : Int) then (impl_take.l0 k (Go.bits .or .i64 (wrap64 (x3 * 256)) (wrap64 (rd x6 x8))) x6 x7 (wrap64 (x8 + 1))) else (none)) else (none)) else (some x3)
def impl_take.f (k : Nat) (l0 : List Int) : Option (Int) := impl_take.l0 k 0 l0 (l0.length : Int) 0
set_option maxHeartbeats 8000000 in
set_option maxRecDepth 100000 in
theorem impl_take.calls (k : Nat) (A0 : Option Addr) (c0 : Nat) (l0 : List Int) (r : Int) (w : World) (hr0 : Kd.C (Kd.int .u8) w A0 l0.length l0) (hc0 : l0.length ≤ c0) (h : impl_take.f k l0 = some r) :
  Calls Try.prog 42 #[.slice A0 l0.length c0] w fun e w' => e = .returned (.int .i64 r) ∧ Drawn0 w w' := by
 have HR0 := Aside0.mk hr0
 have HC0 := Aside0.mk hc0
 clear hr0 hc0
 have H : (impl_take.l0 k 0 l0 (l0.length : Int) 0) = some r := h
 clear h
 have H' := Aside0.mk H
 clear H
 go_enter Try.func42, Try.ntmps42
 go_wp2
 go_loopg [3, 8] k (fun kq v3 v8 w' => ∃ (x3_1 : Int) (x8_1 : Int), v3 = .int .i64 x3_1 ∧ v8 = .int .i64 x8_1 ∧ Aside0 (impl_take.l0 kq x3_1 l0 (l0.length : Int) x8_1 = some r) ∧ Aside0 (kq ≤ k) ∧ Drawn0 w w')
 case atStart => exact ⟨(0), (0), (by first | rfl | (simp; done) | (simp [*]; done)), (by first | rfl | (simp; done) | (simp [*]; done)), H', ⟨Nat.le_refl _⟩, by repeat (first | exact Drawn0.refl _ | apply Drawn0.step)⟩
 case round =>
  clear H'
  obtain ⟨x3_1, x8_1, rfl, rfl, HA, HK1, ⟨m1, rfl⟩⟩ := hrel
  cases gk with
  | zero => exact absurd HA.out (by simp [impl_take.l0])
  | succ k1 =>
   have H := HA.out
   clear HA
   simp only [impl_take.l0] at H
   by_cases c2 : x8_1 < (l0.length : Int)
   ·rw [if_pos c2] at H
    have c2b0 : decide (x8_1 < (l0.length : Int)) = true := decide_eq_true c2
    clear c2
    by_cases c3 : 0 ≤ x8_1
    ·rw [if_pos c3] at H
     have c3b0 : decide (0 ≤ x8_1) = true := decide_eq_true c3
     clear c3
     by_cases c4 : x8_1 < (l0.length : Int)
     ·rw [if_pos c4] at H
      have c4b0 : decide (x8_1 < (l0.length : Int)) = true := decide_eq_true c4
      clear c4
      have H' := Aside0.mk H
      clear H
      have p238 : 0 ≤ (x8_1 : Int) := of_decide_eq_true (by first | (with_reducible assumption) | assumption)
      have q238 : x8_1 < (l0.length : Int) := of_decide_eq_true (by first | (with_reducible assumption) | assumption)
      obtain ⟨ad238, e238, hx238_0⟩ := Kd.at_int HR0.out x8_1 p238 q238
      cases e238
      replace p238 := eq_true p238
      replace q238 := eq_true q238
      go_wp2
      go_roundg k1
      case measure => have := HK1.out; omega
      case rel => exact ⟨(Go.bits .or .i64 (wrap64 (x3_1 * 256)) (wrap64 (rd l0 x8_1))), (wrap64 (x8_1 + 1)), (by first | rfl | (simp; done) | (simp [*]; done)), (by first | rfl | (simp; done) | (simp [*]; done)), H', ⟨by have := HK1.out; omega⟩, by repeat (first | exact Drawn0.refl _ | apply Drawn0.step)⟩
     ·rw [if_neg c4] at H
      exact absurd H (by simp)
    ·rw [if_neg c3] at H
     exact absurd H (by simp)
   ·rw [if_neg c2] at H
    have c2b0 : decide (x8_1 < (l0.length : Int)) = false := decide_eq_false c2
    clear c2
    obtain rfl := Option.some.inj H
    go_wp2
    go_ret
    exact ⟨by first | rfl | (simp; done) | (simp [*]; done), by repeat (first | exact Drawn0.refl _ | apply Drawn0.step)⟩
end Go.Proofs.Ytidejdfbapjfiaa.G
namespace Go.Proofs.Ytidejdfbapjfiaa.G
open Go.RowKit Go.Proofs.YtidejdfbapjfiaaW.PrintWords Go.Proofs.YtidejdfbapjfiaaW.PrintLast Go.Proofs.YtidejdfbapjfiaaW.PrintMore
attribute [local go_sem] max2_int min2_int max_two min_two max_three min_three max_four min_four   -- for this text's walks alone
set_option linter.unusedVariables false
set_option linter.unusedSimpArgs false
def slices_Clone_byte_byte.f (l0 : List (Int)) : Option (List (Int)) := if l0.length * 1 ≤ 140737488355328 then some l0 else none
set_option maxHeartbeats 4000000 in
set_option maxRecDepth 100000 in
theorem slices_Clone_byte_byte.calls (A0 : Option Addr) (c0 : Nat) (l0 : List (Int)) (r : List (Int)) (w : World) (hr0 : Kd.C (Kd.int .u8) w A0 l0.length l0) (hc0 : l0.length ≤ c0) (h : slices_Clone_byte_byte.f l0 = some r) :
    Calls Try.prog 43 #[.slice A0 l0.length c0] w fun e w' => ∃ v0_ : Value, e = .returned (v0_) ∧ Kd.R (Kd.int .u8) 5 w' w.heap.size (fun _ => True) v0_ r ∧ Below w.heap.size w w' := by
  unfold slices_Clone_byte_byte.f at h
  by_cases hb : l0.length * 1 ≤ 140737488355328
  · rw [if_pos hb] at h
    obtain rfl := Option.some.inj h
    clear h
    have HL := Aside0.mk hb
    clear hb
    rcases A0 with _ | ad
    · obtain rfl : l0 = [] := by
        rcases Nat.eq_zero_or_pos l0.length with h0 | h0
        · exact List.eq_nil_of_length_eq_zero h0
        · obtain ⟨_, h, _⟩ := hr0.2.2 h0
          cases h
      have hq := fun (W : World) => Lib.run_eql_slice_nil (P := Try.prog) W 22 5 none 0 c0 0 0 Try.underlying22
      clear hr0
      go_enter Try.func43, Try.ntmps43
      go_wp2
      go_ret
      exact ⟨_, rfl, Kd.R_nil _ _ _ _ _, Below.refl _ _⟩
    · have HR := Aside0.mk hr0
      clear hr0
      have HB := Aside0.mk (Below.refl w.heap.size w)
      have hq := fun (W : World) => Lib.run_eql_slice_nil (P := Try.prog) W 22 5 (some ad) l0.length c0 0 0 Try.underlying22
      go_enter Try.func43, Try.ntmps43
      go_wp2_with (first | ((with_reducible refine gate_dst (N := 5) rfl ?_); refine Kd.R_lit (Kd.int .u8) _ 5 ?hg (N := 5) ?hd (xs := ([] : List (Int))) (inner := []) (ok := fun _ => True) (okp := fun _ => True) ?hr ?hp (fun _ hk => hk) trivial (Below.refl _ _) (Nat.le_refl _) (by simp) ?_; (case hd => rfl); (case hg => rfl); (case hr => first | (go_simp; done) | (go_simp; rfl)); (case hp => exact (Reps.none _ _)); intro v103 w3 ho4 hb hg_ hnew_; clear hg_ hnew_; have n0_ := Aside0.mk (Kd.R_lower ho4 (below_size HB.out)); have n1_ := Aside0.mk (below_step HB.out hb); have n2_ := Aside0.mk (Kd.C_below HR.out (by first | exact hb | exact below_step HB.out hb)); clear HB HR; have HO104 := n0_; have HB := n1_; have HR := n2_; clear n0_ n1_ n2_; clear hb ho4) | ((with_reducible refine gate_builtin (b := .append) (xs := #[.tmp 5, .tmp 6]) rfl ?_); at_builtin; refine Kd.R_append_rows (Kd.int .u8) (Rr := (Kd.int .u8).K w3) (w0 := w) w.heap.size rfl (.tmp 5) (.tmp 6) 22 5 (.int .u8 0) 1 rfl Try.underlying22 info5 rfl (by decide) (by omega) v103 [] l0 (some ad) l0.length c0 (fun _ => True) (fun _ => False) rfl rfl ?aO ?aR (fun _ _ h => h) (fun _ hk => hk.elim) (fun _ _ => trivial) ?aB ?aS ?aL ?_; (case aO => exact HO104.out); (case aR => exact HR.out); (case aB => exact HB.out); (case aS => exact below_size HB.out); (case aL => have := HL.out; simp; omega); intro v106 w10 ho hb hg hat; have n0_ := Aside0.mk (hb); have n1_ := Aside0.mk (ho); clear HB HO104; have HB := n0_; have HO107 := n1_; clear n0_ n1_; clear ho hb hg hat))
      go_ret
      exact ⟨_, rfl, HO107.out, HB.out⟩
  · rw [if_neg hb] at h; cases h
end Go.Proofs.Ytidejdfbapjfiaa.G
namespace Go.Proofs.Ytidejdfbapjfiaa.G
open Go.RowKit Go.Proofs.YtidejdfbapjfiaaW.PrintWords Go.Proofs.YtidejdfbapjfiaaW.PrintLast Go.Proofs.YtidejdfbapjfiaaW.PrintMore
attribute [local go_sem] max2_int min2_int max_two min_two max_three min_three max_four min_four   -- for this text's walks alone
set_option linter.unusedVariables false
set_option linter.unusedSimpArgs false
def impl_fold.l0 : Nat → Int → Option (Int)
 | 0, _ => none
 | k + 1, x0 => if x0 ≥ 65536 then (impl_fold.l0 k (wrap64 ((Int.tmod x0 65536) + (wrap64 (Int.tdiv x0 65536))))) else (some x0)
def impl_fold.f (k : Nat) (a0 : Int) : Option (Int) := impl_fold.l0 k a0
set_option maxHeartbeats 8000000 in
set_option maxRecDepth 100000 in
theorem impl_fold.calls (k : Nat) (a0 : Int) (r : Int) (w : World) (h : impl_fold.f k a0 = some r) :
  Calls Try.prog 76 #[.int .i64 a0] w fun e w' => e = .returned (.int .i64 r) ∧ Drawn0 w w' := by
 have H : (impl_fold.l0 k a0) = some r := h
 clear h
 have H' := Aside0.mk H
 clear H
 go_enter Try.func76, Try.ntmps76
 go_wp2
 go_loopg [0] k (fun kq v0 w' => ∃ (x0_1 : Int), v0 = .int .i64 x0_1 ∧ Aside0 (impl_fold.l0 kq x0_1 = some r) ∧ Aside0 (kq ≤ k) ∧ Drawn0 w w')
 case atStart => exact ⟨(a0), (by first | rfl | (simp; done) | (simp [*]; done)), H', ⟨Nat.le_refl _⟩, by repeat (first | exact Drawn0.refl _ | apply Drawn0.step)⟩
 case round =>
  clear H'
  obtain ⟨x0_1, rfl, HA, HK1, ⟨m1, rfl⟩⟩ := hrel
  cases gk with
  | zero => exact absurd HA.out (by simp [impl_fold.l0])
  | succ k1 =>
   have H := HA.out
   clear HA
   simp only [impl_fold.l0] at H
   by_cases c2 : x0_1 ≥ 65536
   ·rw [if_pos c2] at H
    have c2b0 : decide (65536 ≤ x0_1) = true := decide_eq_true c2
    clear c2
    have H' := Aside0.mk H
    clear H
    go_wp2
    go_roundg k1
    case measure => have := HK1.out; omega
    case rel => exact ⟨(wrap64 ((Int.tmod x0_1 65536) + (wrap64 (Int.tdiv x0_1 65536)))), (by first | rfl | (simp; done) | (simp [*]; done)), H', ⟨by have := HK1.out; omega⟩, by repeat (first | exact Drawn0.refl _ | apply Drawn0.step)⟩
   ·rw [if_neg c2] at H
    have c2b0 : decide (65536 ≤ x0_1) = false := decide_eq_false c2
    clear c2
    obtain rfl := Option.some.inj H
    go_wp2
    go_ret
    exact ⟨by first | rfl | (simp; done) | (simp [*]; done), by repeat (first | exact Drawn0.refl _ | apply Drawn0.step)⟩
end Go.Proofs.Ytidejdfbapjfiaa.G
namespace Go.Proofs.Ytidejdfbapjfiaa.G
open Go.RowKit Go.Proofs.YtidejdfbapjfiaaW.PrintWords Go.Proofs.YtidejdfbapjfiaaW.PrintLast Go.Proofs.YtidejdfbapjfiaaW.PrintMore
attribute [local go_sem] max2_int min2_int max_two min_two max_three min_three max_four min_four   -- for this text's walks alone
set_option linter.unusedVariables false
set_option linter.unusedSimpArgs false
def impl_SumWords.l0 : Nat → Int → List Int → Int → Int → Option (Int)
 | 0, _, _, _, _ => none
 | k + 1, x3, x6, x7, x8 => if x8 < x7 then (if 0 ≤ x8 then (if x8 < (x6.length : Int) then (if (Int.tmod x8 2) = 0 then (impl_SumWords.l0 k (wrap64 (x3 + (wrap64 (256 * (wrap64 (rd x6 x8)))))) x6 x7 (wrap64 (x8 + 1))) else (impl_SumWords.l0 k (wrap64 (x3 + (wrap64 (rd x6 x8)))) x6 x7 (wrap64 (x8 + 1)))) else (none)) else (none)) else ((impl_fold.f k x3).bind fun t468 => (some (wrap64 (65535 - t468))))
def impl_SumWords.f (k : Nat) (l0 : List Int) : Option (Int) := impl_SumWords.l0 k 0 l0 (l0.length : Int) 0
set_option maxHeartbeats 8000000 in
set_option maxRecDepth 100000 in
theorem impl_SumWords.calls (k : Nat) (A0 : Option Addr) (c0 : Nat) (l0 : List Int) (r : Int) (w : World) (hr0 : Kd.C (Kd.int .u8) w A0 l0.length l0) (hc0 : l0.length ≤ c0) (h : impl_SumWords.f k l0 = some r) :
  Calls Try.prog 72 #[.slice A0 l0.length c0] w fun e w' => e = .returned (.int .i64 r) ∧ Drawn0 w w' := by
 have HR0 := Aside0.mk hr0
 have HC0 := Aside0.mk hc0
 clear hr0 hc0
 have H : (impl_SumWords.l0 k 0 l0 (l0.length : Int) 0) = some r := h
 clear h
 have H' := Aside0.mk H
 clear H
 go_enter Try.func72, Try.ntmps72
 go_wp2
 go_loopg [3, 8] k (fun kq v3 v8 w' => ∃ (x3_1 : Int) (x8_1 : Int), v3 = .int .i64 x3_1 ∧ v8 = .int .i64 x8_1 ∧ Aside0 (impl_SumWords.l0 kq x3_1 l0 (l0.length : Int) x8_1 = some r) ∧ Aside0 (kq ≤ k) ∧ Drawn0 w w')
 case atStart => exact ⟨(0), (0), (by first | rfl | (simp; done) | (simp [*]; done)), (by first | rfl | (simp; done) | (simp [*]; done)), H', ⟨Nat.le_refl _⟩, by repeat (first | exact Drawn0.refl _ | apply Drawn0.step)⟩
 case round =>
  clear H'
  obtain ⟨x3_1, x8_1, rfl, rfl, HA, HK1, ⟨m1, rfl⟩⟩ := hrel
  cases gk with
  | zero => exact absurd HA.out (by simp [impl_SumWords.l0])
  | succ k1 =>
   have H := HA.out
   clear HA
   simp only [impl_SumWords.l0] at H
   by_cases c2 : x8_1 < (l0.length : Int)
   ·rw [if_pos c2] at H
    have c2b0 : decide (x8_1 < (l0.length : Int)) = true := decide_eq_true c2
    clear c2
    by_cases c3 : 0 ≤ x8_1
    ·rw [if_pos c3] at H
     have c3b0 : decide (0 ≤ x8_1) = true := decide_eq_true c3
     clear c3
     by_cases c4 : x8_1 < (l0.length : Int)
     ·rw [if_pos c4] at H
      have c4b0 : decide (x8_1 < (l0.length : Int)) = true := decide_eq_true c4
      clear c4
      by_cases c5 : (Int.tmod x8_1 2) = 0
      ·rw [if_pos c5] at H
       have c5b0 : ((Int.tmod x8_1 2) == 0) = true := beq_iff_eq.mpr c5
       have c5b1 : ((Int.tmod x8_1 2) != 0) = false := bne_eq_false_iff_eq.mpr c5
       clear c5
       have H' := Aside0.mk H
       clear H
       have p467 : 0 ≤ (x8_1 : Int) := of_decide_eq_true (by first | (with_reducible assumption) | assumption)
       have q467 : x8_1 < (l0.length : Int) := of_decide_eq_true (by first | (with_reducible assumption) | assumption)
       obtain ⟨ad467, e467, hx467_0⟩ := Kd.at_int HR0.out x8_1 p467 q467
       cases e467
       replace p467 := eq_true p467
       replace q467 := eq_true q467
       go_wp2
       go_roundg k1
       case measure => have := HK1.out; omega
       case rel => exact ⟨(wrap64 (x3_1 + (wrap64 (256 * (wrap64 (rd l0 x8_1)))))), (wrap64 (x8_1 + 1)), (by first | rfl | (simp; done) | (simp [*]; done)), (by first | rfl | (simp; done) | (simp [*]; done)), H', ⟨by have := HK1.out; omega⟩, by repeat (first | exact Drawn0.refl _ | apply Drawn0.step)⟩
      ·rw [if_neg c5] at H
       have c5b0 : ((Int.tmod x8_1 2) == 0) = false := beq_eq_false_iff_ne.mpr c5
       have c5b1 : ((Int.tmod x8_1 2) != 0) = true := bne_iff_ne.mpr c5
       have H' := Aside0.mk H
       clear H
       have p467 : 0 ≤ (x8_1 : Int) := of_decide_eq_true (by first | (with_reducible assumption) | assumption)
       have q467 : x8_1 < (l0.length : Int) := of_decide_eq_true (by first | (with_reducible assumption) | assumption)
       obtain ⟨ad467, e467, hx467_0⟩ := Kd.at_int HR0.out x8_1 p467 q467
       cases e467
       replace p467 := eq_true p467
       replace q467 := eq_true q467
       go_wp2
       go_roundg k1
       case measure => have := HK1.out; omega
       case rel => exact ⟨(wrap64 (x3_1 + (wrap64 (rd l0 x8_1)))), (wrap64 (x8_1 + 1)), (by first | rfl | (simp; done) | (simp [*]; done)), (by first | rfl | (simp; done) | (simp [*]; done)), H', ⟨by have := HK1.out; omega⟩, by repeat (first | exact Drawn0.refl _ | apply Drawn0.step)⟩
     ·rw [if_neg c4] at H
      exact absurd H (by simp)
    ·rw [if_neg c3] at H
     exact absurd H (by simp)
   ·rw [if_neg c2] at H
    have c2b0 : decide (x8_1 < (l0.length : Int)) = false := decide_eq_false c2
    clear c2
    replace H := Option.bind_eq_some_iff.mp H
    obtain ⟨t468, A60, H⟩ := H
    try dsimp only at H
    have A6 := Aside0.mk A60
    clear A60
    obtain rfl := Option.some.inj H
    go_wp2_with (first | ((with_reducible refine gate_callee (f := 76) rfl ?_); refine goesL_ (some 27) rfl rfl Try.func76 (by kernel_rfl) rfl #[.int .i64 x3_1] rfl (by (try simp only [List.map_toArray, List.map_cons, List.map_nil]); first | done | rfl | (simp only [List.length_drop, List.length_take]; rfl)) ?_; (with_reducible refine (impl_fold.calls k1 x3_1 t468 _ A6.out).mono ?_); rintro e w' ⟨rfl, ⟨nd, rfl⟩⟩; refine ⟨_, rfl, ?_⟩))
    go_ret
    exact ⟨by first | rfl | (simp; done) | (simp [*]; done), by repeat (first | exact Drawn0.refl _ | apply Drawn0.step)⟩
end Go.Proofs.Ytidejdfbapjfiaa.G
namespace Go.Proofs.Ytidejdfbapjfiaa.G
open Go.RowKit Go.Proofs.YtidejdfbapjfiaaW.PrintWords Go.Proofs.YtidejdfbapjfiaaW.PrintLast Go.Proofs.YtidejdfbapjfiaaW.PrintMore
attribute [local go_sem] max2_int min2_int max_two min_two max_three min_three max_four min_four   -- for this text's walks alone
set_option linter.unusedVariables false
set_option linter.unusedSimpArgs false
def impl_CheckWords.f (k : Nat) (l0 : List Int) : Option (Bool) := (impl_SumWords.f k l0).bind fun t469 => (some (t469 == 0))
set_option maxHeartbeats 8000000 in
set_option maxRecDepth 100000 in
theorem impl_CheckWords.calls (k : Nat) (A0 : Option Addr) (c0 : Nat) (l0 : List Int) (r : Bool) (w : World) (hr0 : Kd.C (Kd.int .u8) w A0 l0.length l0) (hc0 : l0.length ≤ c0) (h : impl_CheckWords.f k l0 = some r) :
  Calls Try.prog 36 #[.slice A0 l0.length c0] w fun e w' => e = .returned (.bool r) ∧ Drawn0 w w' := by
 have HR0 := Aside0.mk hr0
 have HC0 := Aside0.mk hc0
 clear hr0 hc0
 have H : ((impl_SumWords.f k l0).bind fun t469 => (some (t469 == 0))) = some r := h
 clear h
 replace H := Option.bind_eq_some_iff.mp H
 obtain ⟨t469, A20, H⟩ := H
 try dsimp only at H
 have A2 := Aside0.mk A20
 clear A20
 obtain rfl := Option.some.inj H
 go_enter Try.func36, Try.ntmps36
 go_wp2_with (first | ((with_reducible refine gate_callee (f := 72) rfl ?_); refine goesL_ (some 4) rfl rfl Try.func72 (by kernel_rfl) rfl #[.slice A0 l0.length c0] rfl (by (try simp only [List.map_toArray, List.map_cons, List.map_nil]); first | done | rfl | (simp only [List.length_drop, List.length_take]; rfl)) ?_; (with_reducible refine (impl_SumWords.calls k _ _ l0 t469 _ ?side1 ?side2 A2.out).mono ?_); (case side1 => repeat (first | exact HR0.out | (with_reducible refine Kd.C_alloc ?_ _) | (with_reducible refine Kd.C_drewN ?_ _) | (with_reducible refine Kd.C_drew ?_))); (case side2 => exact HC0.out); rintro e w' ⟨rfl, ⟨nd, rfl⟩⟩; refine ⟨_, rfl, ?_⟩))
 go_ret
 exact ⟨by first | rfl | (simp; done) | (simp [*]; done), by repeat (first | exact Drawn0.refl _ | apply Drawn0.step)⟩
end Go.Proofs.Ytidejdfbapjfiaa.G
namespace Go.Proofs.Ytidejdfbapjfiaa.G
open Go.RowKit Go.Proofs.YtidejdfbapjfiaaW.PrintWords Go.Proofs.YtidejdfbapjfiaaW.PrintLast Go.Proofs.YtidejdfbapjfiaaW.PrintMore
attribute [local go_sem] max2_int min2_int max_two min_two max_three min_three max_four min_four   -- for this text's walks alone
set_option linter.unusedVariables false
set_option linter.unusedSimpArgs false
def impl_in.f (a0 : Int) (a1 : Int) (a2 : Int) : Option (Bool) := if a0 ≥ a1 then (some (decide (a0 ≤ a2))) else (some false)
set_option maxHeartbeats 8000000 in
set_option maxRecDepth 100000 in
theorem impl_in.calls (a0 : Int) (a1 : Int) (a2 : Int) (r : Bool) (w : World) (h : impl_in.f a0 a1 a2 = some r) :
  Calls Try.prog 47 #[.int .i64 a0, .int .i64 a1, .int .i64 a2] w fun e w' => e = .returned (.bool r) ∧ Drawn0 w w' := by
 have H : (if a0 ≥ a1 then (some (decide (a0 ≤ a2))) else (some false)) = some r := h
 clear h
 by_cases c4 : a0 ≥ a1
 ·rw [if_pos c4] at H
  have c4b0 : decide (a1 ≤ a0) = true := decide_eq_true c4
  clear c4
  obtain rfl := Option.some.inj H
  go_enter Try.func47, Try.ntmps47
  go_wp2
  go_ret
  exact ⟨by first | rfl | (simp; done) | (simp [*]; done), by repeat (first | exact Drawn0.refl _ | apply Drawn0.step)⟩
 ·rw [if_neg c4] at H
  have c4b0 : decide (a1 ≤ a0) = false := decide_eq_false c4
  clear c4
  obtain rfl := Option.some.inj H
  go_enter Try.func47, Try.ntmps47
  go_wp2
  go_ret
  exact ⟨by first | rfl | (simp; done) | (simp [*]; done), by repeat (first | exact Drawn0.refl _ | apply Drawn0.step)⟩
end Go.Proofs.Ytidejdfbapjfiaa.G
namespace Go.Proofs.Ytidejdfbapjfiaa.G
open Go.RowKit Go.Proofs.YtidejdfbapjfiaaW.PrintWords Go.Proofs.YtidejdfbapjfiaaW.PrintLast Go.Proofs.YtidejdfbapjfiaaW.PrintMore
attribute [local go_sem] max2_int min2_int max_two min_two max_three min_three max_four min_four   -- for this text's walks alone
set_option linter.unusedVariables false
set_option linter.unusedSimpArgs false
def bytes_Equal.f (l0 : List Int) (l1 : List Int) : Option (Bool) := some ((strOfNums l0).toList == (strOfNums l1).toList)
set_option maxHeartbeats 8000000 in
set_option maxRecDepth 100000 in
theorem bytes_Equal.calls (A0 : Option Addr) (c0 : Nat) (l0 : List Int) (A1 : Option Addr) (c1 : Nat) (l1 : List Int) (r : Bool) (w : World) (hr0 : Kd.C (Kd.int .u8) w A0 l0.length l0) (hc0 : l0.length ≤ c0) (hr1 : Kd.C (Kd.int .u8) w A1 l1.length l1) (hc1 : l1.length ≤ c1) (h : bytes_Equal.f l0 l1 = some r) :
  Calls Try.prog 44 #[.slice A0 l0.length c0, .slice A1 l1.length c1] w fun e w' => e = .returned (.bool r) ∧ Drawn0 w w' := by
 have HR0 := Aside0.mk hr0
 have HC0 := Aside0.mk hc0
 clear hr0 hc0
 have HR1 := Aside0.mk hr1
 have HC1 := Aside0.mk hc1
 clear hr1 hc1
 have H : (some ((strOfNums l0).toList == (strOfNums l1).toList)) = some r := h
 clear h
 obtain rfl := Option.some.inj H
 have hcv3 := Kd.C_string (P := Try.prog) (A := A0) (c := c0) Try.underlying22 Try.underlying5 Try.underlying9 HR0.out
 have hcv4 := Kd.C_string (P := Try.prog) (A := A1) (c := c1) Try.underlying22 Try.underlying5 Try.underlying9 HR1.out
 go_enter Try.func44, Try.ntmps44
 go_wp2
 go_ret
 exact ⟨by first | rfl | (simp; done) | (simp [*]; done), by repeat (first | exact Drawn0.refl _ | apply Drawn0.step)⟩
end Go.Proofs.Ytidejdfbapjfiaa.G
namespace Go.Proofs.Ytidejdfbapjfiaa.G
open Go.RowKit Go.Proofs.YtidejdfbapjfiaaW.PrintWords Go.Proofs.YtidejdfbapjfiaaW.PrintLast Go.Proofs.YtidejdfbapjfiaaW.PrintMore
attribute [local go_sem] max2_int min2_int max_two min_two max_three min_three max_four min_four   -- for this text's walks alone
set_option linter.unusedVariables false
set_option linter.unusedSimpArgs false
def impl_headOk.f (k : Nat) (l0 : List Int) : Option (Bool) := (impl_in.f (l0.length : Int) 20 224).bind fun t470 => (if t470 = true then (if 0 < (l0.length : Int) then (if (rd l0 0) = 69 then (if 1 < (l0.length : Int) then (if (rd l0 1) = 0 then (if 4 ≤ 8 then (if 8 ≤ (l0.length : Int) then ((bytes_Equal.f ((l0.take 8).drop 4) (([0, 0, 64, 0] : List Int))).bind fun t477 => (if t477 = true then (if 2 ≤ 4 then (if 4 ≤ (l0.length : Int) then ((impl_take.f k ((l0.take 4).drop 2)).bind fun t479 => (some (t479 == (l0.length : Int)))) else (none)) else (none)) else (some false))) else (none)) else (none)) else (some false)) else (none)) else (some false)) else (none)) else (some false))
set_option maxHeartbeats 8000000 in
set_option maxRecDepth 100000 in
theorem impl_headOk.calls (k : Nat) (A0 : Option Addr) (c0 : Nat) (l0 : List Int) (r : Bool) (w : World) (hr0 : Kd.C (Kd.int .u8) w A0 l0.length l0) (hc0 : l0.length ≤ c0) (h : impl_headOk.f k l0 = some r) :
  Calls Try.prog 56 #[.slice A0 l0.length c0] w fun e w' => e = .returned (.bool r) ∧ Below w.heap.size w w' := by
 have HR0 := Aside0.mk hr0
 have HC0 := Aside0.mk hc0
 clear hr0 hc0
 have HB := Aside0.mk (Below.refl w.heap.size w)
 have H : ((impl_in.f (l0.length : Int) 20 224).bind fun t470 => (if t470 = true then (if 0 < (l0.length : Int) then (if (rd l0 0) = 69 then (if 1 < (l0.length : Int) then (if (rd l0 1) = 0 then (if 4 ≤ 8 then (if 8 ≤ (l0.length : Int) then ((bytes_Equal.f ((l0.take 8).drop 4) (([0, 0, 64, 0] : List Int))).bind fun t477 => (if t477 = true then (if 2 ≤ 4 then (if 4 ≤ (l0.length : Int) then ((impl_take.f k ((l0.take 4).drop 2)).bind fun t479 => (some (t479 == (l0.length : Int)))) else (none)) else (none)) else (some false))) else (none)) else (none)) else (some false)) else (none)) else (some false)) else (none)) else (some false))) = some r := h
 clear h
 replace H := Option.bind_eq_some_iff.mp H
 obtain ⟨t470, A20, H⟩ := H
 try dsimp only at H
 have A2 := Aside0.mk A20
 clear A20
 by_cases c3 : t470 = true
 ·subst c3
  rw [if_pos rfl] at H
  by_cases c4 : 0 < (l0.length : Int)
  ·rw [if_pos c4] at H
   have c4b0 : decide (0 < (l0.length : Int)) = true := decide_eq_true c4
   have c4b1 : decide (0 < l0.length) = true := decide_eq_true (by omega)
   clear c4
   by_cases c5 : (rd l0 0) = 69
   ·rw [if_pos c5] at H
    have c5b0 : ((rd l0 0) == 69) = true := beq_iff_eq.mpr c5
    have c5b1 : ((rd l0 0) != 69) = false := bne_eq_false_iff_eq.mpr c5
    clear c5
    by_cases c6 : 1 < (l0.length : Int)
    ·rw [if_pos c6] at H
     have c6b0 : decide (1 < (l0.length : Int)) = true := decide_eq_true c6
     have c6b1 : decide (1 < l0.length) = true := decide_eq_true (by omega)
     clear c6
     by_cases c7 : (rd l0 1) = 0
     ·rw [if_pos c7] at H
      have c7b0 : ((rd l0 1) == 0) = true := beq_iff_eq.mpr c7
      have c7b1 : ((rd l0 1) != 0) = false := bne_eq_false_iff_eq.mpr c7
      clear c7
      by_cases c8 : 4 ≤ 8
      ·rw [if_pos c8] at H
       have c8b0 := eq_true c8
       have c8b1 : decide (4 ≤ 8) = true := decide_eq_true c8
       clear c8
       by_cases c9 : 8 ≤ (l0.length : Int)
       ·rw [if_pos c9] at H
        have c9b0 := eq_true c9
        have c9b1 : decide (8 ≤ (l0.length : Int)) = true := decide_eq_true c9
        clear c9
        obtain ⟨y474, hy474⟩ : ∃ y_ : List Int, y_ = (([0, 0, 64, 0] : List Int)) := ⟨_, rfl⟩
        replace H : ((bytes_Equal.f ((l0.take 8).drop 4) y474).bind fun t477 => (if t477 = true then (if 2 ≤ 4 then (if 4 ≤ (l0.length : Int) then ((impl_take.f k ((l0.take 4).drop 2)).bind fun t479 => (some (t479 == (l0.length : Int)))) else (none)) else (none)) else (some false))) = some r := by first | (rw [hy474]; with_reducible exact H) | (have H2_ := (Option.bind_some _ _).symm.trans H; rw [hy474]; with_reducible exact H2_) | (have H2_ := (Option.bind_some _ _).symm.trans H; with_reducible exact H2_) | with_reducible exact H | (rw [hy474]; exact H) | exact H
        have Ny474 := Aside0.mk hy474
        clear hy474
        replace H := Option.bind_eq_some_iff.mp H
        obtain ⟨t477, A100, H⟩ := H
        try dsimp only at H
        have A10 := Aside0.mk A100
        clear A100
        by_cases c11 : t477 = true
        ·subst c11
         rw [if_pos rfl] at H
         by_cases c12 : 2 ≤ 4
         ·rw [if_pos c12] at H
          have c12b0 := eq_true c12
          have c12b1 : decide (2 ≤ 4) = true := decide_eq_true c12
          clear c12
          by_cases c13 : 4 ≤ (l0.length : Int)
          ·rw [if_pos c13] at H
           have c13b0 := eq_true c13
           have c13b1 : decide (4 ≤ (l0.length : Int)) = true := decide_eq_true c13
           clear c13
           replace H := Option.bind_eq_some_iff.mp H
           obtain ⟨t479, A140, H⟩ := H
           try dsimp only at H
           have A14 := Aside0.mk A140
           clear A140
           obtain rfl := Option.some.inj H
           go_enter Try.func56, Try.ntmps56
           go_wp2_with (first | ((with_reducible refine gate_callee (f := 47) rfl ?_); refine goesL_ (some 5) rfl rfl Try.func47 (by kernel_rfl) rfl #[.int .i64 (l0.length : Int), .int .i64 20, .int .i64 224] rfl (by (try simp only [List.map_toArray, List.map_cons, List.map_nil]); first | done | rfl | (simp only [List.length_drop, List.length_take]; rfl)) ?_; (with_reducible refine (impl_in.calls (l0.length : Int) 20 224 true _ A2.out).mono ?_); rintro e w' ⟨rfl, ⟨nd, rfl⟩⟩; refine ⟨_, rfl, ?_⟩; have p471 : 0 ≤ (0 : Int) := (by omega); have q471 : 0 < (l0.length : Int) := of_decide_eq_true (by first | (with_reducible assumption) | assumption); obtain ⟨ad471, e471, hx471_0⟩ := Kd.at_int HR0.out 0 p471 q471; cases e471; have qi471 : (0 < l0.length) = True := eq_true (by omega); (try rw [show ((0 : Int)).toNat = 0 from rfl] at hx471_0); (try rw [Addr.add_zero'] at hx471_0); replace p471 := eq_true p471; replace q471 := eq_true q471; have p472 : 0 ≤ (1 : Int) := (by omega); have q472 : 1 < (l0.length : Int) := of_decide_eq_true (by first | (with_reducible assumption) | assumption); obtain ⟨ad472, e472, hx472_0⟩ := Kd.at_int HR0.out 1 p472 q472; obtain rfl : ad471 = ad472 := (by injection e472); (try simp only [show (1 : Int).toNat = 1 from rfl, Nat.reduceMul, Nat.reduceEqDiff, Go.Addr.add, ↓reduceIte] at hx472_0); have qi472 : (1 < l0.length) = True := eq_true (by omega); (try rw [show ((1 : Int)).toNat = 1 from rfl] at hx472_0); replace p472 := eq_true p472; replace q472 := eq_true q472; obtain ⟨i015, hi015, _, hsz15, _⟩ := info_parts info5; obtain ⟨A15, hcut15, hA15, hC15⟩ := print_mid_of (P := Try.prog) (Value.int .u8) 0 22 5 .i64 .i64 Try.underlying22 hi015 hsz15 (some ad471) c0 l0 4 8 (by omega) (by first | omega | exact of_decide_eq_true (by first | (with_reducible assumption) | assumption)) (of_decide_eq_true (by first | (with_reducible assumption) | assumption)) HC0.out; have HR473 := Aside0.mk (Kd.C_of_reads (h1 := fun _ => rfl) (hA15 _ (Kd.reads_of_C HR0.out))); have HC473 := Aside0.mk hC15; clear hA15 hC15 hi015 hsz15) | ((with_reducible refine gate_dst (N := 20) rfl ?_); (try (refine gate_guard (by rfl) ?_; dsimp only)); refine Kd.R_lit (Kd.int .u8) _ 5 ?hg (N := 20) ?hd (xs := ([0, 0, 64, 0] : List Int)) (inner := [.int .u8 0, .int .u8 0, .int .u8 64, .int .u8 0]) (ok := fun _ => True) (okp := fun _ => True) ?hr ?hp (fun _ hk => hk) trivial (Below.refl _ _) (Nat.le_refl _) (by simp) ?_; (case hd => rfl); (case hg => rfl); (case hr => first | (go_simp; done) | (go_simp; rfl)); (case hp => exact (Reps.one (show Kd.M (Kd.int .u8) _ _ _ 0 [.int .u8 0] from rfl) (Reps.one (show Kd.M (Kd.int .u8) _ _ _ 0 [.int .u8 0] from rfl) (Reps.one (show Kd.M (Kd.int .u8) _ _ _ 64 [.int .u8 64] from rfl) (Reps.one (show Kd.M (Kd.int .u8) _ _ _ 0 [.int .u8 0] from rfl) (Reps.none _ _)))))); intro v475 w16 ho17 hb hg_ hnew_; clear hg_ hnew_; (first | rw [← Ny474.out] at ho17 | (simp only [Int.reduceToNat] at ho17; rw [← Ny474.out] at ho17)); have n0_ := Aside0.mk (Kd.R_lower ho17 (below_size (by repeat (first | (with_reducible first | exact HB.out | apply below_alloc | apply pw_below_drewN | apply below_drew1) | exact HB.out)))); have n1_ := Aside0.mk (below_step (by repeat (first | (with_reducible first | exact HB.out | apply below_alloc | apply pw_below_drewN | apply below_drew1) | exact HB.out)) hb); clear HB; have HO476 := n0_; have HB := n1_; clear n0_ n1_; clear hb ho17; obtain ⟨Ao18, co18, eo18⟩ := Kd.R_slice HO476.out; subst eo18) | (go_at_call 44; (try rw [show min 8 l0.length - 4 = ((l0.take 8).drop 4).length by simp only [List.length_drop, List.length_take]]); (with_reducible refine (bytes_Equal.calls _ _ ((l0.take 8).drop 4) _ _ y474 true _ ?side1 ?side2 ?side3 ?side4 A10.out).mono ?_); (case side1 => repeat (first | exact (Kd.C_below HR473.out HB.out) | (with_reducible refine Kd.C_alloc ?_ _) | (with_reducible refine Kd.C_drewN ?_ _) | (with_reducible refine Kd.C_drew ?_))); (case side2 => exact HC473.out); (case side3 => repeat (first | exact (Kd.R_reads' HO476.out).2.2 | (with_reducible refine Kd.C_alloc ?_ _) | (with_reducible refine Kd.C_drewN ?_ _) | (with_reducible refine Kd.C_drew ?_))); (case side4 => exact (Kd.R_reads' HO476.out).2.1); rintro e w' ⟨rfl, ⟨nd, rfl⟩⟩; obtain ⟨i019, hi019, _, hsz19, _⟩ := info_parts info5; obtain ⟨A19, hcut19, hA19, hC19⟩ := print_mid_of (P := Try.prog) (Value.int .u8) 0 22 5 .i64 .i64 Try.underlying22 hi019 hsz19 (some ad471) c0 l0 2 4 (by omega) (by first | omega | exact of_decide_eq_true (by first | (with_reducible assumption) | assumption)) (of_decide_eq_true (by first | (with_reducible assumption) | assumption)) HC0.out; have HR478 := Aside0.mk (Kd.C_of_reads (h1 := fun _ => rfl) (hA19 _ (Kd.reads_of_C HR0.out))); have HC478 := Aside0.mk hC19; clear hA19 hC19 hi019 hsz19) | (go_at_call 42; (try rw [show min 4 l0.length - 2 = ((l0.take 4).drop 2).length by simp only [List.length_drop, List.length_take]]); (with_reducible refine (impl_take.calls k _ _ ((l0.take 4).drop 2) t479 _ ?side1 ?side2 A14.out).mono ?_); (case side1 => repeat (first | exact (Kd.C_below HR478.out (by repeat (first | (with_reducible first | exact HB.out | apply below_alloc | apply pw_below_drewN | apply below_drew1) | exact HB.out))) | (with_reducible refine Kd.C_alloc ?_ _) | (with_reducible refine Kd.C_drewN ?_ _) | (with_reducible refine Kd.C_drew ?_))); (case side2 => exact HC478.out); rintro e w' ⟨rfl, ⟨nd, rfl⟩⟩))
           go_ret
           exact ⟨by first | rfl | (simp [errW_none, errW_some] <;> rfl) | (simp [*, errW_none, errW_some] <;> rfl), by repeat (first | (with_reducible first | exact HB.out | apply below_alloc | apply pw_below_drewN | apply below_drew1) | exact HB.out)⟩
          ·rw [if_neg c13] at H
           exact absurd H (by simp)
         ·rw [if_neg c12] at H
          exact absurd H (by simp)
        ·replace c11 := Bool.eq_false_iff.mpr c11
         subst c11
         rw [if_neg (show ¬ (false = true) by decide)] at H
         obtain rfl := Option.some.inj H
         go_enter Try.func56, Try.ntmps56
         go_wp2_with (first | ((with_reducible refine gate_callee (f := 47) rfl ?_); refine goesL_ (some 5) rfl rfl Try.func47 (by kernel_rfl) rfl #[.int .i64 (l0.length : Int), .int .i64 20, .int .i64 224] rfl (by (try simp only [List.map_toArray, List.map_cons, List.map_nil]); first | done | rfl | (simp only [List.length_drop, List.length_take]; rfl)) ?_; (with_reducible refine (impl_in.calls (l0.length : Int) 20 224 true _ A2.out).mono ?_); rintro e w' ⟨rfl, ⟨nd, rfl⟩⟩; refine ⟨_, rfl, ?_⟩; have p471 : 0 ≤ (0 : Int) := (by omega); have q471 : 0 < (l0.length : Int) := of_decide_eq_true (by first | (with_reducible assumption) | assumption); obtain ⟨ad471, e471, hx471_0⟩ := Kd.at_int HR0.out 0 p471 q471; cases e471; have qi471 : (0 < l0.length) = True := eq_true (by omega); (try rw [show ((0 : Int)).toNat = 0 from rfl] at hx471_0); (try rw [Addr.add_zero'] at hx471_0); replace p471 := eq_true p471; replace q471 := eq_true q471; have p472 : 0 ≤ (1 : Int) := (by omega); have q472 : 1 < (l0.length : Int) := of_decide_eq_true (by first | (with_reducible assumption) | assumption); obtain ⟨ad472, e472, hx472_0⟩ := Kd.at_int HR0.out 1 p472 q472; obtain rfl : ad471 = ad472 := (by injection e472); (try simp only [show (1 : Int).toNat = 1 from rfl, Nat.reduceMul, Nat.reduceEqDiff, Go.Addr.add, ↓reduceIte] at hx472_0); have qi472 : (1 < l0.length) = True := eq_true (by omega); (try rw [show ((1 : Int)).toNat = 1 from rfl] at hx472_0); replace p472 := eq_true p472; replace q472 := eq_true q472; obtain ⟨i020, hi020, _, hsz20, _⟩ := info_parts info5; obtain ⟨A20, hcut20, hA20, hC20⟩ := print_mid_of (P := Try.prog) (Value.int .u8) 0 22 5 .i64 .i64 Try.underlying22 hi020 hsz20 (some ad471) c0 l0 4 8 (by omega) (by first | omega | exact of_decide_eq_true (by first | (with_reducible assumption) | assumption)) (of_decide_eq_true (by first | (with_reducible assumption) | assumption)) HC0.out; have HR473 := Aside0.mk (Kd.C_of_reads (h1 := fun _ => rfl) (hA20 _ (Kd.reads_of_C HR0.out))); have HC473 := Aside0.mk hC20; clear hA20 hC20 hi020 hsz20) | ((with_reducible refine gate_dst (N := 20) rfl ?_); (try (refine gate_guard (by rfl) ?_; dsimp only)); refine Kd.R_lit (Kd.int .u8) _ 5 ?hg (N := 20) ?hd (xs := ([0, 0, 64, 0] : List Int)) (inner := [.int .u8 0, .int .u8 0, .int .u8 64, .int .u8 0]) (ok := fun _ => True) (okp := fun _ => True) ?hr ?hp (fun _ hk => hk) trivial (Below.refl _ _) (Nat.le_refl _) (by simp) ?_; (case hd => rfl); (case hg => rfl); (case hr => first | (go_simp; done) | (go_simp; rfl)); (case hp => exact (Reps.one (show Kd.M (Kd.int .u8) _ _ _ 0 [.int .u8 0] from rfl) (Reps.one (show Kd.M (Kd.int .u8) _ _ _ 0 [.int .u8 0] from rfl) (Reps.one (show Kd.M (Kd.int .u8) _ _ _ 64 [.int .u8 64] from rfl) (Reps.one (show Kd.M (Kd.int .u8) _ _ _ 0 [.int .u8 0] from rfl) (Reps.none _ _)))))); intro v475 w21 ho22 hb hg_ hnew_; clear hg_ hnew_; (first | rw [← Ny474.out] at ho22 | (simp only [Int.reduceToNat] at ho22; rw [← Ny474.out] at ho22)); have n0_ := Aside0.mk (Kd.R_lower ho22 (below_size (by repeat (first | (with_reducible first | exact HB.out | apply below_alloc | apply pw_below_drewN | apply below_drew1) | exact HB.out)))); have n1_ := Aside0.mk (below_step (by repeat (first | (with_reducible first | exact HB.out | apply below_alloc | apply pw_below_drewN | apply below_drew1) | exact HB.out)) hb); clear HB; have HO476 := n0_; have HB := n1_; clear n0_ n1_; clear hb ho22; obtain ⟨Ao23, co23, eo23⟩ := Kd.R_slice HO476.out; subst eo23) | (go_at_call 44; (try rw [show min 8 l0.length - 4 = ((l0.take 8).drop 4).length by simp only [List.length_drop, List.length_take]]); (with_reducible refine (bytes_Equal.calls _ _ ((l0.take 8).drop 4) _ _ y474 false _ ?side1 ?side2 ?side3 ?side4 A10.out).mono ?_); (case side1 => repeat (first | exact (Kd.C_below HR473.out HB.out) | (with_reducible refine Kd.C_alloc ?_ _) | (with_reducible refine Kd.C_drewN ?_ _) | (with_reducible refine Kd.C_drew ?_))); (case side2 => exact HC473.out); (case side3 => repeat (first | exact (Kd.R_reads' HO476.out).2.2 | (with_reducible refine Kd.C_alloc ?_ _) | (with_reducible refine Kd.C_drewN ?_ _) | (with_reducible refine Kd.C_drew ?_))); (case side4 => exact (Kd.R_reads' HO476.out).2.1); rintro e w' ⟨rfl, ⟨nd, rfl⟩⟩))
         go_ret
         exact ⟨by first | rfl | (simp [errW_none, errW_some] <;> rfl) | (simp [*, errW_none, errW_some] <;> rfl), by repeat (first | (with_reducible first | exact HB.out | apply below_alloc | apply pw_below_drewN | apply below_drew1) | exact HB.out)⟩
       ·rw [if_neg c9] at H
        exact absurd H (by simp)
      ·rw [if_neg c8] at H
       exact absurd H (by simp)
     ·rw [if_neg c7] at H
      have c7b0 : ((rd l0 1) == 0) = false := beq_eq_false_iff_ne.mpr c7
      have c7b1 : ((rd l0 1) != 0) = true := bne_iff_ne.mpr c7
      obtain rfl := Option.some.inj H
      go_enter Try.func56, Try.ntmps56
      go_wp2_with (first | ((with_reducible refine gate_callee (f := 47) rfl ?_); refine goesL_ (some 5) rfl rfl Try.func47 (by kernel_rfl) rfl #[.int .i64 (l0.length : Int), .int .i64 20, .int .i64 224] rfl (by (try simp only [List.map_toArray, List.map_cons, List.map_nil]); first | done | rfl | (simp only [List.length_drop, List.length_take]; rfl)) ?_; (with_reducible refine (impl_in.calls (l0.length : Int) 20 224 true _ A2.out).mono ?_); rintro e w' ⟨rfl, ⟨nd, rfl⟩⟩; refine ⟨_, rfl, ?_⟩; have p471 : 0 ≤ (0 : Int) := (by omega); have q471 : 0 < (l0.length : Int) := of_decide_eq_true (by first | (with_reducible assumption) | assumption); obtain ⟨ad471, e471, hx471_0⟩ := Kd.at_int HR0.out 0 p471 q471; cases e471; have qi471 : (0 < l0.length) = True := eq_true (by omega); (try rw [show ((0 : Int)).toNat = 0 from rfl] at hx471_0); (try rw [Addr.add_zero'] at hx471_0); replace p471 := eq_true p471; replace q471 := eq_true q471; have p472 : 0 ≤ (1 : Int) := (by omega); have q472 : 1 < (l0.length : Int) := of_decide_eq_true (by first | (with_reducible assumption) | assumption); obtain ⟨ad472, e472, hx472_0⟩ := Kd.at_int HR0.out 1 p472 q472; obtain rfl : ad471 = ad472 := (by injection e472); (try simp only [show (1 : Int).toNat = 1 from rfl, Nat.reduceMul, Nat.reduceEqDiff, Go.Addr.add, ↓reduceIte] at hx472_0); have qi472 : (1 < l0.length) = True := eq_true (by omega); (try rw [show ((1 : Int)).toNat = 1 from rfl] at hx472_0); replace p472 := eq_true p472; replace q472 := eq_true q472))
      go_ret
      exact ⟨by first | rfl | (simp [errW_none, errW_some] <;> rfl) | (simp [*, errW_none, errW_some] <;> rfl), by repeat (first | (with_reducible first | exact HB.out | apply below_alloc | apply pw_below_drewN | apply below_drew1) | exact HB.out)⟩
    ·rw [if_neg c6] at H
     exact absurd H (by simp)
   ·rw [if_neg c5] at H
    have c5b0 : ((rd l0 0) == 69) = false := beq_eq_false_iff_ne.mpr c5
    have c5b1 : ((rd l0 0) != 69) = true := bne_iff_ne.mpr c5
    obtain rfl := Option.some.inj H
    go_enter Try.func56, Try.ntmps56
    go_wp2_with (first | ((with_reducible refine gate_callee (f := 47) rfl ?_); refine goesL_ (some 5) rfl rfl Try.func47 (by kernel_rfl) rfl #[.int .i64 (l0.length : Int), .int .i64 20, .int .i64 224] rfl (by (try simp only [List.map_toArray, List.map_cons, List.map_nil]); first | done | rfl | (simp only [List.length_drop, List.length_take]; rfl)) ?_; (with_reducible refine (impl_in.calls (l0.length : Int) 20 224 true _ A2.out).mono ?_); rintro e w' ⟨rfl, ⟨nd, rfl⟩⟩; refine ⟨_, rfl, ?_⟩; have p471 : 0 ≤ (0 : Int) := (by omega); have q471 : 0 < (l0.length : Int) := of_decide_eq_true (by first | (with_reducible assumption) | assumption); obtain ⟨ad471, e471, hx471_0⟩ := Kd.at_int HR0.out 0 p471 q471; cases e471; have qi471 : (0 < l0.length) = True := eq_true (by omega); (try rw [show ((0 : Int)).toNat = 0 from rfl] at hx471_0); (try rw [Addr.add_zero'] at hx471_0); replace p471 := eq_true p471; replace q471 := eq_true q471))
    go_ret
    exact ⟨by first | rfl | (simp [errW_none, errW_some] <;> rfl) | (simp [*, errW_none, errW_some] <;> rfl), by repeat (first | (with_reducible first | exact HB.out | apply below_alloc | apply pw_below_drewN | apply below_drew1) | exact HB.out)⟩
  ·rw [if_neg c4] at H
   exact absurd H (by simp)
 ·replace c3 := Bool.eq_false_iff.mpr c3
  subst c3
  rw [if_neg (show ¬ (false = true) by decide)] at H
  obtain rfl := Option.some.inj H
  go_enter Try.func56, Try.ntmps56
  go_wp2_with (first | ((with_reducible refine gate_callee (f := 47) rfl ?_); refine goesL_ (some 5) rfl rfl Try.func47 (by kernel_rfl) rfl #[.int .i64 (l0.length : Int), .int .i64 20, .int .i64 224] rfl (by (try simp only [List.map_toArray, List.map_cons, List.map_nil]); first | done | rfl | (simp only [List.length_drop, List.length_take]; rfl)) ?_; (with_reducible refine (impl_in.calls (l0.length : Int) 20 224 false _ A2.out).mono ?_); rintro e w' ⟨rfl, ⟨nd, rfl⟩⟩; refine ⟨_, rfl, ?_⟩))
  go_ret
  exact ⟨by first | rfl | (simp [errW_none, errW_some] <;> rfl) | (simp [*, errW_none, errW_some] <;> rfl), by repeat (first | (with_reducible first | exact HB.out | apply below_alloc | apply pw_below_drewN | apply below_drew1) | exact HB.out)⟩
end Go.Proofs.Ytidejdfbapjfiaa.G
namespace Go.Proofs.Ytidejdfbapjfiaa.G
open Go.RowKit Go.Proofs.YtidejdfbapjfiaaW.PrintWords Go.Proofs.YtidejdfbapjfiaaW.PrintLast Go.Proofs.YtidejdfbapjfiaaW.PrintMore
attribute [local go_sem] max2_int min2_int max_two min_two max_three min_three max_four min_four   -- for this text's walks alone
set_option linter.unusedVariables false
set_option linter.unusedSimpArgs false
def impl_HasPorts.f (a0 : Int) : Option (Bool) := if a0 = 6 then (some true) else (some (a0 == 17))
set_option maxHeartbeats 8000000 in
set_option maxRecDepth 100000 in
theorem impl_HasPorts.calls (a0 : Int) (r : Bool) (w : World) (h : impl_HasPorts.f a0 = some r) :
  Calls Try.prog 57 #[.int .i64 a0] w fun e w' => e = .returned (.bool r) ∧ Drawn0 w w' := by
 have H : (if a0 = 6 then (some true) else (some (a0 == 17))) = some r := h
 clear h
 by_cases c2 : a0 = 6
 ·rw [if_pos c2] at H
  have c2b0 : (a0 == 6) = true := beq_iff_eq.mpr c2
  have c2b1 : (a0 != 6) = false := bne_eq_false_iff_eq.mpr c2
  clear c2
  obtain rfl := Option.some.inj H
  go_enter Try.func57, Try.ntmps57
  go_wp2
  go_ret
  exact ⟨by first | rfl | (simp; done) | (simp [*]; done), by repeat (first | exact Drawn0.refl _ | apply Drawn0.step)⟩
 ·rw [if_neg c2] at H
  have c2b0 : (a0 == 6) = false := beq_eq_false_iff_ne.mpr c2
  have c2b1 : (a0 != 6) = true := bne_iff_ne.mpr c2
  obtain rfl := Option.some.inj H
  go_enter Try.func57, Try.ntmps57
  go_wp2
  go_ret
  exact ⟨by first | rfl | (simp; done) | (simp [*]; done), by repeat (first | exact Drawn0.refl _ | apply Drawn0.step)⟩
end Go.Proofs.Ytidejdfbapjfiaa.G
