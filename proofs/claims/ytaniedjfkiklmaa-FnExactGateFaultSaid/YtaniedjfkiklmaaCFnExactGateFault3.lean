/- Part 3 of the proof of FnExactGateFault: what the functions on its road do, and the plain laws. -/
import Derived.Test.YtaniedjfkiklmaaCFnExactGateFault2
namespace Go.Proofs.Ytaniedjfkiklmaa.G
open Go.RowKit Go.Proofs.YtaniedjfkiklmaaW.PrintWords Go.Proofs.YtaniedjfkiklmaaW.PrintLast Go.Proofs.YtaniedjfkiklmaaW.PrintMore
attribute [local go_sem] max2_int min2_int max_two min_two max_three min_three max_four min_four   -- for this text's walks alone
set_option linter.unusedVariables false
set_option linter.unusedSimpArgs false
mutual
def spec_l5Term.j0 : Nat → List (S68) → Int → Bool → Int → Int → Int → Int → Option (Int)
 | 0, _, _, _, _, _, _, _ => none
 | k + 1, x0, x5, x38, x362000, x362001, x362002, x362003 => if x38 = true then (some 1) else ((spec_l1In.f x362003 0 9999).bind fun t364 => (if t364 = true then (if x5 > 0 then ((spec_l1In.f x362001 0 (wrap64 ((x0.length : Int) - 1))).bind fun t365 => (if t365 = true then (if x5 > 1 then ((spec_l1In.f x362002 0 (wrap64 ((x0.length : Int) - 1))).bind fun t366 => (spec_l5Term.j1 k x0 x5 (!t366) x362000 x362001 x362002 x362003)) else (spec_l5Term.j1 k x0 x5 false x362000 x362001 x362002 x362003)) else (spec_l5Term.j1 k x0 x5 true x362000 x362001 x362002 x362003))) else (if x5 > 1 then ((spec_l1In.f x362002 0 (wrap64 ((x0.length : Int) - 1))).bind fun t367 => (spec_l5Term.j1 k x0 x5 (!t367) x362000 x362001 x362002 x362003)) else (spec_l5Term.j1 k x0 x5 false x362000 x362001 x362002 x362003))) else (spec_l5Term.j1 k x0 x5 true x362000 x362001 x362002 x362003)))
def spec_l5Term.j1 : Nat → List (S68) → Int → Bool → Int → Int → Int → Int → Option (Int)
 | 0, _, _, _, _, _, _, _ => none
 | k + 1, x0, x5, x68, x362000, x362001, x362002, x362003 => if x68 = true then (some 3) else (if x362000 = 6 then (spec_l5Term.j2 k x0 x5 true x362000 x362001 x362002 x362003) else (spec_l5Term.j2 k x0 x5 (x362000 == 7) x362000 x362001 x362002 x362003))
def spec_l5Term.j2 : Nat → List (S68) → Int → Bool → Int → Int → Int → Int → Option (Int)
 | 0, _, _, _, _, _, _, _ => none
 | k + 1, x0, x5, x76, x362000, x362001, x362002, x362003 => if x76 = true then (if 0 ≤ x362001 then (if x362001 < (x0.length : Int) then (if ((rd_T68 x0 x362001).f0) = 2 then (if x5 > 1 then (if 0 ≤ x362002 then (if x362002 < (x0.length : Int) then (if ((rd_T68 x0 x362002).f0) = 2 then (if x362001 > x362002 then (some 1) else (some 0)) else (some 1)) else (none)) else (none)) else (some 0)) else (some 1)) else (none)) else (none)) else (some 0)
end
def spec_l5Term.f (k : Nat) (l0 : List (S68)) (a1_0 : Int) (a1_1 : Int) (a1_2 : Int) (a1_3 : Int) : Option (Int) := (spec_l1In.f a1_0 1 7).bind fun t362 => (if t362 = true then ((spec_l5Kids.f k a1_0).bind fun t363 => (if t363 > 0 then (if a1_3 = 0 then (if t363 < 1 then (if a1_1 = 0 then (if t363 < 2 then (spec_l5Term.j0 k l0 t363 (a1_2 != 0) a1_0 a1_1 a1_2 a1_3) else (spec_l5Term.j0 k l0 t363 false a1_0 a1_1 a1_2 a1_3)) else (spec_l5Term.j0 k l0 t363 true a1_0 a1_1 a1_2 a1_3)) else (if t363 < 2 then (spec_l5Term.j0 k l0 t363 (a1_2 != 0) a1_0 a1_1 a1_2 a1_3) else (spec_l5Term.j0 k l0 t363 false a1_0 a1_1 a1_2 a1_3))) else (spec_l5Term.j0 k l0 t363 true a1_0 a1_1 a1_2 a1_3)) else (if t363 < 1 then (if a1_1 = 0 then (if t363 < 2 then (spec_l5Term.j0 k l0 t363 (a1_2 != 0) a1_0 a1_1 a1_2 a1_3) else (spec_l5Term.j0 k l0 t363 false a1_0 a1_1 a1_2 a1_3)) else (spec_l5Term.j0 k l0 t363 true a1_0 a1_1 a1_2 a1_3)) else (if t363 < 2 then (spec_l5Term.j0 k l0 t363 (a1_2 != 0) a1_0 a1_1 a1_2 a1_3) else (spec_l5Term.j0 k l0 t363 false a1_0 a1_1 a1_2 a1_3))))) else (some 5))
set_option maxHeartbeats 8000000 in
set_option maxRecDepth 100000 in
theorem spec_l5Term.calls (k : Nat) (A0 : Option Addr) (c0 : Nat) (l0 : List (S68)) (a1_0 : Int) (a1_1 : Int) (a1_2 : Int) (a1_3 : Int) (r : Int) (w : World) (hr0 : Kd.C k68 w A0 l0.length l0) (hc0 : l0.length ≤ c0) (h : spec_l5Term.f k l0 a1_0 a1_1 a1_2 a1_3 = some r) :
  Calls Try.prog 47 #[.slice A0 l0.length c0, .agg #[.int .i64 a1_0, .int .i64 a1_1, .int .i64 a1_2, .int .i64 a1_3]] w fun e w' => e = .returned (.int .i64 r) ∧ Below w.heap.size w w' := by
 have hu68 := Try.underlying68
 have a3 := Aside0.mk hr0
 have ai := Aside0.mk hc0
 clear hr0 hc0
 have HB := Aside0.mk (Below.refl w.heap.size w)
 have H : ((spec_l1In.f a1_0 1 7).bind fun t362 => (if t362 = true then ((spec_l5Kids.f k a1_0).bind fun t363 => (if t363 > 0 then (if a1_3 = 0 then (if t363 < 1 then (if a1_1 = 0 then (if t363 < 2 then (spec_l5Term.j0 k l0 t363 (a1_2 != 0) a1_0 a1_1 a1_2 a1_3) else (spec_l5Term.j0 k l0 t363 false a1_0 a1_1 a1_2 a1_3)) else (spec_l5Term.j0 k l0 t363 true a1_0 a1_1 a1_2 a1_3)) else (if t363 < 2 then (spec_l5Term.j0 k l0 t363 (a1_2 != 0) a1_0 a1_1 a1_2 a1_3) else (spec_l5Term.j0 k l0 t363 false a1_0 a1_1 a1_2 a1_3))) else (spec_l5Term.j0 k l0 t363 true a1_0 a1_1 a1_2 a1_3)) else (if t363 < 1 then (if a1_1 = 0 then (if t363 < 2 then (spec_l5Term.j0 k l0 t363 (a1_2 != 0) a1_0 a1_1 a1_2 a1_3) else (spec_l5Term.j0 k l0 t363 false a1_0 a1_1 a1_2 a1_3)) else (spec_l5Term.j0 k l0 t363 true a1_0 a1_1 a1_2 a1_3)) else (if t363 < 2 then (spec_l5Term.j0 k l0 t363 (a1_2 != 0) a1_0 a1_1 a1_2 a1_3) else (spec_l5Term.j0 k l0 t363 false a1_0 a1_1 a1_2 a1_3))))) else (some 5))) = some r := h
 clear h
 replace H := Option.bind_eq_some_iff.mp H
 obtain ⟨t362, ad, H⟩ := H
 try dsimp only at H
 have A3 := Aside0.mk ad
 clear ad
 by_cases c4 : t362 = true
 ·subst c4
  rw [if_pos rfl] at H
  replace H := Option.bind_eq_some_iff.mp H
  obtain ⟨t363, ae, H⟩ := H
  try dsimp only at H
  have A5 := Aside0.mk ae
  clear ae
  have a7 := Aside0.mk H
  clear H
  go_enter Try.func47, Try.ntmps47
  go_upto_region 4 with (first | ((with_reducible refine gate_dst (N := 3) rfl ?_); refine box_event ?hg (N := 3) ?hd (cs := #[.int .i64 a1_0, .int .i64 a1_1, .int .i64 a1_2, .int .i64 a1_3]) (t := 68) ?hr ?_; (case hd => rfl); (case hg => rfl); (case hr => first | (go_simp; done) | (go_simp; rfl)); intro a2 hg w7 hbox hb; have n0_ := Aside0.mk (lP_ (by repeat (first | (with_reducible first | exact HB.out | apply lA1_ | apply lN_ | apply lD_) | exact HB.out)) hb); have n1_ := Aside0.mk (hbox); have n2_ := Aside0.mk ((by rw [hg]; exact (below_size (by repeat (first | (with_reducible first | exact HB.out | apply lA1_ | apply lN_ | apply lD_) | exact HB.out))) : w.heap.size ≤ a2)); have n3_ := Aside0.mk ((by rw [hg]; exact (below_size (by repeat (first | (with_reducible first | exact HB.out | apply lA1_ | apply lN_ | apply lD_) | exact HB.out))) : w.heap.size ≤ a2)); clear HB; have HB := n0_; have a0 := n1_; have ah := n2_; have a1 := n3_; clear n0_ n1_ n2_ n3_ hb hbox hg; obtain ⟨_, _, _, _, _, _, _, _⟩ := bc4 a0.out) | ((with_reducible refine gate_callee (f := 32) rfl ?_); refine goesA_ (some 9) rfl rfl Try.func32 (by kernel_rfl) rfl #[.int .i64 a1_0, .int .i64 1, .int .i64 7] rfl ?_; (with_reducible refine (spec_l1In.calls a1_0 1 7 true _ A3.out).mono ?_); rintro e w' ⟨rfl, ⟨nd, rfl⟩⟩; refine ⟨_, rfl, ?_⟩) | ((with_reducible refine gate_callee (f := 62) rfl ?_); refine goesA_ (some 13) rfl rfl Try.func62 (by kernel_rfl) rfl #[.int .i64 a1_0] rfl ?_; (with_reducible refine (spec_l5Kids.calls k a1_0 t363 _ A5.out).mono ?_); rintro e w' ⟨rfl, ⟨nd, rfl⟩⟩; refine ⟨_, rfl, ?_⟩))
  (try simp only [Act.put, lA_, lZ_, lS_])
  go_cut [38] (fun v38 wc => ∃ (kq : Nat) (x38_5 : Bool), v38 = .bool x38_5 ∧ Aside0 (spec_l5Term.j0 kq l0 t363 x38_5 a1_0 a1_1 a1_2 a1_3 = some r) ∧ Aside0 (kq ≤ k) ∧ Aside0 (wc.heap[a2]? = some (.cells #[.int .i64 a1_0, .int .i64 a1_1, .int .i64 a1_2, .int .i64 a1_3] 68 (0, 0))) ∧ Aside0 (Below w.heap.size w wc))
  case first =>
   have H := a7.out
   clear a7
   by_cases c9 : t363 > 0
   ·rw [if_pos c9] at H
    have c9b0 : decide (0 < t363) = true := decide_eq_true c9
    clear c9
    (first | rw [c9b0] | (simp only [i64_w, i32_w]; rw [c9b0]) | skip)
    by_cases c10 : a1_3 = 0
    ·rw [if_pos c10] at H
     have c10b0 : (a1_3 == 0) = true := beq_iff_eq.mpr c10
     have c10b1 : (a1_3 != 0) = false := bne_eq_false_iff_eq.mpr c10
     clear c10
     by_cases c11 : t363 < 1
     ·rw [if_pos c11] at H
      have c11b0 : decide (t363 < 1) = true := decide_eq_true c11
      clear c11
      by_cases c12 : a1_1 = 0
      ·rw [if_pos c12] at H
       have c12b0 : (a1_1 == 0) = true := beq_iff_eq.mpr c12
       have c12b1 : (a1_1 != 0) = false := bne_eq_false_iff_eq.mpr c12
       clear c12
       by_cases c13 : t363 < 2
       ·rw [if_pos c13] at H
        have c13b0 : decide (t363 < 2) = true := decide_eq_true c13
        clear c13
        have H' := Aside0.mk H
        clear H
        obtain ⟨_, _, _, _, _, _, _, _⟩ := bc4 a0.out
        go_wp2
        go_meet
        case rel => exact ⟨_, ((a1_2 != 0)), (by first | rfl | (simp; done) | (simp [*]; done)), H', ⟨by first | omega | exact Nat.le_refl _⟩, ⟨by (with_reducible repeat first | apply bN_ | apply bD_ | apply bA_); exact a0.out⟩, ⟨by repeat (first | (with_reducible first | exact HB.out | apply lA1_ | apply lN_ | apply lD_ | refine lS1_ ?_ a1.out) | exact HB.out)⟩⟩
       ·rw [if_neg c13] at H
        have c13b0 : decide (t363 < 2) = false := decide_eq_false c13
        clear c13
        have H' := Aside0.mk H
        clear H
        obtain ⟨_, _, _, _, _, _, _, _⟩ := bc4 a0.out
        go_wp2
        go_meet
        case rel => exact ⟨_, (false), (by first | rfl | (simp; done) | (simp [*]; done)), H', ⟨by first | omega | exact Nat.le_refl _⟩, ⟨by (with_reducible repeat first | apply bN_ | apply bD_ | apply bA_); exact a0.out⟩, ⟨by repeat (first | (with_reducible first | exact HB.out | apply lA1_ | apply lN_ | apply lD_ | refine lS1_ ?_ a1.out) | exact HB.out)⟩⟩
      ·rw [if_neg c12] at H
       have c12b0 : (a1_1 == 0) = false := beq_eq_false_iff_ne.mpr c12
       have c12b1 : (a1_1 != 0) = true := bne_iff_ne.mpr c12
       have H' := Aside0.mk H
       clear H
       obtain ⟨_, _, _, _, _, _, _, _⟩ := bc4 a0.out
       go_wp2
       go_meet
       case rel => exact ⟨_, (true), (by first | rfl | (simp; done) | (simp [*]; done)), H', ⟨by first | omega | exact Nat.le_refl _⟩, ⟨by (with_reducible repeat first | apply bN_ | apply bD_ | apply bA_); exact a0.out⟩, ⟨by repeat (first | (with_reducible first | exact HB.out | apply lA1_ | apply lN_ | apply lD_ | refine lS1_ ?_ a1.out) | exact HB.out)⟩⟩
     ·rw [if_neg c11] at H
      have c11b0 : decide (t363 < 1) = false := decide_eq_false c11
      clear c11
      by_cases c17 : t363 < 2
      ·rw [if_pos c17] at H
       have c17b0 : decide (t363 < 2) = true := decide_eq_true c17
       clear c17
       have H' := Aside0.mk H
       clear H
       obtain ⟨_, _, _, _, _, _, _, _⟩ := bc4 a0.out
       go_wp2
       go_meet
       case rel => exact ⟨_, ((a1_2 != 0)), (by first | rfl | (simp; done) | (simp [*]; done)), H', ⟨by first | omega | exact Nat.le_refl _⟩, ⟨by (with_reducible repeat first | apply bN_ | apply bD_ | apply bA_); exact a0.out⟩, ⟨by repeat (first | (with_reducible first | exact HB.out | apply lA1_ | apply lN_ | apply lD_ | refine lS1_ ?_ a1.out) | exact HB.out)⟩⟩
      ·rw [if_neg c17] at H
       have c17b0 : decide (t363 < 2) = false := decide_eq_false c17
       clear c17
       have H' := Aside0.mk H
       clear H
       obtain ⟨_, _, _, _, _, _, _, _⟩ := bc4 a0.out
       go_wp2
       go_meet
       case rel => exact ⟨_, (false), (by first | rfl | (simp; done) | (simp [*]; done)), H', ⟨by first | omega | exact Nat.le_refl _⟩, ⟨by (with_reducible repeat first | apply bN_ | apply bD_ | apply bA_); exact a0.out⟩, ⟨by repeat (first | (with_reducible first | exact HB.out | apply lA1_ | apply lN_ | apply lD_ | refine lS1_ ?_ a1.out) | exact HB.out)⟩⟩
    ·rw [if_neg c10] at H
     have c10b0 : (a1_3 == 0) = false := beq_eq_false_iff_ne.mpr c10
     have c10b1 : (a1_3 != 0) = true := bne_iff_ne.mpr c10
     have H' := Aside0.mk H
     clear H
     obtain ⟨_, _, _, _, _, _, _, _⟩ := bc4 a0.out
     go_wp2
     go_meet
     case rel => exact ⟨_, (true), (by first | rfl | (simp; done) | (simp [*]; done)), H', ⟨by first | omega | exact Nat.le_refl _⟩, ⟨by (with_reducible repeat first | apply bN_ | apply bD_ | apply bA_); exact a0.out⟩, ⟨by repeat (first | (with_reducible first | exact HB.out | apply lA1_ | apply lN_ | apply lD_ | refine lS1_ ?_ a1.out) | exact HB.out)⟩⟩
   ·rw [if_neg c9] at H
    have c9b0 : decide (0 < t363) = false := decide_eq_false c9
    clear c9
    (first | rw [c9b0] | (simp only [i64_w, i32_w]; rw [c9b0]) | skip)
    by_cases c21 : t363 < 1
    ·rw [if_pos c21] at H
     have c21b0 : decide (t363 < 1) = true := decide_eq_true c21
     clear c21
     by_cases c22 : a1_1 = 0
     ·rw [if_pos c22] at H
      have c22b0 : (a1_1 == 0) = true := beq_iff_eq.mpr c22
      have c22b1 : (a1_1 != 0) = false := bne_eq_false_iff_eq.mpr c22
      clear c22
      by_cases c23 : t363 < 2
      ·rw [if_pos c23] at H
       have c23b0 : decide (t363 < 2) = true := decide_eq_true c23
       clear c23
       have H' := Aside0.mk H
       clear H
       obtain ⟨_, _, _, _, _, _, _, _⟩ := bc4 a0.out
       go_wp2
       go_meet
       case rel => exact ⟨_, ((a1_2 != 0)), (by first | rfl | (simp; done) | (simp [*]; done)), H', ⟨by first | omega | exact Nat.le_refl _⟩, ⟨by (with_reducible repeat first | apply bN_ | apply bD_ | apply bA_); exact a0.out⟩, ⟨by repeat (first | (with_reducible first | exact HB.out | apply lA1_ | apply lN_ | apply lD_ | refine lS1_ ?_ a1.out) | exact HB.out)⟩⟩
      ·rw [if_neg c23] at H
       have c23b0 : decide (t363 < 2) = false := decide_eq_false c23
       clear c23
       have H' := Aside0.mk H
       clear H
       obtain ⟨_, _, _, _, _, _, _, _⟩ := bc4 a0.out
       go_wp2
       go_meet
       case rel => exact ⟨_, (false), (by first | rfl | (simp; done) | (simp [*]; done)), H', ⟨by first | omega | exact Nat.le_refl _⟩, ⟨by (with_reducible repeat first | apply bN_ | apply bD_ | apply bA_); exact a0.out⟩, ⟨by repeat (first | (with_reducible first | exact HB.out | apply lA1_ | apply lN_ | apply lD_ | refine lS1_ ?_ a1.out) | exact HB.out)⟩⟩
     ·rw [if_neg c22] at H
      have c22b0 : (a1_1 == 0) = false := beq_eq_false_iff_ne.mpr c22
      have c22b1 : (a1_1 != 0) = true := bne_iff_ne.mpr c22
      have H' := Aside0.mk H
      clear H
      obtain ⟨_, _, _, _, _, _, _, _⟩ := bc4 a0.out
      go_wp2
      go_meet
      case rel => exact ⟨_, (true), (by first | rfl | (simp; done) | (simp [*]; done)), H', ⟨by first | omega | exact Nat.le_refl _⟩, ⟨by (with_reducible repeat first | apply bN_ | apply bD_ | apply bA_); exact a0.out⟩, ⟨by repeat (first | (with_reducible first | exact HB.out | apply lA1_ | apply lN_ | apply lD_ | refine lS1_ ?_ a1.out) | exact HB.out)⟩⟩
    ·rw [if_neg c21] at H
     have c21b0 : decide (t363 < 1) = false := decide_eq_false c21
     clear c21
     by_cases c27 : t363 < 2
     ·rw [if_pos c27] at H
      have c27b0 : decide (t363 < 2) = true := decide_eq_true c27
      clear c27
      have H' := Aside0.mk H
      clear H
      obtain ⟨_, _, _, _, _, _, _, _⟩ := bc4 a0.out
      go_wp2
      go_meet
      case rel => exact ⟨_, ((a1_2 != 0)), (by first | rfl | (simp; done) | (simp [*]; done)), H', ⟨by first | omega | exact Nat.le_refl _⟩, ⟨by (with_reducible repeat first | apply bN_ | apply bD_ | apply bA_); exact a0.out⟩, ⟨by repeat (first | (with_reducible first | exact HB.out | apply lA1_ | apply lN_ | apply lD_ | refine lS1_ ?_ a1.out) | exact HB.out)⟩⟩
     ·rw [if_neg c27] at H
      have c27b0 : decide (t363 < 2) = false := decide_eq_false c27
      clear c27
      have H' := Aside0.mk H
      clear H
      go_wp2
      go_meet
      case rel => exact ⟨_, (false), (by first | rfl | (simp; done) | (simp [*]; done)), H', ⟨by first | omega | exact Nat.le_refl _⟩, ⟨by (with_reducible repeat first | apply bN_ | apply bD_ | apply bA_); exact a0.out⟩, ⟨by repeat (first | (with_reducible first | exact HB.out | apply lA1_ | apply lN_ | apply lD_ | refine lS1_ ?_ a1.out) | exact HB.out)⟩⟩
  case rest =>
   clear a7
   try clear c1
   try clear c2
   try clear p2
   try clear c3
   try clear c4
   try clear c6
   try clear c9
   try clear c9b0
   try clear c10
   try clear c10b0
   try clear c10b1
   try clear c11
   try clear c11b0
   try clear c12
   try clear c12b0
   try clear c12b1
   try clear c13
   try clear c13b0
   try clear c17
   try clear c17b0
   try clear c21
   try clear c21b0
   try clear c22
   try clear c22b0
   try clear c22b1
   try clear c23
   try clear c23b0
   try clear c27
   try clear c27b0
   try clear hcz14_0
   try clear hcz14_1
   try clear hcz14_2
   try clear hcz14_3
   try clear hcz15_0
   try clear hcz15_1
   try clear hcz15_2
   try clear hcz15_3
   try clear hcz16_0
   try clear hcz16_1
   try clear hcz16_2
   try clear hcz16_3
   try clear hcz18_0
   try clear hcz18_1
   try clear hcz18_2
   try clear hcz18_3
   try clear hcz19_0
   try clear hcz19_1
   try clear hcz19_2
   try clear hcz19_3
   try clear hcz20_0
   try clear hcz20_1
   try clear hcz20_2
   try clear hcz20_3
   try clear hcz24_0
   try clear hcz24_1
   try clear hcz24_2
   try clear hcz24_3
   try clear hcz25_0
   try clear hcz25_1
   try clear hcz25_2
   try clear hcz25_3
   try clear hcz26_0
   try clear hcz26_1
   try clear hcz26_2
   try clear hcz26_3
   try clear hcz28_0
   try clear hcz28_1
   try clear hcz28_2
   try clear hcz28_3
   try clear hcz8_0
   try clear hcz8_1
   try clear hcz8_2
   try clear hcz8_3
   try clear hfz14_0
   try clear hfz14_1
   try clear hfz14_2
   try clear hfz14_3
   try clear hfz15_0
   try clear hfz15_1
   try clear hfz15_2
   try clear hfz15_3
   try clear hfz16_0
   try clear hfz16_1
   try clear hfz16_2
   try clear hfz16_3
   try clear hfz18_0
   try clear hfz18_1
   try clear hfz18_2
   try clear hfz18_3
   try clear hfz19_0
   try clear hfz19_1
   try clear hfz19_2
   try clear hfz19_3
   try clear hfz20_0
   try clear hfz20_1
   try clear hfz20_2
   try clear hfz20_3
   try clear hfz24_0
   try clear hfz24_1
   try clear hfz24_2
   try clear hfz24_3
   try clear hfz25_0
   try clear hfz25_1
   try clear hfz25_2
   try clear hfz25_3
   try clear hfz26_0
   try clear hfz26_1
   try clear hfz26_2
   try clear hfz26_3
   try clear hfz28_0
   try clear hfz28_1
   try clear hfz28_2
   try clear hfz28_3
   try clear hfz8_0
   try clear hfz8_1
   try clear hfz8_2
   try clear hfz8_3
   obtain ⟨kq, x38_5, rfl, HA, HJ5, a0, HB⟩ := hcut
   cases kq with
   | zero => exact absurd HA.out (by simp [spec_l5Term.j0])
   | succ kj5 =>
    have H := HA.out
    clear HA
    simp only [spec_l5Term.j0] at H
    by_cases c29 : x38_5 = true
    ·subst c29
     rw [if_pos rfl] at H
     obtain rfl := Option.some.inj H
     go_wp2
     go_ret
     exact ⟨by first | rfl | (simp [errW_none, errW_some] <;> rfl) | (simp [*, errW_none, errW_some] <;> rfl), by repeat (first | (with_reducible first | exact HB.out | apply lA1_ | apply lN_ | apply lD_ | refine lS1_ ?_ a1.out) | exact HB.out)⟩
    ·replace c29 := Bool.eq_false_iff.mpr c29
     subst c29
     rw [if_neg (show ¬ (false = true) by decide)] at H
     have a5 := Aside0.mk H
     clear H
     go_upto_region 7 with (fail)
     go_cut [68] (fun v68 wc => ∃ (kq : Nat) (x68_29 : Bool), v68 = .bool x68_29 ∧ Aside0 (spec_l5Term.j1 kq l0 t363 x68_29 a1_0 a1_1 a1_2 a1_3 = some r) ∧ Aside0 (kq ≤ kj5) ∧ Aside0 (wc.heap[a2]? = some (.cells #[.int .i64 a1_0, .int .i64 a1_1, .int .i64 a1_2, .int .i64 a1_3] 68 (0, 0))) ∧ Aside0 (Below w.heap.size w wc))
     case first =>
      have H := a5.out
      clear a5
      replace H := Option.bind_eq_some_iff.mp H
      obtain ⟨t364, a8, H⟩ := H
      try dsimp only at H
      have a4 := Aside0.mk a8
      clear a8
      by_cases c32 : t364 = true
      ·subst c32
       rw [if_pos rfl] at H
       by_cases c33 : t363 > 0
       ·rw [if_pos c33] at H
        have c33b0 : decide (0 < t363) = true := decide_eq_true c33
        clear c33
        (first | rw [c33b0] | (simp only [i64_w, i32_w]; rw [c33b0]) | skip)
        replace H := Option.bind_eq_some_iff.mp H
        obtain ⟨t365, a9, H⟩ := H
        try dsimp only at H
        have aa := Aside0.mk a9
        clear a9
        by_cases c35 : t365 = true
        ·subst c35
         rw [if_pos rfl] at H
         by_cases c36 : t363 > 1
         ·rw [if_pos c36] at H
          have c36b0 : decide (1 < t363) = true := decide_eq_true c36
          clear c36
          replace H := Option.bind_eq_some_iff.mp H
          obtain ⟨t366, ab, H⟩ := H
          try dsimp only at H
          have af := Aside0.mk ab
          clear ab
          have H' := Aside0.mk H
          clear H
          obtain ⟨_, _, _, _, _, _, _, _⟩ := bc4 a0.out
          go_wp2_with (first | ((with_reducible refine gate_callee (f := 32) rfl ?_); refine goesA_ (some 43) rfl rfl Try.func32 (by kernel_rfl) rfl #[.int .i64 a1_3, .int .i64 0, .int .i64 9999] rfl ?_; (with_reducible refine (spec_l1In.calls a1_3 0 9999 true _ a4.out).mono ?_); rintro e w' ⟨rfl, ⟨nd, rfl⟩⟩; refine ⟨_, rfl, ?_⟩) | (go_at_call 32; (with_reducible refine (spec_l1In.calls a1_1 0 (wrap64 ((l0.length : Int) - 1)) true _ aa.out).mono ?_); rintro e w' ⟨rfl, ⟨nd, rfl⟩⟩) | (go_at_call 32; (with_reducible refine (spec_l1In.calls a1_2 0 (wrap64 ((l0.length : Int) - 1)) t366 _ af.out).mono ?_); rintro e w' ⟨rfl, ⟨nd, rfl⟩⟩))
          go_meet
          case rel => exact ⟨_, (!t366), (by first | rfl | (simp; done) | (simp [*]; done)), H', ⟨by have := HJ5.out; first | omega | exact Nat.le_refl _⟩, ⟨by (with_reducible repeat first | apply bN_ | apply bD_ | apply bA_); exact a0.out⟩, ⟨by repeat (first | (with_reducible first | exact HB.out | apply lA1_ | apply lN_ | apply lD_ | refine lS1_ ?_ a1.out) | exact HB.out)⟩⟩
         ·rw [if_neg c36] at H
          have c36b0 : decide (1 < t363) = false := decide_eq_false c36
          clear c36
          have H' := Aside0.mk H
          clear H
          obtain ⟨_, _, _, _, _, _, _, _⟩ := bc4 a0.out
          go_wp2_with (first | ((with_reducible refine gate_callee (f := 32) rfl ?_); refine goesA_ (some 43) rfl rfl Try.func32 (by kernel_rfl) rfl #[.int .i64 a1_3, .int .i64 0, .int .i64 9999] rfl ?_; (with_reducible refine (spec_l1In.calls a1_3 0 9999 true _ a4.out).mono ?_); rintro e w' ⟨rfl, ⟨nd, rfl⟩⟩; refine ⟨_, rfl, ?_⟩) | (go_at_call 32; (with_reducible refine (spec_l1In.calls a1_1 0 (wrap64 ((l0.length : Int) - 1)) true _ aa.out).mono ?_); rintro e w' ⟨rfl, ⟨nd, rfl⟩⟩))
          go_meet
          case rel => exact ⟨_, (false), (by first | rfl | (simp; done) | (simp [*]; done)), H', ⟨by have := HJ5.out; first | omega | exact Nat.le_refl _⟩, ⟨by (with_reducible repeat first | apply bN_ | apply bD_ | apply bA_); exact a0.out⟩, ⟨by repeat (first | (with_reducible first | exact HB.out | apply lA1_ | apply lN_ | apply lD_ | refine lS1_ ?_ a1.out) | exact HB.out)⟩⟩
        ·replace c35 := Bool.eq_false_iff.mpr c35
         subst c35
         rw [if_neg (show ¬ (false = true) by decide)] at H
         have H' := Aside0.mk H
         clear H
         obtain ⟨_, _, _, _, _, _, _, _⟩ := bc4 a0.out
         go_wp2_with (first | ((with_reducible refine gate_callee (f := 32) rfl ?_); refine goesA_ (some 43) rfl rfl Try.func32 (by kernel_rfl) rfl #[.int .i64 a1_3, .int .i64 0, .int .i64 9999] rfl ?_; (with_reducible refine (spec_l1In.calls a1_3 0 9999 true _ a4.out).mono ?_); rintro e w' ⟨rfl, ⟨nd, rfl⟩⟩; refine ⟨_, rfl, ?_⟩) | (go_at_call 32; (with_reducible refine (spec_l1In.calls a1_1 0 (wrap64 ((l0.length : Int) - 1)) false _ aa.out).mono ?_); rintro e w' ⟨rfl, ⟨nd, rfl⟩⟩))
         go_meet
         case rel => exact ⟨_, (true), (by first | rfl | (simp; done) | (simp [*]; done)), H', ⟨by have := HJ5.out; first | omega | exact Nat.le_refl _⟩, ⟨by (with_reducible repeat first | apply bN_ | apply bD_ | apply bA_); exact a0.out⟩, ⟨by repeat (first | (with_reducible first | exact HB.out | apply lA1_ | apply lN_ | apply lD_ | refine lS1_ ?_ a1.out) | exact HB.out)⟩⟩
       ·rw [if_neg c33] at H
        have c33b0 : decide (0 < t363) = false := decide_eq_false c33
        clear c33
        (first | rw [c33b0] | (simp only [i64_w, i32_w]; rw [c33b0]) | skip)
        by_cases c41 : t363 > 1
        ·rw [if_pos c41] at H
         have c41b0 : decide (1 < t363) = true := decide_eq_true c41
         clear c41
         replace H := Option.bind_eq_some_iff.mp H
         obtain ⟨t367, ac, H⟩ := H
         try dsimp only at H
         have ag := Aside0.mk ac
         clear ac
         have H' := Aside0.mk H
         clear H
         obtain ⟨_, _, _, _, _, _, _, _⟩ := bc4 a0.out
         go_wp2_with (first | ((with_reducible refine gate_callee (f := 32) rfl ?_); refine goesA_ (some 43) rfl rfl Try.func32 (by kernel_rfl) rfl #[.int .i64 a1_3, .int .i64 0, .int .i64 9999] rfl ?_; (with_reducible refine (spec_l1In.calls a1_3 0 9999 true _ a4.out).mono ?_); rintro e w' ⟨rfl, ⟨nd, rfl⟩⟩; refine ⟨_, rfl, ?_⟩) | (go_at_call 32; (with_reducible refine (spec_l1In.calls a1_2 0 (wrap64 ((l0.length : Int) - 1)) t367 _ ag.out).mono ?_); rintro e w' ⟨rfl, ⟨nd, rfl⟩⟩))
         go_meet
         case rel => exact ⟨_, (!t367), (by first | rfl | (simp; done) | (simp [*]; done)), H', ⟨by have := HJ5.out; first | omega | exact Nat.le_refl _⟩, ⟨by (with_reducible repeat first | apply bN_ | apply bD_ | apply bA_); exact a0.out⟩, ⟨by repeat (first | (with_reducible first | exact HB.out | apply lA1_ | apply lN_ | apply lD_ | refine lS1_ ?_ a1.out) | exact HB.out)⟩⟩
        ·rw [if_neg c41] at H
         have c41b0 : decide (1 < t363) = false := decide_eq_false c41
         clear c41
         have H' := Aside0.mk H
         clear H
         obtain ⟨_, _, _, _, _, _, _, _⟩ := bc4 a0.out
         go_wp2_with (first | ((with_reducible refine gate_callee (f := 32) rfl ?_); refine goesA_ (some 43) rfl rfl Try.func32 (by kernel_rfl) rfl #[.int .i64 a1_3, .int .i64 0, .int .i64 9999] rfl ?_; (with_reducible refine (spec_l1In.calls a1_3 0 9999 true _ a4.out).mono ?_); rintro e w' ⟨rfl, ⟨nd, rfl⟩⟩; refine ⟨_, rfl, ?_⟩))
         go_meet
         case rel => exact ⟨_, (false), (by first | rfl | (simp; done) | (simp [*]; done)), H', ⟨by have := HJ5.out; first | omega | exact Nat.le_refl _⟩, ⟨by (with_reducible repeat first | apply bN_ | apply bD_ | apply bA_); exact a0.out⟩, ⟨by repeat (first | (with_reducible first | exact HB.out | apply lA1_ | apply lN_ | apply lD_ | refine lS1_ ?_ a1.out) | exact HB.out)⟩⟩
      ·replace c32 := Bool.eq_false_iff.mpr c32
       subst c32
       rw [if_neg (show ¬ (false = true) by decide)] at H
       have H' := Aside0.mk H
       clear H
       obtain ⟨_, _, _, _, _, _, _, _⟩ := bc4 a0.out
       go_wp2_with (first | ((with_reducible refine gate_callee (f := 32) rfl ?_); refine goesA_ (some 43) rfl rfl Try.func32 (by kernel_rfl) rfl #[.int .i64 a1_3, .int .i64 0, .int .i64 9999] rfl ?_; (with_reducible refine (spec_l1In.calls a1_3 0 9999 false _ a4.out).mono ?_); rintro e w' ⟨rfl, ⟨nd, rfl⟩⟩; refine ⟨_, rfl, ?_⟩))
       go_meet
       case rel => exact ⟨_, (true), (by first | rfl | (simp; done) | (simp [*]; done)), H', ⟨by have := HJ5.out; first | omega | exact Nat.le_refl _⟩, ⟨by (with_reducible repeat first | apply bN_ | apply bD_ | apply bA_); exact a0.out⟩, ⟨by repeat (first | (with_reducible first | exact HB.out | apply lA1_ | apply lN_ | apply lD_ | refine lS1_ ?_ a1.out) | exact HB.out)⟩⟩
     case rest =>
      clear a5
      try clear c1
      try clear c2
      try clear p2
      try clear c3
      try clear c4
      try clear c6
      try clear p6
      try clear c9
      try clear c9b0
      try clear c10
      try clear c10b0
      try clear c10b1
      try clear c11
      try clear c11b0
      try clear c12
      try clear c12b0
      try clear c12b1
      try clear c13
      try clear c13b0
      try clear c17
      try clear c17b0
      try clear c21
      try clear c21b0
      try clear c22
      try clear c22b0
      try clear c22b1
      try clear c23
      try clear c23b0
      try clear c27
      try clear c27b0
      try clear c29
      try clear c32
      try clear c33
      try clear c33b0
      try clear c35
      try clear c36
      try clear c36b0
      try clear c41
      try clear c41b0
      try clear hcz14_0
      try clear hcz14_1
      try clear hcz14_2
      try clear hcz14_3
      try clear hcz15_0
      try clear hcz15_1
      try clear hcz15_2
      try clear hcz15_3
      try clear hcz16_0
      try clear hcz16_1
      try clear hcz16_2
      try clear hcz16_3
      try clear hcz18_0
      try clear hcz18_1
      try clear hcz18_2
      try clear hcz18_3
      try clear hcz19_0
      try clear hcz19_1
      try clear hcz19_2
      try clear hcz19_3
      try clear hcz20_0
      try clear hcz20_1
      try clear hcz20_2
      try clear hcz20_3
      try clear hcz24_0
      try clear hcz24_1
      try clear hcz24_2
      try clear hcz24_3
      try clear hcz25_0
      try clear hcz25_1
      try clear hcz25_2
      try clear hcz25_3
      try clear hcz26_0
      try clear hcz26_1
      try clear hcz26_2
      try clear hcz26_3
      try clear hcz28_0
      try clear hcz28_1
      try clear hcz28_2
      try clear hcz28_3
      try clear hcz38_0
      try clear hcz38_1
      try clear hcz38_2
      try clear hcz38_3
      try clear hcz39_0
      try clear hcz39_1
      try clear hcz39_2
      try clear hcz39_3
      try clear hcz40_0
      try clear hcz40_1
      try clear hcz40_2
      try clear hcz40_3
      try clear hcz43_0
      try clear hcz43_1
      try clear hcz43_2
      try clear hcz43_3
      try clear hcz44_0
      try clear hcz44_1
      try clear hcz44_2
      try clear hcz44_3
      try clear hcz45_0
      try clear hcz45_1
      try clear hcz45_2
      try clear hcz45_3
      try clear hcz8_0
      try clear hcz8_1
      try clear hcz8_2
      try clear hcz8_3
      try clear hfz14_0
      try clear hfz14_1
      try clear hfz14_2
      try clear hfz14_3
      try clear hfz15_0
      try clear hfz15_1
      try clear hfz15_2
      try clear hfz15_3
      try clear hfz16_0
      try clear hfz16_1
      try clear hfz16_2
      try clear hfz16_3
      try clear hfz18_0
      try clear hfz18_1
      try clear hfz18_2
      try clear hfz18_3
      try clear hfz19_0
      try clear hfz19_1
      try clear hfz19_2
      try clear hfz19_3
      try clear hfz20_0
      try clear hfz20_1
      try clear hfz20_2
      try clear hfz20_3
      try clear hfz24_0
      try clear hfz24_1
      try clear hfz24_2
      try clear hfz24_3
      try clear hfz25_0
      try clear hfz25_1
      try clear hfz25_2
      try clear hfz25_3
      try clear hfz26_0
      try clear hfz26_1
      try clear hfz26_2
      try clear hfz26_3
      try clear hfz28_0
      try clear hfz28_1
      try clear hfz28_2
      try clear hfz28_3
      try clear hfz38_0
      try clear hfz38_1
      try clear hfz38_2
      try clear hfz38_3
      try clear hfz39_0
      try clear hfz39_1
      try clear hfz39_2
      try clear hfz39_3
      try clear hfz40_0
      try clear hfz40_1
      try clear hfz40_2
      try clear hfz40_3
      try clear hfz43_0
      try clear hfz43_1
      try clear hfz43_2
      try clear hfz43_3
      try clear hfz44_0
      try clear hfz44_1
      try clear hfz44_2
      try clear hfz44_3
      try clear hfz45_0
      try clear hfz45_1
      try clear hfz45_2
      try clear hfz45_3
      try clear hfz8_0
      try clear hfz8_1
      try clear hfz8_2
      try clear hfz8_3
      try clear p2
      obtain ⟨kq, x68_29, rfl, HA, HJ29, a0, HB⟩ := hcut
      cases kq with
      | zero => exact absurd HA.out (by simp [spec_l5Term.j1])
      | succ kj29 =>
       have H := HA.out
       clear HA
       simp only [spec_l5Term.j1] at H
       by_cases c46 : x68_29 = true
       ·subst c46
        rw [if_pos rfl] at H
        obtain rfl := Option.some.inj H
        go_wp2
        go_ret
        exact ⟨by first | rfl | (simp [errW_none, errW_some] <;> rfl) | (simp [*, errW_none, errW_some] <;> rfl), by repeat (first | (with_reducible first | exact HB.out | apply lA1_ | apply lN_ | apply lD_ | refine lS1_ ?_ a1.out) | exact HB.out)⟩
       ·replace c46 := Bool.eq_false_iff.mpr c46
        subst c46
        rw [if_neg (show ¬ (false = true) by decide)] at H
        have a6 := Aside0.mk H
        clear H
        go_upto_region 9 with (fail)
        go_cut [76] (fun v76 wc => ∃ (kq : Nat) (x76_46 : Bool), v76 = .bool x76_46 ∧ Aside0 (spec_l5Term.j2 kq l0 t363 x76_46 a1_0 a1_1 a1_2 a1_3 = some r) ∧ Aside0 (kq ≤ kj29) ∧ Aside0 (wc.heap[a2]? = some (.cells #[.int .i64 a1_0, .int .i64 a1_1, .int .i64 a1_2, .int .i64 a1_3] 68 (0, 0))) ∧ Aside0 (Below w.heap.size w wc))
        case first =>
         have H := a6.out
         clear a6
         by_cases c48 : a1_0 = 6
         ·rw [if_pos c48] at H
          have c48b0 : (a1_0 == 6) = true := beq_iff_eq.mpr c48
          have c48b1 : (a1_0 != 6) = false := bne_eq_false_iff_eq.mpr c48
          clear c48
          (first | rw [c48b0] | (simp only [i64_w, i32_w]; rw [c48b0]) | skip)
          have H' := Aside0.mk H
          clear H
          obtain ⟨_, _, _, _, _, _, _, _⟩ := bc4 a0.out
          go_wp2
          go_meet
          case rel => exact ⟨_, (true), (by first | rfl | (simp; done) | (simp [*]; done)), H', ⟨by have := HJ5.out; have := HJ29.out; first | omega | exact Nat.le_refl _⟩, ⟨by (with_reducible repeat first | apply bN_ | apply bD_ | apply bA_); exact a0.out⟩, ⟨by repeat (first | (with_reducible first | exact HB.out | apply lA1_ | apply lN_ | apply lD_ | refine lS1_ ?_ a1.out) | exact HB.out)⟩⟩
         ·rw [if_neg c48] at H
          have c48b0 : (a1_0 == 6) = false := beq_eq_false_iff_ne.mpr c48
          have c48b1 : (a1_0 != 6) = true := bne_iff_ne.mpr c48
          (first | rw [c48b0] | (simp only [i64_w, i32_w]; rw [c48b0]) | skip)
          have H' := Aside0.mk H
          clear H
          obtain ⟨_, _, _, _, _, _, _, _⟩ := bc4 a0.out
          go_wp2
          go_meet
          case rel => exact ⟨_, ((a1_0 == 7)), (by first | rfl | (simp; done) | (simp [*]; done)), H', ⟨by have := HJ5.out; have := HJ29.out; first | omega | exact Nat.le_refl _⟩, ⟨by (with_reducible repeat first | apply bN_ | apply bD_ | apply bA_); exact a0.out⟩, ⟨by repeat (first | (with_reducible first | exact HB.out | apply lA1_ | apply lN_ | apply lD_ | refine lS1_ ?_ a1.out) | exact HB.out)⟩⟩
        case rest =>
         clear a6
         try clear c1
         try clear c2
         try clear p2
         try clear c3
         try clear c4
         try clear c6
         try clear p6
         try clear c9
         try clear c9b0
         try clear c10
         try clear c10b0
         try clear c10b1
         try clear c11
         try clear c11b0
         try clear c12
         try clear c12b0
         try clear c12b1
         try clear c13
         try clear c13b0
         try clear c17
         try clear c17b0
         try clear c21
         try clear c21b0
         try clear c22
         try clear c22b0
         try clear c22b1
         try clear c23
         try clear c23b0
         try clear c27
         try clear c27b0
         try clear c29
         try clear c32
         try clear c33
         try clear c33b0
         try clear c35
         try clear c36
         try clear c36b0
         try clear c41
         try clear c41b0
         try clear c46
         try clear c48
         try clear c48b0
         try clear c48b1
         try clear hcz14_0
         try clear hcz14_1
         try clear hcz14_2
         try clear hcz14_3
         try clear hcz15_0
         try clear hcz15_1
         try clear hcz15_2
         try clear hcz15_3
         try clear hcz16_0
         try clear hcz16_1
         try clear hcz16_2
         try clear hcz16_3
         try clear hcz18_0
         try clear hcz18_1
         try clear hcz18_2
         try clear hcz18_3
         try clear hcz19_0
         try clear hcz19_1
         try clear hcz19_2
         try clear hcz19_3
         try clear hcz20_0
         try clear hcz20_1
         try clear hcz20_2
         try clear hcz20_3
         try clear hcz24_0
         try clear hcz24_1
         try clear hcz24_2
         try clear hcz24_3
         try clear hcz25_0
         try clear hcz25_1
         try clear hcz25_2
         try clear hcz25_3
         try clear hcz26_0
         try clear hcz26_1
         try clear hcz26_2
         try clear hcz26_3
         try clear hcz28_0
         try clear hcz28_1
         try clear hcz28_2
         try clear hcz28_3
         try clear hcz38_0
         try clear hcz38_1
         try clear hcz38_2
         try clear hcz38_3
         try clear hcz39_0
         try clear hcz39_1
         try clear hcz39_2
         try clear hcz39_3
         try clear hcz40_0
         try clear hcz40_1
         try clear hcz40_2
         try clear hcz40_3
         try clear hcz43_0
         try clear hcz43_1
         try clear hcz43_2
         try clear hcz43_3
         try clear hcz44_0
         try clear hcz44_1
         try clear hcz44_2
         try clear hcz44_3
         try clear hcz45_0
         try clear hcz45_1
         try clear hcz45_2
         try clear hcz45_3
         try clear hcz49_0
         try clear hcz49_1
         try clear hcz49_2
         try clear hcz49_3
         try clear hcz50_0
         try clear hcz50_1
         try clear hcz50_2
         try clear hcz50_3
         try clear hcz8_0
         try clear hcz8_1
         try clear hcz8_2
         try clear hcz8_3
         try clear hfz14_0
         try clear hfz14_1
         try clear hfz14_2
         try clear hfz14_3
         try clear hfz15_0
         try clear hfz15_1
         try clear hfz15_2
         try clear hfz15_3
         try clear hfz16_0
         try clear hfz16_1
         try clear hfz16_2
         try clear hfz16_3
         try clear hfz18_0
         try clear hfz18_1
         try clear hfz18_2
         try clear hfz18_3
         try clear hfz19_0
         try clear hfz19_1
         try clear hfz19_2
         try clear hfz19_3
         try clear hfz20_0
         try clear hfz20_1
         try clear hfz20_2
         try clear hfz20_3
         try clear hfz24_0
         try clear hfz24_1
         try clear hfz24_2
         try clear hfz24_3
         try clear hfz25_0
         try clear hfz25_1
         try clear hfz25_2
         try clear hfz25_3
         try clear hfz26_0
         try clear hfz26_1
         try clear hfz26_2
         try clear hfz26_3
         try clear hfz28_0
         try clear hfz28_1
         try clear hfz28_2
         try clear hfz28_3
         try clear hfz38_0
         try clear hfz38_1
         try clear hfz38_2
         try clear hfz38_3
         try clear hfz39_0
         try clear hfz39_1
         try clear hfz39_2
         try clear hfz39_3
         try clear hfz40_0
         try clear hfz40_1
         try clear hfz40_2
         try clear hfz40_3
         try clear hfz43_0
         try clear hfz43_1
         try clear hfz43_2
         try clear hfz43_3
         try clear hfz44_0
         try clear hfz44_1
         try clear hfz44_2
         try clear hfz44_3
         try clear hfz45_0
         try clear hfz45_1
         try clear hfz45_2
         try clear hfz45_3
         try clear hfz49_0
         try clear hfz49_1
         try clear hfz49_2
         try clear hfz49_3
         try clear hfz50_0
         try clear hfz50_1
         try clear hfz50_2
         try clear hfz50_3
         try clear hfz8_0
         try clear hfz8_1
         try clear hfz8_2
         try clear hfz8_3
         try clear p2
         try clear p6
         obtain ⟨kq, x76_46, rfl, HA, HJ46, a0, HB⟩ := hcut
         cases kq with
         | zero => exact absurd HA.out (by simp [spec_l5Term.j2])
         | succ kj46 =>
          have H := HA.out
          clear HA
          simp only [spec_l5Term.j2] at H
          by_cases c51 : x76_46 = true
          ·subst c51
           rw [if_pos rfl] at H
           by_cases c52 : 0 ≤ a1_1
           ·rw [if_pos c52] at H
            have c52b0 : decide (0 ≤ a1_1) = true := decide_eq_true c52
            clear c52
            by_cases c53 : a1_1 < (l0.length : Int)
            ·rw [if_pos c53] at H
             have c53b0 : decide (a1_1 < (l0.length : Int)) = true := decide_eq_true c53
             clear c53
             by_cases c54 : ((rd_T68 l0 a1_1).f0) = 2
             ·rw [if_pos c54] at H
              have c54b0 : (((rd_T68 l0 a1_1).f0) == 2) = true := beq_iff_eq.mpr c54
              have c54b1 : (((rd_T68 l0 a1_1).f0) != 2) = false := bne_eq_false_iff_eq.mpr c54
              clear c54
              by_cases c55 : t363 > 1
              ·rw [if_pos c55] at H
               have c55b0 : decide (1 < t363) = true := decide_eq_true c55
               clear c55
               by_cases c56 : 0 ≤ a1_2
               ·rw [if_pos c56] at H
                have c56b0 : decide (0 ≤ a1_2) = true := decide_eq_true c56
                clear c56
                by_cases c57 : a1_2 < (l0.length : Int)
                ·rw [if_pos c57] at H
                 have c57b0 : decide (a1_2 < (l0.length : Int)) = true := decide_eq_true c57
                 clear c57
                 by_cases c58 : ((rd_T68 l0 a1_2).f0) = 2
                 ·rw [if_pos c58] at H
                  have c58b0 : (((rd_T68 l0 a1_2).f0) == 2) = true := beq_iff_eq.mpr c58
                  have c58b1 : (((rd_T68 l0 a1_2).f0) != 2) = false := bne_eq_false_iff_eq.mpr c58
                  clear c58
                  by_cases c59 : a1_1 > a1_2
                  ·rw [if_pos c59] at H
                   have c59b0 : decide (a1_2 < a1_1) = true := decide_eq_true c59
                   clear c59
                   obtain rfl := Option.some.inj H
                   obtain ⟨_, _, _, _, _, _, _, _⟩ := bc4 a0.out
                   have p368 : 0 ≤ (a1_1 : Int) := of_decide_eq_true (by first | (with_reducible assumption) | assumption)
                   have q368 : a1_1 < (l0.length : Int) := of_decide_eq_true (by first | (with_reducible assumption) | assumption)
                   obtain ⟨ad368, e368, hx368_0, hx368_1, hx368_2, hx368_3⟩ := at_T68 a3.out a1_1 p368 q368
                   cases e368
                   replace hx368_0 := (HB.out.cell (World.block_lt_of_cell? w _ hx368_0)).trans hx368_0
                   replace hx368_1 := (HB.out.cell (World.block_lt_of_cell? w _ hx368_1)).trans hx368_1
                   replace hx368_2 := (HB.out.cell (World.block_lt_of_cell? w _ hx368_2)).trans hx368_2
                   replace hx368_3 := (HB.out.cell (World.block_lt_of_cell? w _ hx368_3)).trans hx368_3
                   replace p368 := eq_true p368
                   replace q368 := eq_true q368
                   have p369 : 0 ≤ (a1_2 : Int) := of_decide_eq_true (by first | (with_reducible assumption) | assumption)
                   have q369 : a1_2 < (l0.length : Int) := of_decide_eq_true (by first | (with_reducible assumption) | assumption)
                   obtain ⟨ad369, e369, hx369_0, hx369_1, hx369_2, hx369_3⟩ := at_T68 a3.out a1_2 p369 q369
                   obtain rfl : ad368 = ad369 := (by injection e369)
                   replace hx369_0 := (HB.out.cell (World.block_lt_of_cell? w _ hx369_0)).trans hx369_0
                   replace hx369_1 := (HB.out.cell (World.block_lt_of_cell? w _ hx369_1)).trans hx369_1
                   replace hx369_2 := (HB.out.cell (World.block_lt_of_cell? w _ hx369_2)).trans hx369_2
                   replace hx369_3 := (HB.out.cell (World.block_lt_of_cell? w _ hx369_3)).trans hx369_3
                   replace p369 := eq_true p369
                   replace q369 := eq_true q369
                   go_wp2
                   go_ret
                   exact ⟨by first | rfl | (simp [errW_none, errW_some] <;> rfl) | (simp [*, errW_none, errW_some] <;> rfl), by repeat (first | (with_reducible first | exact HB.out | apply lA1_ | apply lN_ | apply lD_ | refine lS1_ ?_ a1.out) | exact HB.out)⟩
                  ·rw [if_neg c59] at H
                   have c59b0 : decide (a1_2 < a1_1) = false := decide_eq_false c59
                   clear c59
                   obtain rfl := Option.some.inj H
                   obtain ⟨_, _, _, _, _, _, _, _⟩ := bc4 a0.out
                   have p368 : 0 ≤ (a1_1 : Int) := of_decide_eq_true (by first | (with_reducible assumption) | assumption)
                   have q368 : a1_1 < (l0.length : Int) := of_decide_eq_true (by first | (with_reducible assumption) | assumption)
                   obtain ⟨ad368, e368, hx368_0, hx368_1, hx368_2, hx368_3⟩ := at_T68 a3.out a1_1 p368 q368
                   cases e368
                   replace hx368_0 := (HB.out.cell (World.block_lt_of_cell? w _ hx368_0)).trans hx368_0
                   replace hx368_1 := (HB.out.cell (World.block_lt_of_cell? w _ hx368_1)).trans hx368_1
                   replace hx368_2 := (HB.out.cell (World.block_lt_of_cell? w _ hx368_2)).trans hx368_2
                   replace hx368_3 := (HB.out.cell (World.block_lt_of_cell? w _ hx368_3)).trans hx368_3
                   replace p368 := eq_true p368
                   replace q368 := eq_true q368
                   have p369 : 0 ≤ (a1_2 : Int) := of_decide_eq_true (by first | (with_reducible assumption) | assumption)
                   have q369 : a1_2 < (l0.length : Int) := of_decide_eq_true (by first | (with_reducible assumption) | assumption)
                   obtain ⟨ad369, e369, hx369_0, hx369_1, hx369_2, hx369_3⟩ := at_T68 a3.out a1_2 p369 q369
                   obtain rfl : ad368 = ad369 := (by injection e369)
                   replace hx369_0 := (HB.out.cell (World.block_lt_of_cell? w _ hx369_0)).trans hx369_0
                   replace hx369_1 := (HB.out.cell (World.block_lt_of_cell? w _ hx369_1)).trans hx369_1
                   replace hx369_2 := (HB.out.cell (World.block_lt_of_cell? w _ hx369_2)).trans hx369_2
                   replace hx369_3 := (HB.out.cell (World.block_lt_of_cell? w _ hx369_3)).trans hx369_3
                   replace p369 := eq_true p369
                   replace q369 := eq_true q369
                   go_wp2
                   go_ret
                   exact ⟨by first | rfl | (simp [errW_none, errW_some] <;> rfl) | (simp [*, errW_none, errW_some] <;> rfl), by repeat (first | (with_reducible first | exact HB.out | apply lA1_ | apply lN_ | apply lD_ | refine lS1_ ?_ a1.out) | exact HB.out)⟩
                 ·rw [if_neg c58] at H
                  have c58b0 : (((rd_T68 l0 a1_2).f0) == 2) = false := beq_eq_false_iff_ne.mpr c58
                  have c58b1 : (((rd_T68 l0 a1_2).f0) != 2) = true := bne_iff_ne.mpr c58
                  obtain rfl := Option.some.inj H
                  obtain ⟨_, _, _, _, _, _, _, _⟩ := bc4 a0.out
                  have p368 : 0 ≤ (a1_1 : Int) := of_decide_eq_true (by first | (with_reducible assumption) | assumption)
                  have q368 : a1_1 < (l0.length : Int) := of_decide_eq_true (by first | (with_reducible assumption) | assumption)
                  obtain ⟨ad368, e368, hx368_0, hx368_1, hx368_2, hx368_3⟩ := at_T68 a3.out a1_1 p368 q368
                  cases e368
                  replace hx368_0 := (HB.out.cell (World.block_lt_of_cell? w _ hx368_0)).trans hx368_0
                  replace hx368_1 := (HB.out.cell (World.block_lt_of_cell? w _ hx368_1)).trans hx368_1
                  replace hx368_2 := (HB.out.cell (World.block_lt_of_cell? w _ hx368_2)).trans hx368_2
                  replace hx368_3 := (HB.out.cell (World.block_lt_of_cell? w _ hx368_3)).trans hx368_3
                  replace p368 := eq_true p368
                  replace q368 := eq_true q368
                  have p369 : 0 ≤ (a1_2 : Int) := of_decide_eq_true (by first | (with_reducible assumption) | assumption)
                  have q369 : a1_2 < (l0.length : Int) := of_decide_eq_true (by first | (with_reducible assumption) | assumption)
                  obtain ⟨ad369, e369, hx369_0, hx369_1, hx369_2, hx369_3⟩ := at_T68 a3.out a1_2 p369 q369
                  obtain rfl : ad368 = ad369 := (by injection e369)
                  replace hx369_0 := (HB.out.cell (World.block_lt_of_cell? w _ hx369_0)).trans hx369_0
                  replace hx369_1 := (HB.out.cell (World.block_lt_of_cell? w _ hx369_1)).trans hx369_1
                  replace hx369_2 := (HB.out.cell (World.block_lt_of_cell? w _ hx369_2)).trans hx369_2
                  replace hx369_3 := (HB.out.cell (World.block_lt_of_cell? w _ hx369_3)).trans hx369_3
                  replace p369 := eq_true p369
                  replace q369 := eq_true q369
                  go_wp2
                  go_ret
                  exact ⟨by first | rfl | (simp [errW_none, errW_some] <;> rfl) | (simp [*, errW_none, errW_some] <;> rfl), by repeat (first | (with_reducible first | exact HB.out | apply lA1_ | apply lN_ | apply lD_ | refine lS1_ ?_ a1.out) | exact HB.out)⟩
                ·rw [if_neg c57] at H
                 exact absurd H (by simp)
               ·rw [if_neg c56] at H
                exact absurd H (by simp)
              ·rw [if_neg c55] at H
               have c55b0 : decide (1 < t363) = false := decide_eq_false c55
               clear c55
               obtain rfl := Option.some.inj H
               obtain ⟨_, _, _, _, _, _, _, _⟩ := bc4 a0.out
               have p368 : 0 ≤ (a1_1 : Int) := of_decide_eq_true (by first | (with_reducible assumption) | assumption)
               have q368 : a1_1 < (l0.length : Int) := of_decide_eq_true (by first | (with_reducible assumption) | assumption)
               obtain ⟨ad368, e368, hx368_0, hx368_1, hx368_2, hx368_3⟩ := at_T68 a3.out a1_1 p368 q368
               cases e368
               replace hx368_0 := (HB.out.cell (World.block_lt_of_cell? w _ hx368_0)).trans hx368_0
               replace hx368_1 := (HB.out.cell (World.block_lt_of_cell? w _ hx368_1)).trans hx368_1
               replace hx368_2 := (HB.out.cell (World.block_lt_of_cell? w _ hx368_2)).trans hx368_2
               replace hx368_3 := (HB.out.cell (World.block_lt_of_cell? w _ hx368_3)).trans hx368_3
               replace p368 := eq_true p368
               replace q368 := eq_true q368
               go_wp2
               go_ret
               exact ⟨by first | rfl | (simp [errW_none, errW_some] <;> rfl) | (simp [*, errW_none, errW_some] <;> rfl), by repeat (first | (with_reducible first | exact HB.out | apply lA1_ | apply lN_ | apply lD_ | refine lS1_ ?_ a1.out) | exact HB.out)⟩
             ·rw [if_neg c54] at H
              have c54b0 : (((rd_T68 l0 a1_1).f0) == 2) = false := beq_eq_false_iff_ne.mpr c54
              have c54b1 : (((rd_T68 l0 a1_1).f0) != 2) = true := bne_iff_ne.mpr c54
              obtain rfl := Option.some.inj H
              obtain ⟨_, _, _, _, _, _, _, _⟩ := bc4 a0.out
              have p368 : 0 ≤ (a1_1 : Int) := of_decide_eq_true (by first | (with_reducible assumption) | assumption)
              have q368 : a1_1 < (l0.length : Int) := of_decide_eq_true (by first | (with_reducible assumption) | assumption)
              obtain ⟨ad368, e368, hx368_0, hx368_1, hx368_2, hx368_3⟩ := at_T68 a3.out a1_1 p368 q368
              cases e368
              replace hx368_0 := (HB.out.cell (World.block_lt_of_cell? w _ hx368_0)).trans hx368_0
              replace hx368_1 := (HB.out.cell (World.block_lt_of_cell? w _ hx368_1)).trans hx368_1
              replace hx368_2 := (HB.out.cell (World.block_lt_of_cell? w _ hx368_2)).trans hx368_2
              replace hx368_3 := (HB.out.cell (World.block_lt_of_cell? w _ hx368_3)).trans hx368_3
              replace p368 := eq_true p368
              replace q368 := eq_true q368
              go_wp2
              go_ret
              exact ⟨by first | rfl | (simp [errW_none, errW_some] <;> rfl) | (simp [*, errW_none, errW_some] <;> rfl), by repeat (first | (with_reducible first | exact HB.out | apply lA1_ | apply lN_ | apply lD_ | refine lS1_ ?_ a1.out) | exact HB.out)⟩
            ·rw [if_neg c53] at H
             exact absurd H (by simp)
           ·rw [if_neg c52] at H
            exact absurd H (by simp)
          ·replace c51 := Bool.eq_false_iff.mpr c51
           subst c51
           rw [if_neg (show ¬ (false = true) by decide)] at H
           obtain rfl := Option.some.inj H
           go_wp2
           go_ret
           exact ⟨by first | rfl | (simp [errW_none, errW_some] <;> rfl) | (simp [*, errW_none, errW_some] <;> rfl), by repeat (first | (with_reducible first | exact HB.out | apply lA1_ | apply lN_ | apply lD_ | refine lS1_ ?_ a1.out) | exact HB.out)⟩
 ·replace c4 := Bool.eq_false_iff.mpr c4
  subst c4
  rw [if_neg (show ¬ (false = true) by decide)] at H
  obtain rfl := Option.some.inj H
  go_enter Try.func47, Try.ntmps47
  go_wp2_with (first | ((with_reducible refine gate_dst (N := 3) rfl ?_); refine box_event ?hg (N := 3) ?hd (cs := #[.int .i64 a1_0, .int .i64 a1_1, .int .i64 a1_2, .int .i64 a1_3]) (t := 68) ?hr ?_; (case hd => rfl); (case hg => rfl); (case hr => first | (go_simp; done) | (go_simp; rfl)); intro a2 hg w65 hbox hb; have n0_ := Aside0.mk (lP_ (by repeat (first | (with_reducible first | exact HB.out | apply lA1_ | apply lN_ | apply lD_) | exact HB.out)) hb); have n1_ := Aside0.mk (hbox); have n3_ := Aside0.mk ((by rw [hg]; exact (below_size (by repeat (first | (with_reducible first | exact HB.out | apply lA1_ | apply lN_ | apply lD_) | exact HB.out))) : w.heap.size ≤ a2)); clear HB; have HB := n0_; have a0 := n1_; have a1 := n3_; clear n0_ n1_ n3_ hb hbox hg; obtain ⟨_, _, _, _, _, _, _, _⟩ := bc4 a0.out) | ((with_reducible refine gate_callee (f := 32) rfl ?_); refine goesA_ (some 9) rfl rfl Try.func32 (by kernel_rfl) rfl #[.int .i64 a1_0, .int .i64 1, .int .i64 7] rfl ?_; (with_reducible refine (spec_l1In.calls a1_0 1 7 false _ A3.out).mono ?_); rintro e w' ⟨rfl, ⟨nd, rfl⟩⟩; refine ⟨_, rfl, ?_⟩))
  go_ret
  exact ⟨by first | rfl | (simp [errW_none, errW_some] <;> rfl) | (simp [*, errW_none, errW_some] <;> rfl), by repeat (first | (with_reducible first | exact HB.out | apply lA1_ | apply lN_ | apply lD_ | refine lS1_ ?_ a1.out) | exact HB.out)⟩
theorem eqA68 (d : Nat) (w : World) (x0 y0 : Int) (x1 y1 : Int) (x2 y2 : Int) (x3 y3 : Int) :
    (Op.equalIn (d + 2) 68 (.agg #[.int .i64 x0, .int .i64 x1, .int .i64 x2, .int .i64 x3]) (.agg #[.int .i64 y0, .int .i64 y1, .int .i64 y2, .int .i64 y3])).run Try.prog w = .ok (x0 == y0 && (x1 == y1 && (x2 == y2 && (x3 == y3)))) w := by
  refine eqA_of Try.underlying68 (by kernel_rfl) ?_
  refine eqf_cons (by rfl) (by go_simp; rfl) (by go_simp; rfl) (by go_simp) ?_
  refine eqf_cons (by rfl) (by go_simp; rfl) (by go_simp; rfl) (by go_simp) ?_
  refine eqf_cons (by rfl) (by go_simp; rfl) (by go_simp; rfl) (by go_simp) ?_
  exact eqf_last (by rfl) (by go_simp; rfl) (by go_simp; rfl) (by go_simp)
end Go.Proofs.Ytaniedjfkiklmaa.G
namespace Go.Proofs.Ytaniedjfkiklmaa.G
open Go.RowKit Go.Proofs.YtaniedjfkiklmaaW.PrintWords Go.Proofs.YtaniedjfkiklmaaW.PrintLast Go.Proofs.YtaniedjfkiklmaaW.PrintMore
attribute [local go_sem] max2_int min2_int max_two min_two max_three min_three max_four min_four   -- for this text's walks alone
set_option linter.unusedVariables false
set_option linter.unusedSimpArgs false
attribute [local go_sem high] eqA68
def spec_l5Find.l0 : Nat → List (S68) → Int → Int → Int → Int → Int → Option (Int)
 | 0, _, _, _, _, _, _ => none
 | k + 1, x0, x5, x371000, x371001, x371002, x371003 => if x5 < (x0.length : Int) then (if 0 ≤ x5 then (if (((rd_T68 x0 x5).f0) == x371000 && (((rd_T68 x0 x5).f1) == x371001 && (((rd_T68 x0 x5).f2) == x371002 && (((rd_T68 x0 x5).f3) == x371003)))) = true then (some x5) else (spec_l5Find.l0 k x0 (wrap64 (x5 + 1)) x371000 x371001 x371002 x371003)) else (none)) else (some (-1))
def spec_l5Find.f (k : Nat) (l0 : List (S68)) (a1_0 : Int) (a1_1 : Int) (a1_2 : Int) (a1_3 : Int) : Option (Int) := spec_l5Find.l0 k l0 0 a1_0 a1_1 a1_2 a1_3
set_option maxHeartbeats 8000000 in
set_option maxRecDepth 100000 in
theorem spec_l5Find.calls (k : Nat) (A0 : Option Addr) (c0 : Nat) (l0 : List (S68)) (a1_0 : Int) (a1_1 : Int) (a1_2 : Int) (a1_3 : Int) (r : Int) (w : World) (hr0 : Kd.C k68 w A0 l0.length l0) (hc0 : l0.length ≤ c0) (h : spec_l5Find.f k l0 a1_0 a1_1 a1_2 a1_3 = some r) :
  Calls Try.prog 48 #[.slice A0 l0.length c0, .agg #[.int .i64 a1_0, .int .i64 a1_1, .int .i64 a1_2, .int .i64 a1_3]] w fun e w' => e = .returned (.int .i64 r) ∧ Below w.heap.size w w' := by
 have hu68 := Try.underlying68
 have a4 := Aside0.mk hr0
 have a5 := Aside0.mk hc0
 clear hr0 hc0
 have HB := Aside0.mk (Below.refl w.heap.size w)
 have H : (spec_l5Find.l0 k l0 0 a1_0 a1_1 a1_2 a1_3) = some r := h
 clear h
 have H' := Aside0.mk H
 clear H
 go_enter Try.func48, Try.ntmps48
 go_wp2_with (first | ((with_reducible refine gate_dst (N := 3) rfl ?_); refine box_event ?hg (N := 3) ?hd (cs := #[.int .i64 a1_0, .int .i64 a1_1, .int .i64 a1_2, .int .i64 a1_3]) (t := 68) ?hr ?_; (case hd => rfl); (case hg => rfl); (case hr => first | (go_simp; done) | (go_simp; rfl)); intro a0 hg w3 hbox hb; have n0_ := Aside0.mk (lP_ HB.out hb); have n1_ := Aside0.mk (hbox); have n2_ := Aside0.mk ((by rw [hg]; exact (below_size HB.out) : w.heap.size ≤ a0)); have n3_ := n2_; clear HB; have HB := n0_; have a1 := n1_; have a3 := n2_; have a2 := n3_; clear n0_ n1_ n2_ n3_ hb hbox hg))
 repeat (go_quiet (first | ((with_reducible refine gate_dst (N := 3) rfl ?_); refine box_event ?hg (N := 3) ?hd (cs := #[.int .i64 a1_0, .int .i64 a1_1, .int .i64 a1_2, .int .i64 a1_3]) (t := 68) ?hr ?_; (case hd => rfl); (case hg => rfl); (case hr => first | (go_simp; done) | (go_simp; rfl)); intro a0 hg w3 hbox hb; have n0_ := Aside0.mk (lP_ (by repeat (first | (with_reducible first | exact HB.out | apply lA1_ | apply lN_ | apply lD_) | exact HB.out)) hb); have n1_ := Aside0.mk (hbox); have n2_ := Aside0.mk ((by rw [hg]; exact (below_size (by repeat (first | (with_reducible first | exact HB.out | apply lA1_ | apply lN_ | apply lD_) | exact HB.out))) : w.heap.size ≤ a0)); have n3_ := Aside0.mk ((by rw [hg]; exact (below_size (by repeat (first | (with_reducible first | exact HB.out | apply lA1_ | apply lN_ | apply lD_) | exact HB.out))) : w.heap.size ≤ a0)); clear HB; have HB := n0_; have a1 := n1_; have a3 := n2_; have a2 := n3_; clear n0_ n1_ n2_ n3_ hb hbox hg)); try go_wp2_with (first | ((with_reducible refine gate_dst (N := 3) rfl ?_); refine box_event ?hg (N := 3) ?hd (cs := #[.int .i64 a1_0, .int .i64 a1_1, .int .i64 a1_2, .int .i64 a1_3]) (t := 68) ?hr ?_; (case hd => rfl); (case hg => rfl); (case hr => first | (go_simp; done) | (go_simp; rfl)); intro a0 hg w3 hbox hb; have n0_ := Aside0.mk (lP_ HB.out hb); have n1_ := Aside0.mk (hbox); have n3_ := Aside0.mk ((by rw [hg]; exact (below_size HB.out) : w.heap.size ≤ a0)); clear HB; have HB := n0_; have a1 := n1_; have a2 := n3_; clear n0_ n1_ n3_ hb hbox hg)))
 go_loopg [5] k (fun kq v5 w' => ∃ (x5_1 : Int), v5 = .int .i64 x5_1 ∧ Aside0 (spec_l5Find.l0 kq l0 x5_1 a1_0 a1_1 a1_2 a1_3 = some r) ∧ Aside0 (kq ≤ k) ∧ Aside0 (w'.heap[a0]? = some (.cells #[.int .i64 a1_0, .int .i64 a1_1, .int .i64 a1_2, .int .i64 a1_3] 68 (0, 0))) ∧ Aside0 (Below w.heap.size w w'))
 case atStart => exact ⟨(0), (by first | rfl | (simp; done) | (simp [*]; done)), H', ⟨Nat.le_refl _⟩, ⟨by (with_reducible repeat first | apply bN_ | apply bD_ | apply bA_); exact a1.out⟩, ⟨by repeat (first | (with_reducible first | exact HB.out | apply lA1_ | apply lN_ | apply lD_ | refine lS1_ ?_ a2.out) | exact HB.out)⟩⟩
 case round =>
  clear H'
  try clear p2
  obtain ⟨x5_1, rfl, HA, HK1, a1, HB⟩ := hrel
  cases gk with
  | zero => exact absurd HA.out (by simp [spec_l5Find.l0])
  | succ k1 =>
   have H := HA.out
   clear HA
   simp only [spec_l5Find.l0] at H
   by_cases c4 : x5_1 < (l0.length : Int)
   ·rw [if_pos c4] at H
    have c4b0 : decide (x5_1 < (l0.length : Int)) = true := decide_eq_true c4
    clear c4
    by_cases c5 : 0 ≤ x5_1
    ·rw [if_pos c5] at H
     have c5b0 : decide (0 ≤ x5_1) = true := decide_eq_true c5
     clear c5
     by_cases c6 : (((rd_T68 l0 x5_1).f0) == a1_0 && (((rd_T68 l0 x5_1).f1) == a1_1 && (((rd_T68 l0 x5_1).f2) == a1_2 && (((rd_T68 l0 x5_1).f3) == a1_3)))) = true
     ·rw [if_pos c6] at H
      have c6b0 : (((rd_T68 l0 x5_1).f0) == a1_0 && (((rd_T68 l0 x5_1).f1) == a1_1 && (((rd_T68 l0 x5_1).f2) == a1_2 && (((rd_T68 l0 x5_1).f3) == a1_3)))) = true := c6
      (try (have c6b1 : decide (((rd_T68 l0 x5_1).f0) = a1_0 && (((rd_T68 l0 x5_1).f1) == a1_1 && (((rd_T68 l0 x5_1).f2) == a1_2 && (((rd_T68 l0 x5_1).f3) == a1_3)))) = true := by simpa using c6))
      (try (have c6b2 : (((rd_T68 l0 x5_1).f0) == a1_0 && (((rd_T68 l0 x5_1).f1) == a1_1 && (((rd_T68 l0 x5_1).f2) == a1_2 && (((rd_T68 l0 x5_1).f3) == a1_3)))) = true := by simpa using c6))
      clear c6
      obtain rfl := Option.some.inj H
      have p371 : 0 ≤ (x5_1 : Int) := of_decide_eq_true (by first | (with_reducible assumption) | assumption)
      have q371 : x5_1 < (l0.length : Int) := of_decide_eq_true (by first | (with_reducible assumption) | assumption)
      obtain ⟨ad371, e371, hx371_0, hx371_1, hx371_2, hx371_3⟩ := at_T68 a4.out x5_1 p371 q371
      cases e371
      replace hx371_0 := (HB.out.cell (World.block_lt_of_cell? w _ hx371_0)).trans hx371_0
      replace hx371_1 := (HB.out.cell (World.block_lt_of_cell? w _ hx371_1)).trans hx371_1
      replace hx371_2 := (HB.out.cell (World.block_lt_of_cell? w _ hx371_2)).trans hx371_2
      replace hx371_3 := (HB.out.cell (World.block_lt_of_cell? w _ hx371_3)).trans hx371_3
      replace p371 := eq_true p371
      replace q371 := eq_true q371
      obtain ⟨_, _, _, _, _, _, _, _⟩ := bc4 a1.out
      go_wp2
      repeat (go_quiet (fail); try go_wp2)
      go_ret
      exact ⟨by first | rfl | (simp [errW_none, errW_some] <;> rfl) | (simp [*, errW_none, errW_some] <;> rfl), by repeat (first | (with_reducible first | exact HB.out | apply lA1_ | apply lN_ | apply lD_ | refine lS1_ ?_ a2.out) | exact HB.out)⟩
     ·rw [if_neg c6] at H
      have c6b0 : (((rd_T68 l0 x5_1).f0) == a1_0 && (((rd_T68 l0 x5_1).f1) == a1_1 && (((rd_T68 l0 x5_1).f2) == a1_2 && (((rd_T68 l0 x5_1).f3) == a1_3)))) = false := by simpa using c6
      (try (have c6b1 : decide (((rd_T68 l0 x5_1).f0) = a1_0 && (((rd_T68 l0 x5_1).f1) == a1_1 && (((rd_T68 l0 x5_1).f2) == a1_2 && (((rd_T68 l0 x5_1).f3) == a1_3)))) = false := by simpa using c6))
      (try (have c6b2 : (((rd_T68 l0 x5_1).f0) == a1_0 && (((rd_T68 l0 x5_1).f1) == a1_1 && (((rd_T68 l0 x5_1).f2) == a1_2 && (((rd_T68 l0 x5_1).f3) == a1_3)))) = false := by simpa using c6))
      (try (have c6b3 : ¬ (((rd_T68 l0 x5_1).f0) = a1_0 && (((rd_T68 l0 x5_1).f1) == a1_1 && (((rd_T68 l0 x5_1).f2) == a1_2 && (((rd_T68 l0 x5_1).f3) == a1_3)))) := by simpa using c6))
      clear c6
      have H' := Aside0.mk H
      clear H
      have p371 : 0 ≤ (x5_1 : Int) := of_decide_eq_true (by first | (with_reducible assumption) | assumption)
      have q371 : x5_1 < (l0.length : Int) := of_decide_eq_true (by first | (with_reducible assumption) | assumption)
      obtain ⟨ad371, e371, hx371_0, hx371_1, hx371_2, hx371_3⟩ := at_T68 a4.out x5_1 p371 q371
      cases e371
      replace hx371_0 := (HB.out.cell (World.block_lt_of_cell? w _ hx371_0)).trans hx371_0
      replace hx371_1 := (HB.out.cell (World.block_lt_of_cell? w _ hx371_1)).trans hx371_1
      replace hx371_2 := (HB.out.cell (World.block_lt_of_cell? w _ hx371_2)).trans hx371_2
      replace hx371_3 := (HB.out.cell (World.block_lt_of_cell? w _ hx371_3)).trans hx371_3
      replace p371 := eq_true p371
      replace q371 := eq_true q371
      obtain ⟨_, _, _, _, _, _, _, _⟩ := bc4 a1.out
      go_wp2
      repeat (go_quiet (fail); try go_wp2)
      go_roundg k1
      case measure => have := HK1.out; omega
      case rel => exact ⟨(wrap64 (x5_1 + 1)), (by first | rfl | (simp; done) | (simp [*]; done)), H', ⟨by have := HK1.out; omega⟩, ⟨by (with_reducible repeat first | apply bN_ | apply bD_ | apply bA_); exact a1.out⟩, ⟨by repeat (first | (with_reducible first | exact HB.out | apply lA1_ | apply lN_ | apply lD_ | refine lS1_ ?_ a2.out) | exact HB.out)⟩⟩
    ·rw [if_neg c5] at H
     exact absurd H (by simp)
   ·rw [if_neg c4] at H
    have c4b0 : decide (x5_1 < (l0.length : Int)) = false := decide_eq_false c4
    clear c4
    obtain rfl := Option.some.inj H
    go_wp2
    repeat (go_quiet (fail); try go_wp2)
    go_ret
    exact ⟨by first | rfl | (simp [errW_none, errW_some] <;> rfl) | (simp [*, errW_none, errW_some] <;> rfl), by repeat (first | (with_reducible first | exact HB.out | apply lA1_ | apply lN_ | apply lD_ | refine lS1_ ?_ a2.out) | exact HB.out)⟩
end Go.Proofs.Ytaniedjfkiklmaa.G
namespace Go.Proofs.Ytaniedjfkiklmaa.G
open Go.RowKit Go.Proofs.YtaniedjfkiklmaaW.PrintWords Go.Proofs.YtaniedjfkiklmaaW.PrintLast Go.Proofs.YtaniedjfkiklmaaW.PrintMore
attribute [local go_sem] max2_int min2_int max_two min_two max_three min_three max_four min_four   -- for this text's walks alone
set_option linter.unusedVariables false
set_option linter.unusedSimpArgs false
def spec_TermsFault.l0 : Nat → List (S68) → Int → Option (Int)
 | 0, _, _ => none
 | k + 1, x0, x3 => if x3 < (x0.length : Int) then (if 0 ≤ x3 then (if x3 ≤ (x0.length : Int) then ((spec_l5Term.f k (x0.take (x3 : Int).toNat) ((rd_T68 x0 x3).f0) ((rd_T68 x0 x3).f1) ((rd_T68 x0 x3).f2) ((rd_T68 x0 x3).f3)).bind fun t377 => (if t377 = 0 then ((spec_l5Find.f k (x0.take (x3 : Int).toNat) ((rd_T68 x0 x3).f0) ((rd_T68 x0 x3).f1) ((rd_T68 x0 x3).f2) ((rd_T68 x0 x3).f3)).bind fun t383 => (if t383 ≥ 0 then (some 7) else (spec_TermsFault.l0 k x0 (wrap64 (x3 + 1))))) else (some t377))) else (none)) else (none)) else (some 0)
def spec_TermsFault.f (k : Nat) (l0 : List (S68)) : Option (Int) := if (l0.length : Int) > 400 then (some 2) else (spec_TermsFault.l0 k l0 0)
def spec_TermsFault.T6 : Bool × List (List Nat × List Nat) := (true, [([], []), ([], []), ([0, 1], [0, 1]), ([], []), ([], []), ([3, 4], [3, 4]), ([5], [5]), ([2, 6], [2, 6]), ([7, 7, 0, 1, 2, 3, 4, 5, 6, 7], [7])])
def spec_TermsFault.B6 : List Nat := [0, 0, 3, 0, 0, 24, 56, 127, 255]
theorem spec_TermsFault.tab6 : rtab .any (opsOf Try.f37 6) = spec_TermsFault.T6 := by kernel_rfl
theorem spec_TermsFault.bits6 : waitsOk spec_TermsFault.T6.2 spec_TermsFault.B6 = true := by kernel_rfl
def spec_TermsFault.T9 : Bool × List (List Nat × List Nat) := (true, [([], []), ([], []), ([0, 1], [0, 1]), ([], []), ([], []), ([3, 4], [3, 4]), ([5], [5]), ([2, 6], [2, 6]), ([7], [7])])
def spec_TermsFault.B9 : List Nat := [0, 0, 3, 0, 0, 24, 56, 127, 255]
theorem spec_TermsFault.tab9 : rtab .any (opsOf Try.f37 9) = spec_TermsFault.T9 := by kernel_rfl
theorem spec_TermsFault.bits9 : waitsOk spec_TermsFault.T9.2 spec_TermsFault.B9 = true := by kernel_rfl
abbrev spec_TermsFault.calls.b0 : Array Bool := #[false,false,false,false,false,false,false,false,false]
abbrev spec_TermsFault.calls.b1 : Array Bool := #[true,false,false,false,false,false,false,false,false]
abbrev spec_TermsFault.calls.b2 : Array Bool := #[true,true,false,false,false,false,false,false,false]
abbrev spec_TermsFault.calls.b3 : Array Bool := #[true,true,true,false,false,false,false,false,false]
abbrev spec_TermsFault.calls.b4 : Array Bool := #[true,true,true,true,false,false,false,false,false]
abbrev spec_TermsFault.calls.b5 : Array Bool := #[true,true,true,true,true,false,false,false,false]
abbrev spec_TermsFault.calls.b6 : Array Bool := #[true,true,true,true,true,true,false,false,false]
abbrev spec_TermsFault.calls.b7 : Array Bool := #[true,true,true,true,true,true,true,false,false]
abbrev spec_TermsFault.calls.b8 : Array Bool := #[true,true,true,true,true,true,true,true,false]
abbrev spec_TermsFault.calls.b9 : Array Bool := #[true,true,true,true,true,true,true,true,true]
set_option maxHeartbeats 8000000 in
set_option maxRecDepth 100000 in
theorem spec_TermsFault.calls (k : Nat) (A0 : Option Addr) (c0 : Nat) (l0 : List (S68)) (r : Int) (w : World) (hr0 : Kd.C k68 w A0 l0.length l0) (hc0 : l0.length ≤ c0) (h : spec_TermsFault.f k l0 = some r) :
  Calls Try.prog 37 #[.slice A0 l0.length c0] w fun e w' => e = .returned (.int .i64 r) ∧ Below w.heap.size w w' := by
 have hu68 := Try.underlying68
 have a3 := Aside0.mk hr0
 have aa := Aside0.mk hc0
 clear hr0 hc0
 have HB := Aside0.mk (Below.refl w.heap.size w)
 have H : (if (l0.length : Int) > 400 then (some 2) else (spec_TermsFault.l0 k l0 0)) = some r := h
 clear h
 by_cases c2 : (l0.length : Int) > 400
 ·rw [if_pos c2] at H
  have c2b0 : decide (400 < (l0.length : Int)) = true := decide_eq_true c2
  have c2b1 : decide (400 < l0.length) = true := decide_eq_true (by omega)
  clear c2
  obtain rfl := Option.some.inj H
  go_enter Try.func37, Try.ntmps37
  go_wp2
  go_ret
  exact ⟨by first | rfl | (simp [errW_none, errW_some] <;> rfl) | (simp [*, errW_none, errW_some] <;> rfl), by repeat (first | (with_reducible first | exact HB.out | apply lA1_ | apply lN_ | apply lD_) | exact HB.out)⟩
 ·rw [if_neg c2] at H
  have c2b0 : decide (400 < (l0.length : Int)) = false := decide_eq_false c2
  have c2b1 : decide (400 < l0.length) = false := decide_eq_false (by omega)
  clear c2
  have H' := Aside0.mk H
  clear H
  go_enter Try.func37, Try.ntmps37
  go_wp2
  go_loopg [3] k (fun kq v3 w' => ∃ (x3_1 : Int), v3 = .int .i64 x3_1 ∧ Aside0 (spec_TermsFault.l0 kq l0 x3_1 = some r) ∧ Aside0 (kq ≤ k) ∧ Aside0 (Below w.heap.size w w'))
  case atStart => exact ⟨(0), (by first | rfl | (simp; done) | (simp [*]; done)), H', ⟨Nat.le_refl _⟩, ⟨by repeat (first | (with_reducible first | exact HB.out | apply lA1_ | apply lN_ | apply lD_) | exact HB.out)⟩⟩
  case round =>
   clear H'
   try clear c2
   try clear c2b0
   try clear c2b1
   try clear p2
   obtain ⟨x3_1, rfl, HA, HK1, HB⟩ := hrel
   cases gk with
   | zero => exact absurd HA.out (by simp [spec_TermsFault.l0])
   | succ k1 =>
    have H := HA.out
    clear HA
    simp only [spec_TermsFault.l0] at H
    by_cases c3 : x3_1 < (l0.length : Int)
    ·rw [if_pos c3] at H
     have c3b0 : decide (x3_1 < (l0.length : Int)) = true := decide_eq_true c3
     clear c3
     by_cases c4 : 0 ≤ x3_1
     ·rw [if_pos c4] at H
      have c4b0 := eq_true c4
      have c4b1 : decide (0 ≤ x3_1) = true := decide_eq_true c4
      clear c4
      by_cases c5 : x3_1 ≤ (l0.length : Int)
      ·rw [if_pos c5] at H
       have c5b0 := eq_true c5
       have c5b1 : decide (x3_1 ≤ (l0.length : Int)) = true := decide_eq_true c5
       clear c5
       obtain ⟨y372, hy372⟩ : ∃ y_ : List (S68), y_ = (l0.take (x3_1 : Int).toNat) := ⟨_, rfl⟩
       replace H : ((spec_l5Term.f k1 y372 ((rd_T68 l0 x3_1).f0) ((rd_T68 l0 x3_1).f1) ((rd_T68 l0 x3_1).f2) ((rd_T68 l0 x3_1).f3)).bind fun t377 => (if t377 = 0 then ((spec_l5Find.f k1 (l0.take (x3_1 : Int).toNat) ((rd_T68 l0 x3_1).f0) ((rd_T68 l0 x3_1).f1) ((rd_T68 l0 x3_1).f2) ((rd_T68 l0 x3_1).f3)).bind fun t383 => (if t383 ≥ 0 then (some 7) else (spec_TermsFault.l0 k1 l0 (wrap64 (x3_1 + 1))))) else (some t377))) = some r := by first | (rw [hy372]; with_reducible exact H) | (have H2_ := (Option.bind_some _ _).symm.trans H; rw [hy372]; with_reducible exact H2_) | (have H2_ := (Option.bind_some _ _).symm.trans H; with_reducible exact H2_) | with_reducible exact H | (rw [hy372]; exact H) | exact H
       have a2 := Aside0.mk hy372
       clear hy372
       replace H := Option.bind_eq_some_iff.mp H
       obtain ⟨t377, ae, H⟩ := H
       try dsimp only at H
       have A6 := Aside0.mk ae
       clear ae
       by_cases c7 : t377 = 0
       ·rw [if_pos c7] at H
        have c7b0 : (t377 == 0) = true := beq_iff_eq.mpr c7
        have c7b1 : (t377 != 0) = false := bne_eq_false_iff_eq.mpr c7
        clear c7
        have c8b0 := eq_true (of_decide_eq_true (by first | (with_reducible assumption) | assumption) : 0 ≤ x3_1)
        have c9b0 := eq_true (of_decide_eq_true (by first | (with_reducible assumption) | assumption) : x3_1 ≤ (l0.length : Int))
        obtain ⟨y378, hy378⟩ : ∃ y_ : List (S68), y_ = (l0.take (x3_1 : Int).toNat) := ⟨_, rfl⟩
        replace H : ((spec_l5Find.f k1 y378 ((rd_T68 l0 x3_1).f0) ((rd_T68 l0 x3_1).f1) ((rd_T68 l0 x3_1).f2) ((rd_T68 l0 x3_1).f3)).bind fun t383 => (if t383 ≥ 0 then (some 7) else (spec_TermsFault.l0 k1 l0 (wrap64 (x3_1 + 1))))) = some r := by first | (rw [hy378]; with_reducible exact H) | (have H2_ := (Option.bind_some _ _).symm.trans H; rw [hy378]; with_reducible exact H2_) | (have H2_ := (Option.bind_some _ _).symm.trans H; with_reducible exact H2_) | with_reducible exact H | (rw [hy378]; exact H) | exact H
        have a7 := Aside0.mk hy378
        clear hy378
        replace H := Option.bind_eq_some_iff.mp H
        obtain ⟨t383, ac, H⟩ := H
        try dsimp only at H
        have af := Aside0.mk ac
        clear ac
        by_cases c11 : t383 ≥ 0
        ·rw [if_pos c11] at H
         have c11b0 : decide (0 ≤ t383) = true := decide_eq_true c11
         clear c11
         obtain rfl := Option.some.inj H
         try go_wp2
         have n0_ := Aside0.mk (lD_ HB.out)
         clear HB
         have HB := n0_
         clear n0_
         have q13 : (x3_1 : Int) ≤ ((l0.length : Int) : Int) := of_decide_eq_true (by first | (with_reducible assumption) | assumption)
         obtain ⟨i013, hi013, _, hsz13, _⟩ := info_parts info68
         have hroom13 : l0.length ≤ c0 := aa.out
         have hC13 : Kd.C k68 _ A0 l0.length l0 := a3.out
         have a1 := cut_to (P := Try.prog) 39 68 .i64 Try.underlying39 hi013 A0 l0.length c0 x3_1 (of_decide_eq_true (by first | (with_reducible assumption) | assumption)) q13 hroom13
         have hr13 := Kd.C_take (m := (x3_1 : Int).toNat) hC13 (by omega)
         have hy13 : y372.length = (x3_1 : Int).toNat := (by rw [a2.out, List.length_take]; omega)
         rw [← a2.out] at hr13
         rw [← hy13] at a1
         have a0 := Aside0.mk hr13
         have a4 := Aside0.mk (show y372.length ≤ c0 from by omega)
         clear hr13 hC13 hroom13 hi013 hsz13
         have KY13 := Aside0.mk hy13
         clear hy13
         replace q13 := eq_true q13
         have p376 : 0 ≤ (x3_1 : Int) := of_decide_eq_true (by first | (with_reducible assumption) | assumption)
         have q376 : x3_1 < (l0.length : Int) := of_decide_eq_true (by first | (with_reducible assumption) | assumption)
         obtain ⟨ad376, e376, hx376_0, hx376_1, hx376_2, hx376_3⟩ := at_T68 a3.out x3_1 p376 q376
         have hw376_3 := hx376_3
         have hw376_2 := hx376_2
         have hw376_1 := hx376_1
         have hw376_0 := hx376_0
         cases e376
         replace hx376_0 := (HB.out.cell (World.block_lt_of_cell? w _ hx376_0)).trans hx376_0
         replace hx376_1 := (HB.out.cell (World.block_lt_of_cell? w _ hx376_1)).trans hx376_1
         replace hx376_2 := (HB.out.cell (World.block_lt_of_cell? w _ hx376_2)).trans hx376_2
         replace hx376_3 := (HB.out.cell (World.block_lt_of_cell? w _ hx376_3)).trans hx376_3
         replace p376 := eq_true p376
         replace q376 := eq_true q376
         refine start_ (n := 9) (S := fun w' => w'.cell? (ad376.add ((x3_1).toNat * 4)) = some (.int .i64 ((rd_T68 l0 x3_1).f0)) ∧ w'.cell? ⟨(ad376.add ((x3_1).toNat * 4)).block, (ad376.add ((x3_1).toNat * 4)).off + 1, none⟩ = some (.int .i64 ((rd_T68 l0 x3_1).f1)) ∧ w'.cell? ⟨(ad376.add ((x3_1).toNat * 4)).block, (ad376.add ((x3_1).toNat * 4)).off + 2, none⟩ = some (.int .i64 ((rd_T68 l0 x3_1).f2)) ∧ w'.cell? ⟨(ad376.add ((x3_1).toNat * 4)).block, (ad376.add ((x3_1).toNat * 4)).off + 3, none⟩ = some (.int .i64 ((rd_T68 l0 x3_1).f3))) (ds := []) spec_TermsFault.calls.b0 (by kernel_rfl) rfl rfl ⟨((HB.out.cell (World.block_lt_of_cell? w _ hw376_0)).trans hw376_0), ((HB.out.cell (World.block_lt_of_cell? w _ hw376_1)).trans hw376_1), ((HB.out.cell (World.block_lt_of_cell? w _ hw376_2)).trans hw376_2), ((HB.out.cell (World.block_lt_of_cell? w _ hw376_3)).trans hw376_3)⟩ (fun hHeld => ?_); refine with_tabW spec_TermsFault.tab6 spec_TermsFault.bits6 (fun HT_ HW_ => ?_)
         generalize wr.drew = w12 at HB a0 hx376_0 hx376_1 hx376_2 hx376_3 hHeld ⊢
         refine pure_ (i := 0) (N := some 14) (v := ?_) (a' := ?_) spec_TermsFault.calls.b1 rfl rfl (any_of HT_.out (by kernel_rfl)) (fun _ _ _ h => h) (Or.inl ⟨by rfl, ?_⟩) ?_ ?_
         rotate_left
         ·intro w'
          go_simp
          with_reducible rfl
         rotate_left
         ·simp only [Act.put, lA_, lZ_, lS_, i64_w, i32_w]
          rfl
         refine pure_ (i := 1) (N := some 15) (v := ?_) (a' := ?_) spec_TermsFault.calls.b2 rfl rfl (any_of HT_.out (by kernel_rfl)) (fun _ _ _ h => h) (Or.inl ⟨by rfl, ?_⟩) ?_ ?_
         rotate_left
         ·intro w'
          go_simp
          with_reducible rfl
         rotate_left
         ·simp only [Act.put, lA_, lZ_, lS_, i64_w, i32_w]
          rfl
         refine pure_ (i := 2) (N := some 16) (v := ?_) (a' := ?_) spec_TermsFault.calls.b3 rfl rfl (any_of HT_.out (by kernel_rfl)) (fun _ _ _ h => h) (Or.inl ⟨by rfl, ?_⟩) ?_ ?_
         rotate_left
         ·intro w'
          go_simp
          with_reducible rfl
         rotate_left
         ·simp only [Act.put, lA_, lZ_, lS_, i64_w, i32_w]
          rfl
         refine pure_ (i := 3) (N := some 17) (v := ?_) (a' := ?_) spec_TermsFault.calls.b4 rfl rfl (any_of HT_.out (by kernel_rfl)) (fun _ _ _ h => h) (Or.inl ⟨by rfl, ?_⟩) ?_ ?_
         rotate_left
         ·intro w'
          go_simp
          with_reducible rfl
         rotate_left
         ·simp only [Act.put, lA_, lZ_, lS_, i64_w, i32_w]
          rfl
         refine pure_ (i := 4) (N := some 18) (v := ?_) (a' := ?_) spec_TermsFault.calls.b5 rfl rfl (any_of HT_.out (by kernel_rfl)) (fun _ _ _ h => h) (Or.inl ⟨by rfl, ?_⟩) ?_ ?_
         rotate_left
         ·intro w'
          go_simp
          with_reducible rfl
         rotate_left
         ·simp only [Act.put, lA_, lZ_, lS_, i64_w, i32_w]
          rfl
         refine pure_ (i := 5) (N := some 19) (v := ?_) (a' := ?_) spec_TermsFault.calls.b6 rfl rfl (any_of HT_.out (by kernel_rfl)) (fun _ _ _ h => h) (Or.inl ⟨by rfl, ?_⟩) ?_ ?_
         rotate_left
         ·intro w'
          go_simp
          with_reducible rfl
         rotate_left
         ·simp only [Act.put, lA_, lZ_, lS_, i64_w, i32_w]
          rfl
         refine take_ (i := 6) (N := some 20) (v := ?_) (a' := ?_) spec_TermsFault.calls.b7 rfl rfl (take_ofW HT_.out HW_.out (by kernel_rfl)) (fun _ _ _ h => h) (Or.inl ⟨by rfl, ?_⟩) hHeld ?_ ?_
         rotate_left
         ·rintro w' ⟨s0, s1, s2, s3⟩
          go_simp
          with_reducible rfl
         rotate_left
         ·simp only [Act.put, lA_, lZ_, lS_, i64_w, i32_w]
          rfl
         refine one_ (i := 7) (N := some 21) spec_TermsFault.calls.b8 rfl rfl (one_of HT_.out (by kernel_rfl)) (by decide) (fun K hK => ?_)
         refine goes_ Try.func47 (by kernel_rfl) rfl #[.slice (some ad376) y372.length c0, .agg #[.int .i64 ((rd_T68 l0 x3_1).f0), .int .i64 ((rd_T68 l0 x3_1).f1), .int .i64 ((rd_T68 l0 x3_1).f2), .int .i64 ((rd_T68 l0 x3_1).f3)]] (by rfl) rfl rfl (by (try simp only [List.map_toArray, List.map_cons, List.map_nil]); first | done | rfl | (simp only [List.length_drop, List.length_take]; rfl)) ?_
         with_reducible refine (spec_l5Term.calls k1 _ _ y372 ((rd_T68 l0 x3_1).f0) ((rd_T68 l0 x3_1).f1) ((rd_T68 l0 x3_1).f2) ((rd_T68 l0 x3_1).f3) t377 _ ?side1 ?side2 A6.out).mono ?_
         (case side1 => repeat (first | exact (Kd.C_below a0.out HB.out) | (with_reducible refine Kd.C_alloc ?_ _) | (with_reducible refine Kd.C_drewN ?_ _) | (with_reducible refine Kd.C_drew ?_)))
         (case side2 => exact a4.out)
         rintro e w14 ⟨rfl, hb⟩
         refine ⟨_, rfl, ?_⟩
         have n0_ := Aside0.mk (lP_ (by repeat (first | (with_reducible first | exact HB.out | apply lA1_ | apply lN_ | apply lD_) | exact HB.out)) hb)
         clear HB
         have HB := n0_
         clear n0_
         (try clear hb)
         (try clear hb2)
         (try clear hk)
         (try clear hi)
         refine hK.out _ _ ⟨((HB.out.cell (World.block_lt_of_cell? w _ hw376_0)).trans hw376_0), ((HB.out.cell (World.block_lt_of_cell? w _ hw376_1)).trans hw376_1), ((HB.out.cell (World.block_lt_of_cell? w _ hw376_2)).trans hw376_2), ((HB.out.cell (World.block_lt_of_cell? w _ hw376_3)).trans hw376_3)⟩ (fun hHeld => ?_)
         clear hK K
         refine norm_ (a' := ?_) ?_ ?_
         rotate_left
         ·show Act.put _ (some 21) _ = _
          simp only [Act.put, lA_, lZ_, lS_, i64_w, i32_w]
          rfl
         refine pure_ (i := 8) (N := some 4) (v := ?_) (a' := ?_) spec_TermsFault.calls.b9 rfl rfl (any_of HT_.out (by kernel_rfl)) (fun _ _ _ h => h) (Or.inl ⟨by rfl, ?_⟩) ?_ ?_
         rotate_left
         ·intro w'
          go_simp
          with_reducible rfl
         rotate_left
         ·simp only [Act.put, lA_, lZ_, lS_, i64_w, i32_w]
          rfl
         refine done_ (done_of HT_.out (by kernel_rfl)) ?_
         try go_wp2
         have n0_ := Aside0.mk (lD_ HB.out)
         clear HB
         have HB := n0_
         clear n0_
         have q16 : (x3_1 : Int) ≤ ((l0.length : Int) : Int) := of_decide_eq_true (by first | (with_reducible assumption) | assumption)
         obtain ⟨i016, hi016, _, hsz16, _⟩ := info_parts info68
         have hroom16 : l0.length ≤ c0 := aa.out
         have hC16 : Kd.C k68 _ (some ad376) l0.length l0 := a3.out
         try clear a1
         have a5 := cut_to (P := Try.prog) 39 68 .i64 Try.underlying39 hi016 (some ad376) l0.length c0 x3_1 (of_decide_eq_true (by first | (with_reducible assumption) | assumption)) q16 hroom16
         have hr16 := Kd.C_take (m := (x3_1 : Int).toNat) hC16 (by omega)
         have hy16 : y378.length = (x3_1 : Int).toNat := (by rw [a7.out, List.length_take]; omega)
         rw [← a7.out] at hr16
         rw [← hy16] at a5
         have a6 := Aside0.mk hr16
         have a9 := Aside0.mk (show y378.length ≤ c0 from by omega)
         clear hr16 hC16 hroom16 hi016 hsz16
         have KY16 := Aside0.mk hy16
         clear hy16
         replace q16 := eq_true q16
         have p382 : 0 ≤ (x3_1 : Int) := of_decide_eq_true (by first | (with_reducible assumption) | assumption)
         have q382 : x3_1 < (l0.length : Int) := of_decide_eq_true (by first | (with_reducible assumption) | assumption)
         obtain ⟨ad382, e382, hx382_0, hx382_1, hx382_2, hx382_3⟩ := at_T68 a3.out x3_1 p382 q382
         have hw382_3 := hx382_3
         have hw382_2 := hx382_2
         have hw382_1 := hx382_1
         have hw382_0 := hx382_0
         obtain rfl : ad376 = ad382 := (by injection e382)
         replace hx382_0 := (HB.out.cell (World.block_lt_of_cell? w _ hx382_0)).trans hx382_0
         replace hx382_1 := (HB.out.cell (World.block_lt_of_cell? w _ hx382_1)).trans hx382_1
         replace hx382_2 := (HB.out.cell (World.block_lt_of_cell? w _ hx382_2)).trans hx382_2
         replace hx382_3 := (HB.out.cell (World.block_lt_of_cell? w _ hx382_3)).trans hx382_3
         replace p382 := eq_true p382
         replace q382 := eq_true q382
         refine start_ (n := 9) (S := fun w' => w'.cell? (ad376.add ((x3_1).toNat * 4)) = some (.int .i64 ((rd_T68 l0 x3_1).f0)) ∧ w'.cell? ⟨(ad376.add ((x3_1).toNat * 4)).block, (ad376.add ((x3_1).toNat * 4)).off + 1, none⟩ = some (.int .i64 ((rd_T68 l0 x3_1).f1)) ∧ w'.cell? ⟨(ad376.add ((x3_1).toNat * 4)).block, (ad376.add ((x3_1).toNat * 4)).off + 2, none⟩ = some (.int .i64 ((rd_T68 l0 x3_1).f2)) ∧ w'.cell? ⟨(ad376.add ((x3_1).toNat * 4)).block, (ad376.add ((x3_1).toNat * 4)).off + 3, none⟩ = some (.int .i64 ((rd_T68 l0 x3_1).f3))) (ds := []) spec_TermsFault.calls.b0 (by kernel_rfl) rfl rfl ⟨((HB.out.cell (World.block_lt_of_cell? w _ hw382_0)).trans hw382_0), ((HB.out.cell (World.block_lt_of_cell? w _ hw382_1)).trans hw382_1), ((HB.out.cell (World.block_lt_of_cell? w _ hw382_2)).trans hw382_2), ((HB.out.cell (World.block_lt_of_cell? w _ hw382_3)).trans hw382_3)⟩ (fun hHeld => ?_); refine with_tabW spec_TermsFault.tab9 spec_TermsFault.bits9 (fun HT_ HW_ => ?_)
         generalize w14.drew = w15 at HB a6 hx382_0 hx382_1 hx382_2 hx382_3 hHeld ⊢
         refine pure_ (i := 0) (N := some 25) (v := ?_) (a' := ?_) spec_TermsFault.calls.b1 rfl rfl (any_of HT_.out (by kernel_rfl)) (fun _ _ _ h => h) (Or.inl ⟨by rfl, ?_⟩) ?_ ?_
         rotate_left
         ·intro w'
          go_simp
          with_reducible rfl
         rotate_left
         ·simp only [Act.put, lA_, lZ_, lS_, i64_w, i32_w]
          rfl
         refine pure_ (i := 1) (N := some 26) (v := ?_) (a' := ?_) spec_TermsFault.calls.b2 rfl rfl (any_of HT_.out (by kernel_rfl)) (fun _ _ _ h => h) (Or.inl ⟨by rfl, ?_⟩) ?_ ?_
         rotate_left
         ·intro w'
          go_simp
          with_reducible rfl
         rotate_left
         ·simp only [Act.put, lA_, lZ_, lS_, i64_w, i32_w]
          rfl
         refine pure_ (i := 2) (N := some 27) (v := ?_) (a' := ?_) spec_TermsFault.calls.b3 rfl rfl (any_of HT_.out (by kernel_rfl)) (fun _ _ _ h => h) (Or.inl ⟨by rfl, ?_⟩) ?_ ?_
         rotate_left
         ·intro w'
          go_simp
          with_reducible rfl
         rotate_left
         ·simp only [Act.put, lA_, lZ_, lS_, i64_w, i32_w]
          rfl
         refine pure_ (i := 3) (N := some 28) (v := ?_) (a' := ?_) spec_TermsFault.calls.b4 rfl rfl (any_of HT_.out (by kernel_rfl)) (fun _ _ _ h => h) (Or.inl ⟨by rfl, ?_⟩) ?_ ?_
         rotate_left
         ·intro w'
          go_simp
          with_reducible rfl
         rotate_left
         ·simp only [Act.put, lA_, lZ_, lS_, i64_w, i32_w]
          rfl
         refine pure_ (i := 4) (N := some 29) (v := ?_) (a' := ?_) spec_TermsFault.calls.b5 rfl rfl (any_of HT_.out (by kernel_rfl)) (fun _ _ _ h => h) (Or.inl ⟨by rfl, ?_⟩) ?_ ?_
         rotate_left
         ·intro w'
          go_simp
          with_reducible rfl
         rotate_left
         ·simp only [Act.put, lA_, lZ_, lS_, i64_w, i32_w]
          rfl
         refine pure_ (i := 5) (N := some 30) (v := ?_) (a' := ?_) spec_TermsFault.calls.b6 rfl rfl (any_of HT_.out (by kernel_rfl)) (fun _ _ _ h => h) (Or.inl ⟨by rfl, ?_⟩) ?_ ?_
         rotate_left
         ·intro w'
          go_simp
          with_reducible rfl
         rotate_left
         ·simp only [Act.put, lA_, lZ_, lS_, i64_w, i32_w]
          rfl
         refine take_ (i := 6) (N := some 31) (v := ?_) (a' := ?_) spec_TermsFault.calls.b7 rfl rfl (take_ofW HT_.out HW_.out (by kernel_rfl)) (fun _ _ _ h => h) (Or.inl ⟨by rfl, ?_⟩) hHeld ?_ ?_
         rotate_left
         ·rintro w' ⟨s0, s1, s2, s3⟩
          go_simp
          with_reducible rfl
         rotate_left
         ·simp only [Act.put, lA_, lZ_, lS_, i64_w, i32_w]
          rfl
         refine one_ (i := 7) (N := some 32) spec_TermsFault.calls.b8 rfl rfl (one_of HT_.out (by kernel_rfl)) (by decide) (fun K hK => ?_)
         refine goes_ Try.func48 (by kernel_rfl) rfl #[.slice (some ad376) y378.length c0, .agg #[.int .i64 ((rd_T68 l0 x3_1).f0), .int .i64 ((rd_T68 l0 x3_1).f1), .int .i64 ((rd_T68 l0 x3_1).f2), .int .i64 ((rd_T68 l0 x3_1).f3)]] (by rfl) rfl rfl (by (try simp only [List.map_toArray, List.map_cons, List.map_nil]); first | done | rfl | (simp only [List.length_drop, List.length_take]; rfl)) ?_
         with_reducible refine (spec_l5Find.calls k1 _ _ y378 ((rd_T68 l0 x3_1).f0) ((rd_T68 l0 x3_1).f1) ((rd_T68 l0 x3_1).f2) ((rd_T68 l0 x3_1).f3) t383 _ ?side1 ?side2 af.out).mono ?_
         (case side1 => repeat (first | exact (Kd.C_below a6.out HB.out) | (with_reducible refine Kd.C_alloc ?_ _) | (with_reducible refine Kd.C_drewN ?_ _) | (with_reducible refine Kd.C_drew ?_)))
         (case side2 => exact a9.out)
         rintro e w17 ⟨rfl, hb⟩
         refine ⟨_, rfl, ?_⟩
         have n0_ := Aside0.mk (lP_ (by repeat (first | (with_reducible first | exact HB.out | apply lA1_ | apply lN_ | apply lD_) | exact HB.out)) hb)
         clear HB
         have HB := n0_
         clear n0_
         (try clear hb)
         (try clear hb2)
         (try clear hk)
         (try clear hi)
         refine hK.out _ _ ⟨((HB.out.cell (World.block_lt_of_cell? w _ hw382_0)).trans hw382_0), ((HB.out.cell (World.block_lt_of_cell? w _ hw382_1)).trans hw382_1), ((HB.out.cell (World.block_lt_of_cell? w _ hw382_2)).trans hw382_2), ((HB.out.cell (World.block_lt_of_cell? w _ hw382_3)).trans hw382_3)⟩ (fun hHeld => ?_)
         clear hK K
         refine norm_ (a' := ?_) ?_ ?_
         rotate_left
         ·show Act.put _ (some 32) _ = _
          simp only [Act.put, lA_, lZ_, lS_, i64_w, i32_w]
          rfl
         refine pure_ (i := 8) (N := some 33) (v := ?_) (a' := ?_) spec_TermsFault.calls.b9 rfl rfl (any_of HT_.out (by kernel_rfl)) (fun _ _ _ h => h) (Or.inl ⟨by rfl, ?_⟩) ?_ ?_
         rotate_left
         ·intro w'
          go_simp
          with_reducible rfl
         rotate_left
         ·simp only [Act.put, lA_, lZ_, lS_, i64_w, i32_w]
          rfl
         refine done_ (done_of HT_.out (by kernel_rfl)) ?_
         try go_wp2
         go_ret
         exact ⟨by first | rfl | (simp [errW_none, errW_some] <;> rfl) | (simp [*, errW_none, errW_some] <;> rfl), by repeat (first | (with_reducible first | exact HB.out | apply lA1_ | apply lN_ | apply lD_) | exact HB.out)⟩
        ·rw [if_neg c11] at H
         have c11b0 : decide (0 ≤ t383) = false := decide_eq_false c11
         clear c11
         have H' := Aside0.mk H
         clear H
         try go_wp2
         have n0_ := Aside0.mk (lD_ HB.out)
         clear HB
         have HB := n0_
         clear n0_
         have q19 : (x3_1 : Int) ≤ ((l0.length : Int) : Int) := of_decide_eq_true (by first | (with_reducible assumption) | assumption)
         obtain ⟨i019, hi019, _, hsz19, _⟩ := info_parts info68
         have hroom19 : l0.length ≤ c0 := aa.out
         have hC19 : Kd.C k68 _ A0 l0.length l0 := a3.out
         try clear a1
         try clear a5
         have a8 := cut_to (P := Try.prog) 39 68 .i64 Try.underlying39 hi019 A0 l0.length c0 x3_1 (of_decide_eq_true (by first | (with_reducible assumption) | assumption)) q19 hroom19
         have hr19 := Kd.C_take (m := (x3_1 : Int).toNat) hC19 (by omega)
         have hy19 : y372.length = (x3_1 : Int).toNat := (by rw [a2.out, List.length_take]; omega)
         rw [← a2.out] at hr19
         rw [← hy19] at a8
         have a0 := Aside0.mk hr19
         have a4 := Aside0.mk (show y372.length ≤ c0 from by omega)
         clear hr19 hC19 hroom19 hi019 hsz19
         have KY19 := Aside0.mk hy19
         clear hy19
         replace q19 := eq_true q19
         have p376 : 0 ≤ (x3_1 : Int) := of_decide_eq_true (by first | (with_reducible assumption) | assumption)
         have q376 : x3_1 < (l0.length : Int) := of_decide_eq_true (by first | (with_reducible assumption) | assumption)
         obtain ⟨ad376, e376, hx376_0, hx376_1, hx376_2, hx376_3⟩ := at_T68 a3.out x3_1 p376 q376
         have hw376_3 := hx376_3
         have hw376_2 := hx376_2
         have hw376_1 := hx376_1
         have hw376_0 := hx376_0
         cases e376
         replace hx376_0 := (HB.out.cell (World.block_lt_of_cell? w _ hx376_0)).trans hx376_0
         replace hx376_1 := (HB.out.cell (World.block_lt_of_cell? w _ hx376_1)).trans hx376_1
         replace hx376_2 := (HB.out.cell (World.block_lt_of_cell? w _ hx376_2)).trans hx376_2
         replace hx376_3 := (HB.out.cell (World.block_lt_of_cell? w _ hx376_3)).trans hx376_3
         replace p376 := eq_true p376
         replace q376 := eq_true q376
         refine start_ (n := 9) (S := fun w' => w'.cell? (ad376.add ((x3_1).toNat * 4)) = some (.int .i64 ((rd_T68 l0 x3_1).f0)) ∧ w'.cell? ⟨(ad376.add ((x3_1).toNat * 4)).block, (ad376.add ((x3_1).toNat * 4)).off + 1, none⟩ = some (.int .i64 ((rd_T68 l0 x3_1).f1)) ∧ w'.cell? ⟨(ad376.add ((x3_1).toNat * 4)).block, (ad376.add ((x3_1).toNat * 4)).off + 2, none⟩ = some (.int .i64 ((rd_T68 l0 x3_1).f2)) ∧ w'.cell? ⟨(ad376.add ((x3_1).toNat * 4)).block, (ad376.add ((x3_1).toNat * 4)).off + 3, none⟩ = some (.int .i64 ((rd_T68 l0 x3_1).f3))) (ds := []) spec_TermsFault.calls.b0 (by kernel_rfl) rfl rfl ⟨((HB.out.cell (World.block_lt_of_cell? w _ hw376_0)).trans hw376_0), ((HB.out.cell (World.block_lt_of_cell? w _ hw376_1)).trans hw376_1), ((HB.out.cell (World.block_lt_of_cell? w _ hw376_2)).trans hw376_2), ((HB.out.cell (World.block_lt_of_cell? w _ hw376_3)).trans hw376_3)⟩ (fun hHeld => ?_); refine with_tabW spec_TermsFault.tab6 spec_TermsFault.bits6 (fun HT_ HW_ => ?_)
         generalize wr.drew = w18 at HB a0 hx376_0 hx376_1 hx376_2 hx376_3 hHeld ⊢
         refine pure_ (i := 0) (N := some 14) (v := ?_) (a' := ?_) spec_TermsFault.calls.b1 rfl rfl (any_of HT_.out (by kernel_rfl)) (fun _ _ _ h => h) (Or.inl ⟨by rfl, ?_⟩) ?_ ?_
         rotate_left
         ·intro w'
          go_simp
          with_reducible rfl
         rotate_left
         ·simp only [Act.put, lA_, lZ_, lS_, i64_w, i32_w]
          rfl
         refine pure_ (i := 1) (N := some 15) (v := ?_) (a' := ?_) spec_TermsFault.calls.b2 rfl rfl (any_of HT_.out (by kernel_rfl)) (fun _ _ _ h => h) (Or.inl ⟨by rfl, ?_⟩) ?_ ?_
         rotate_left
         ·intro w'
          go_simp
          with_reducible rfl
         rotate_left
         ·simp only [Act.put, lA_, lZ_, lS_, i64_w, i32_w]
          rfl
         refine pure_ (i := 2) (N := some 16) (v := ?_) (a' := ?_) spec_TermsFault.calls.b3 rfl rfl (any_of HT_.out (by kernel_rfl)) (fun _ _ _ h => h) (Or.inl ⟨by rfl, ?_⟩) ?_ ?_
         rotate_left
         ·intro w'
          go_simp
          with_reducible rfl
         rotate_left
         ·simp only [Act.put, lA_, lZ_, lS_, i64_w, i32_w]
          rfl
         refine pure_ (i := 3) (N := some 17) (v := ?_) (a' := ?_) spec_TermsFault.calls.b4 rfl rfl (any_of HT_.out (by kernel_rfl)) (fun _ _ _ h => h) (Or.inl ⟨by rfl, ?_⟩) ?_ ?_
         rotate_left
         ·intro w'
          go_simp
          with_reducible rfl
         rotate_left
         ·simp only [Act.put, lA_, lZ_, lS_, i64_w, i32_w]
          rfl
         refine pure_ (i := 4) (N := some 18) (v := ?_) (a' := ?_) spec_TermsFault.calls.b5 rfl rfl (any_of HT_.out (by kernel_rfl)) (fun _ _ _ h => h) (Or.inl ⟨by rfl, ?_⟩) ?_ ?_
         rotate_left
         ·intro w'
          go_simp
          with_reducible rfl
         rotate_left
         ·simp only [Act.put, lA_, lZ_, lS_, i64_w, i32_w]
          rfl
         refine pure_ (i := 5) (N := some 19) (v := ?_) (a' := ?_) spec_TermsFault.calls.b6 rfl rfl (any_of HT_.out (by kernel_rfl)) (fun _ _ _ h => h) (Or.inl ⟨by rfl, ?_⟩) ?_ ?_
         rotate_left
         ·intro w'
          go_simp
          with_reducible rfl
         rotate_left
         ·simp only [Act.put, lA_, lZ_, lS_, i64_w, i32_w]
          rfl
         refine take_ (i := 6) (N := some 20) (v := ?_) (a' := ?_) spec_TermsFault.calls.b7 rfl rfl (take_ofW HT_.out HW_.out (by kernel_rfl)) (fun _ _ _ h => h) (Or.inl ⟨by rfl, ?_⟩) hHeld ?_ ?_
         rotate_left
         ·rintro w' ⟨s0, s1, s2, s3⟩
          go_simp
          with_reducible rfl
         rotate_left
         ·simp only [Act.put, lA_, lZ_, lS_, i64_w, i32_w]
          rfl
         refine one_ (i := 7) (N := some 21) spec_TermsFault.calls.b8 rfl rfl (one_of HT_.out (by kernel_rfl)) (by decide) (fun K hK => ?_)
         refine goes_ Try.func47 (by kernel_rfl) rfl #[.slice (some ad376) y372.length c0, .agg #[.int .i64 ((rd_T68 l0 x3_1).f0), .int .i64 ((rd_T68 l0 x3_1).f1), .int .i64 ((rd_T68 l0 x3_1).f2), .int .i64 ((rd_T68 l0 x3_1).f3)]] (by rfl) rfl rfl (by (try simp only [List.map_toArray, List.map_cons, List.map_nil]); first | done | rfl | (simp only [List.length_drop, List.length_take]; rfl)) ?_
         with_reducible refine (spec_l5Term.calls k1 _ _ y372 ((rd_T68 l0 x3_1).f0) ((rd_T68 l0 x3_1).f1) ((rd_T68 l0 x3_1).f2) ((rd_T68 l0 x3_1).f3) t377 _ ?side1 ?side2 A6.out).mono ?_
         (case side1 => repeat (first | exact (Kd.C_below a0.out HB.out) | (with_reducible refine Kd.C_alloc ?_ _) | (with_reducible refine Kd.C_drewN ?_ _) | (with_reducible refine Kd.C_drew ?_)))
         (case side2 => exact a4.out)
         rintro e w20 ⟨rfl, hb⟩
         refine ⟨_, rfl, ?_⟩
         have n0_ := Aside0.mk (lP_ (by repeat (first | (with_reducible first | exact HB.out | apply lA1_ | apply lN_ | apply lD_) | exact HB.out)) hb)
         clear HB
         have HB := n0_
         clear n0_
         (try clear hb)
         (try clear hb2)
         (try clear hk)
         (try clear hi)
         refine hK.out _ _ ⟨((HB.out.cell (World.block_lt_of_cell? w _ hw376_0)).trans hw376_0), ((HB.out.cell (World.block_lt_of_cell? w _ hw376_1)).trans hw376_1), ((HB.out.cell (World.block_lt_of_cell? w _ hw376_2)).trans hw376_2), ((HB.out.cell (World.block_lt_of_cell? w _ hw376_3)).trans hw376_3)⟩ (fun hHeld => ?_)
         clear hK K
         refine norm_ (a' := ?_) ?_ ?_
         rotate_left
         ·show Act.put _ (some 21) _ = _
          simp only [Act.put, lA_, lZ_, lS_, i64_w, i32_w]
          rfl
         refine pure_ (i := 8) (N := some 4) (v := ?_) (a' := ?_) spec_TermsFault.calls.b9 rfl rfl (any_of HT_.out (by kernel_rfl)) (fun _ _ _ h => h) (Or.inl ⟨by rfl, ?_⟩) ?_ ?_
         rotate_left
         ·intro w'
          go_simp
          with_reducible rfl
         rotate_left
         ·simp only [Act.put, lA_, lZ_, lS_, i64_w, i32_w]
          rfl
         refine done_ (done_of HT_.out (by kernel_rfl)) ?_
         try go_wp2
         have n0_ := Aside0.mk (lD_ HB.out)
         clear HB
         have HB := n0_
         clear n0_
         have q22 : (x3_1 : Int) ≤ ((l0.length : Int) : Int) := of_decide_eq_true (by first | (with_reducible assumption) | assumption)
         obtain ⟨i022, hi022, _, hsz22, _⟩ := info_parts info68
         have hroom22 : l0.length ≤ c0 := aa.out
         have hC22 : Kd.C k68 _ (some ad376) l0.length l0 := a3.out
         try clear a1
         try clear a5
         try clear a8
         have ab := cut_to (P := Try.prog) 39 68 .i64 Try.underlying39 hi022 (some ad376) l0.length c0 x3_1 (of_decide_eq_true (by first | (with_reducible assumption) | assumption)) q22 hroom22
         have hr22 := Kd.C_take (m := (x3_1 : Int).toNat) hC22 (by omega)
         have hy22 : y378.length = (x3_1 : Int).toNat := (by rw [a7.out, List.length_take]; omega)
         rw [← a7.out] at hr22
         rw [← hy22] at ab
         have a6 := Aside0.mk hr22
         have a9 := Aside0.mk (show y378.length ≤ c0 from by omega)
         clear hr22 hC22 hroom22 hi022 hsz22
         have KY22 := Aside0.mk hy22
         clear hy22
         replace q22 := eq_true q22
         have p382 : 0 ≤ (x3_1 : Int) := of_decide_eq_true (by first | (with_reducible assumption) | assumption)
         have q382 : x3_1 < (l0.length : Int) := of_decide_eq_true (by first | (with_reducible assumption) | assumption)
         obtain ⟨ad382, e382, hx382_0, hx382_1, hx382_2, hx382_3⟩ := at_T68 a3.out x3_1 p382 q382
         have hw382_3 := hx382_3
         have hw382_2 := hx382_2
         have hw382_1 := hx382_1
         have hw382_0 := hx382_0
         obtain rfl : ad376 = ad382 := (by injection e382)
         replace hx382_0 := (HB.out.cell (World.block_lt_of_cell? w _ hx382_0)).trans hx382_0
         replace hx382_1 := (HB.out.cell (World.block_lt_of_cell? w _ hx382_1)).trans hx382_1
         replace hx382_2 := (HB.out.cell (World.block_lt_of_cell? w _ hx382_2)).trans hx382_2
         replace hx382_3 := (HB.out.cell (World.block_lt_of_cell? w _ hx382_3)).trans hx382_3
         replace p382 := eq_true p382
         replace q382 := eq_true q382
         refine start_ (n := 9) (S := fun w' => w'.cell? (ad376.add ((x3_1).toNat * 4)) = some (.int .i64 ((rd_T68 l0 x3_1).f0)) ∧ w'.cell? ⟨(ad376.add ((x3_1).toNat * 4)).block, (ad376.add ((x3_1).toNat * 4)).off + 1, none⟩ = some (.int .i64 ((rd_T68 l0 x3_1).f1)) ∧ w'.cell? ⟨(ad376.add ((x3_1).toNat * 4)).block, (ad376.add ((x3_1).toNat * 4)).off + 2, none⟩ = some (.int .i64 ((rd_T68 l0 x3_1).f2)) ∧ w'.cell? ⟨(ad376.add ((x3_1).toNat * 4)).block, (ad376.add ((x3_1).toNat * 4)).off + 3, none⟩ = some (.int .i64 ((rd_T68 l0 x3_1).f3))) (ds := []) spec_TermsFault.calls.b0 (by kernel_rfl) rfl rfl ⟨((HB.out.cell (World.block_lt_of_cell? w _ hw382_0)).trans hw382_0), ((HB.out.cell (World.block_lt_of_cell? w _ hw382_1)).trans hw382_1), ((HB.out.cell (World.block_lt_of_cell? w _ hw382_2)).trans hw382_2), ((HB.out.cell (World.block_lt_of_cell? w _ hw382_3)).trans hw382_3)⟩ (fun hHeld => ?_); refine with_tabW spec_TermsFault.tab9 spec_TermsFault.bits9 (fun HT_ HW_ => ?_)
         generalize w20.drew = w21 at HB a6 hx382_0 hx382_1 hx382_2 hx382_3 hHeld ⊢
         refine pure_ (i := 0) (N := some 25) (v := ?_) (a' := ?_) spec_TermsFault.calls.b1 rfl rfl (any_of HT_.out (by kernel_rfl)) (fun _ _ _ h => h) (Or.inl ⟨by rfl, ?_⟩) ?_ ?_
         rotate_left
         ·intro w'
          go_simp
          with_reducible rfl
         rotate_left
         ·simp only [Act.put, lA_, lZ_, lS_, i64_w, i32_w]
          rfl
         refine pure_ (i := 1) (N := some 26) (v := ?_) (a' := ?_) spec_TermsFault.calls.b2 rfl rfl (any_of HT_.out (by kernel_rfl)) (fun _ _ _ h => h) (Or.inl ⟨by rfl, ?_⟩) ?_ ?_
         rotate_left
         ·intro w'
          go_simp
          with_reducible rfl
         rotate_left
         ·simp only [Act.put, lA_, lZ_, lS_, i64_w, i32_w]
          rfl
         refine pure_ (i := 2) (N := some 27) (v := ?_) (a' := ?_) spec_TermsFault.calls.b3 rfl rfl (any_of HT_.out (by kernel_rfl)) (fun _ _ _ h => h) (Or.inl ⟨by rfl, ?_⟩) ?_ ?_
         rotate_left
         ·intro w'
          go_simp
          with_reducible rfl
         rotate_left
         ·simp only [Act.put, lA_, lZ_, lS_, i64_w, i32_w]
          rfl
         refine pure_ (i := 3) (N := some 28) (v := ?_) (a' := ?_) spec_TermsFault.calls.b4 rfl rfl (any_of HT_.out (by kernel_rfl)) (fun _ _ _ h => h) (Or.inl ⟨by rfl, ?_⟩) ?_ ?_
         rotate_left
         ·intro w'
          go_simp
          with_reducible rfl
         rotate_left
         ·simp only [Act.put, lA_, lZ_, lS_, i64_w, i32_w]
          rfl
         refine pure_ (i := 4) (N := some 29) (v := ?_) (a' := ?_) spec_TermsFault.calls.b5 rfl rfl (any_of HT_.out (by kernel_rfl)) (fun _ _ _ h => h) (Or.inl ⟨by rfl, ?_⟩) ?_ ?_
         rotate_left
         ·intro w'
          go_simp
          with_reducible rfl
         rotate_left
         ·simp only [Act.put, lA_, lZ_, lS_, i64_w, i32_w]
          rfl
         refine pure_ (i := 5) (N := some 30) (v := ?_) (a' := ?_) spec_TermsFault.calls.b6 rfl rfl (any_of HT_.out (by kernel_rfl)) (fun _ _ _ h => h) (Or.inl ⟨by rfl, ?_⟩) ?_ ?_
         rotate_left
         ·intro w'
          go_simp
          with_reducible rfl
         rotate_left
         ·simp only [Act.put, lA_, lZ_, lS_, i64_w, i32_w]
          rfl
         refine take_ (i := 6) (N := some 31) (v := ?_) (a' := ?_) spec_TermsFault.calls.b7 rfl rfl (take_ofW HT_.out HW_.out (by kernel_rfl)) (fun _ _ _ h => h) (Or.inl ⟨by rfl, ?_⟩) hHeld ?_ ?_
         rotate_left
         ·rintro w' ⟨s0, s1, s2, s3⟩
          go_simp
          with_reducible rfl
         rotate_left
         ·simp only [Act.put, lA_, lZ_, lS_, i64_w, i32_w]
          rfl
         refine one_ (i := 7) (N := some 32) spec_TermsFault.calls.b8 rfl rfl (one_of HT_.out (by kernel_rfl)) (by decide) (fun K hK => ?_)
         refine goes_ Try.func48 (by kernel_rfl) rfl #[.slice (some ad376) y378.length c0, .agg #[.int .i64 ((rd_T68 l0 x3_1).f0), .int .i64 ((rd_T68 l0 x3_1).f1), .int .i64 ((rd_T68 l0 x3_1).f2), .int .i64 ((rd_T68 l0 x3_1).f3)]] (by rfl) rfl rfl (by (try simp only [List.map_toArray, List.map_cons, List.map_nil]); first | done | rfl | (simp only [List.length_drop, List.length_take]; rfl)) ?_
         with_reducible refine (spec_l5Find.calls k1 _ _ y378 ((rd_T68 l0 x3_1).f0) ((rd_T68 l0 x3_1).f1) ((rd_T68 l0 x3_1).f2) ((rd_T68 l0 x3_1).f3) t383 _ ?side1 ?side2 af.out).mono ?_
         (case side1 => repeat (first | exact (Kd.C_below a6.out HB.out) | (with_reducible refine Kd.C_alloc ?_ _) | (with_reducible refine Kd.C_drewN ?_ _) | (with_reducible refine Kd.C_drew ?_)))
         (case side2 => exact a9.out)
         rintro e w23 ⟨rfl, hb⟩
         refine ⟨_, rfl, ?_⟩
         have n0_ := Aside0.mk (lP_ (by repeat (first | (with_reducible first | exact HB.out | apply lA1_ | apply lN_ | apply lD_) | exact HB.out)) hb)
         clear HB
         have HB := n0_
         clear n0_
         (try clear hb)
         (try clear hb2)
         (try clear hk)
         (try clear hi)
         refine hK.out _ _ ⟨((HB.out.cell (World.block_lt_of_cell? w _ hw382_0)).trans hw382_0), ((HB.out.cell (World.block_lt_of_cell? w _ hw382_1)).trans hw382_1), ((HB.out.cell (World.block_lt_of_cell? w _ hw382_2)).trans hw382_2), ((HB.out.cell (World.block_lt_of_cell? w _ hw382_3)).trans hw382_3)⟩ (fun hHeld => ?_)
         clear hK K
         refine norm_ (a' := ?_) ?_ ?_
         rotate_left
         ·show Act.put _ (some 32) _ = _
          simp only [Act.put, lA_, lZ_, lS_, i64_w, i32_w]
          rfl
         refine pure_ (i := 8) (N := some 33) (v := ?_) (a' := ?_) spec_TermsFault.calls.b9 rfl rfl (any_of HT_.out (by kernel_rfl)) (fun _ _ _ h => h) (Or.inl ⟨by rfl, ?_⟩) ?_ ?_
         rotate_left
         ·intro w'
          go_simp
          with_reducible rfl
         rotate_left
         ·simp only [Act.put, lA_, lZ_, lS_, i64_w, i32_w]
          rfl
         refine done_ (done_of HT_.out (by kernel_rfl)) ?_
         try go_wp2
         go_roundg k1
         case measure => have := HK1.out; omega
         case rel => exact ⟨(wrap64 (x3_1 + 1)), (by first | rfl | (simp; done) | (simp [*]; done)), H', ⟨by have := HK1.out; omega⟩, ⟨by repeat (first | (with_reducible first | exact HB.out | apply lA1_ | apply lN_ | apply lD_) | exact HB.out)⟩⟩
       ·rw [if_neg c7] at H
        have c7b0 : (t377 == 0) = false := beq_eq_false_iff_ne.mpr c7
        have c7b1 : (t377 != 0) = true := bne_iff_ne.mpr c7
        obtain rfl := Option.some.inj H
        try go_wp2
        have n0_ := Aside0.mk (lD_ HB.out)
        clear HB
        have HB := n0_
        clear n0_
        have q25 : (x3_1 : Int) ≤ ((l0.length : Int) : Int) := of_decide_eq_true (by first | (with_reducible assumption) | assumption)
        obtain ⟨i025, hi025, _, hsz25, _⟩ := info_parts info68
        have hroom25 : l0.length ≤ c0 := aa.out
        have hC25 : Kd.C k68 _ A0 l0.length l0 := a3.out
        try clear a1
        try clear a5
        try clear a8
        try clear ab
        have ad := cut_to (P := Try.prog) 39 68 .i64 Try.underlying39 hi025 A0 l0.length c0 x3_1 (of_decide_eq_true (by first | (with_reducible assumption) | assumption)) q25 hroom25
        have hr25 := Kd.C_take (m := (x3_1 : Int).toNat) hC25 (by omega)
        have hy25 : y372.length = (x3_1 : Int).toNat := (by rw [a2.out, List.length_take]; omega)
        rw [← a2.out] at hr25
        rw [← hy25] at ad
        have a0 := Aside0.mk hr25
        have a4 := Aside0.mk (show y372.length ≤ c0 from by omega)
        clear hr25 hC25 hroom25 hi025 hsz25
        have KY25 := Aside0.mk hy25
        clear hy25
        replace q25 := eq_true q25
        have p376 : 0 ≤ (x3_1 : Int) := of_decide_eq_true (by first | (with_reducible assumption) | assumption)
        have q376 : x3_1 < (l0.length : Int) := of_decide_eq_true (by first | (with_reducible assumption) | assumption)
        obtain ⟨ad376, e376, hx376_0, hx376_1, hx376_2, hx376_3⟩ := at_T68 a3.out x3_1 p376 q376
        have hw376_3 := hx376_3
        have hw376_2 := hx376_2
        have hw376_1 := hx376_1
        have hw376_0 := hx376_0
        cases e376
        replace hx376_0 := (HB.out.cell (World.block_lt_of_cell? w _ hx376_0)).trans hx376_0
        replace hx376_1 := (HB.out.cell (World.block_lt_of_cell? w _ hx376_1)).trans hx376_1
        replace hx376_2 := (HB.out.cell (World.block_lt_of_cell? w _ hx376_2)).trans hx376_2
        replace hx376_3 := (HB.out.cell (World.block_lt_of_cell? w _ hx376_3)).trans hx376_3
        replace p376 := eq_true p376
        replace q376 := eq_true q376
        refine start_ (n := 9) (S := fun w' => w'.cell? (ad376.add ((x3_1).toNat * 4)) = some (.int .i64 ((rd_T68 l0 x3_1).f0)) ∧ w'.cell? ⟨(ad376.add ((x3_1).toNat * 4)).block, (ad376.add ((x3_1).toNat * 4)).off + 1, none⟩ = some (.int .i64 ((rd_T68 l0 x3_1).f1)) ∧ w'.cell? ⟨(ad376.add ((x3_1).toNat * 4)).block, (ad376.add ((x3_1).toNat * 4)).off + 2, none⟩ = some (.int .i64 ((rd_T68 l0 x3_1).f2)) ∧ w'.cell? ⟨(ad376.add ((x3_1).toNat * 4)).block, (ad376.add ((x3_1).toNat * 4)).off + 3, none⟩ = some (.int .i64 ((rd_T68 l0 x3_1).f3))) (ds := []) spec_TermsFault.calls.b0 (by kernel_rfl) rfl rfl ⟨((HB.out.cell (World.block_lt_of_cell? w _ hw376_0)).trans hw376_0), ((HB.out.cell (World.block_lt_of_cell? w _ hw376_1)).trans hw376_1), ((HB.out.cell (World.block_lt_of_cell? w _ hw376_2)).trans hw376_2), ((HB.out.cell (World.block_lt_of_cell? w _ hw376_3)).trans hw376_3)⟩ (fun hHeld => ?_); refine with_tabW spec_TermsFault.tab6 spec_TermsFault.bits6 (fun HT_ HW_ => ?_)
        generalize wr.drew = w24 at HB a0 hx376_0 hx376_1 hx376_2 hx376_3 hHeld ⊢
        refine pure_ (i := 0) (N := some 14) (v := ?_) (a' := ?_) spec_TermsFault.calls.b1 rfl rfl (any_of HT_.out (by kernel_rfl)) (fun _ _ _ h => h) (Or.inl ⟨by rfl, ?_⟩) ?_ ?_
        rotate_left
        ·intro w'
         go_simp
         with_reducible rfl
        rotate_left
        ·simp only [Act.put, lA_, lZ_, lS_, i64_w, i32_w]
         rfl
        refine pure_ (i := 1) (N := some 15) (v := ?_) (a' := ?_) spec_TermsFault.calls.b2 rfl rfl (any_of HT_.out (by kernel_rfl)) (fun _ _ _ h => h) (Or.inl ⟨by rfl, ?_⟩) ?_ ?_
        rotate_left
        ·intro w'
         go_simp
         with_reducible rfl
        rotate_left
        ·simp only [Act.put, lA_, lZ_, lS_, i64_w, i32_w]
         rfl
        refine pure_ (i := 2) (N := some 16) (v := ?_) (a' := ?_) spec_TermsFault.calls.b3 rfl rfl (any_of HT_.out (by kernel_rfl)) (fun _ _ _ h => h) (Or.inl ⟨by rfl, ?_⟩) ?_ ?_
        rotate_left
        ·intro w'
         go_simp
         with_reducible rfl
        rotate_left
        ·simp only [Act.put, lA_, lZ_, lS_, i64_w, i32_w]
         rfl
        refine pure_ (i := 3) (N := some 17) (v := ?_) (a' := ?_) spec_TermsFault.calls.b4 rfl rfl (any_of HT_.out (by kernel_rfl)) (fun _ _ _ h => h) (Or.inl ⟨by rfl, ?_⟩) ?_ ?_
        rotate_left
        ·intro w'
         go_simp
         with_reducible rfl
        rotate_left
        ·simp only [Act.put, lA_, lZ_, lS_, i64_w, i32_w]
         rfl
        refine pure_ (i := 4) (N := some 18) (v := ?_) (a' := ?_) spec_TermsFault.calls.b5 rfl rfl (any_of HT_.out (by kernel_rfl)) (fun _ _ _ h => h) (Or.inl ⟨by rfl, ?_⟩) ?_ ?_
        rotate_left
        ·intro w'
         go_simp
         with_reducible rfl
        rotate_left
        ·simp only [Act.put, lA_, lZ_, lS_, i64_w, i32_w]
         rfl
        refine pure_ (i := 5) (N := some 19) (v := ?_) (a' := ?_) spec_TermsFault.calls.b6 rfl rfl (any_of HT_.out (by kernel_rfl)) (fun _ _ _ h => h) (Or.inl ⟨by rfl, ?_⟩) ?_ ?_
        rotate_left
        ·intro w'
         go_simp
         with_reducible rfl
        rotate_left
        ·simp only [Act.put, lA_, lZ_, lS_, i64_w, i32_w]
         rfl
        refine take_ (i := 6) (N := some 20) (v := ?_) (a' := ?_) spec_TermsFault.calls.b7 rfl rfl (take_ofW HT_.out HW_.out (by kernel_rfl)) (fun _ _ _ h => h) (Or.inl ⟨by rfl, ?_⟩) hHeld ?_ ?_
        rotate_left
        ·rintro w' ⟨s0, s1, s2, s3⟩
         go_simp
         with_reducible rfl
        rotate_left
        ·simp only [Act.put, lA_, lZ_, lS_, i64_w, i32_w]
         rfl
        refine one_ (i := 7) (N := some 21) spec_TermsFault.calls.b8 rfl rfl (one_of HT_.out (by kernel_rfl)) (by decide) (fun K hK => ?_)
        refine goes_ Try.func47 (by kernel_rfl) rfl #[.slice (some ad376) y372.length c0, .agg #[.int .i64 ((rd_T68 l0 x3_1).f0), .int .i64 ((rd_T68 l0 x3_1).f1), .int .i64 ((rd_T68 l0 x3_1).f2), .int .i64 ((rd_T68 l0 x3_1).f3)]] (by rfl) rfl rfl (by (try simp only [List.map_toArray, List.map_cons, List.map_nil]); first | done | rfl | (simp only [List.length_drop, List.length_take]; rfl)) ?_
        with_reducible refine (spec_l5Term.calls k1 _ _ y372 ((rd_T68 l0 x3_1).f0) ((rd_T68 l0 x3_1).f1) ((rd_T68 l0 x3_1).f2) ((rd_T68 l0 x3_1).f3) t377 _ ?side1 ?side2 A6.out).mono ?_
        (case side1 => repeat (first | exact (Kd.C_below a0.out HB.out) | (with_reducible refine Kd.C_alloc ?_ _) | (with_reducible refine Kd.C_drewN ?_ _) | (with_reducible refine Kd.C_drew ?_)))
        (case side2 => exact a4.out)
        rintro e w26 ⟨rfl, hb⟩
        refine ⟨_, rfl, ?_⟩
        have n0_ := Aside0.mk (lP_ (by repeat (first | (with_reducible first | exact HB.out | apply lA1_ | apply lN_ | apply lD_) | exact HB.out)) hb)
        clear HB
        have HB := n0_
        clear n0_
        (try clear hb)
        (try clear hb2)
        (try clear hk)
        (try clear hi)
        refine hK.out _ _ ⟨((HB.out.cell (World.block_lt_of_cell? w _ hw376_0)).trans hw376_0), ((HB.out.cell (World.block_lt_of_cell? w _ hw376_1)).trans hw376_1), ((HB.out.cell (World.block_lt_of_cell? w _ hw376_2)).trans hw376_2), ((HB.out.cell (World.block_lt_of_cell? w _ hw376_3)).trans hw376_3)⟩ (fun hHeld => ?_)
        clear hK K
        refine norm_ (a' := ?_) ?_ ?_
        rotate_left
        ·show Act.put _ (some 21) _ = _
         simp only [Act.put, lA_, lZ_, lS_, i64_w, i32_w]
         rfl
        refine pure_ (i := 8) (N := some 4) (v := ?_) (a' := ?_) spec_TermsFault.calls.b9 rfl rfl (any_of HT_.out (by kernel_rfl)) (fun _ _ _ h => h) (Or.inl ⟨by rfl, ?_⟩) ?_ ?_
        rotate_left
        ·intro w'
         go_simp
         with_reducible rfl
        rotate_left
        ·simp only [Act.put, lA_, lZ_, lS_, i64_w, i32_w]
         rfl
        refine done_ (done_of HT_.out (by kernel_rfl)) ?_
        try go_wp2
        go_ret
        exact ⟨by first | rfl | (simp [errW_none, errW_some] <;> rfl) | (simp [*, errW_none, errW_some] <;> rfl), by repeat (first | (with_reducible first | exact HB.out | apply lA1_ | apply lN_ | apply lD_) | exact HB.out)⟩
      ·rw [if_neg c5] at H
       exact absurd H (by simp)
     ·rw [if_neg c4] at H
      exact absurd H (by simp)
    ·rw [if_neg c3] at H
     have c3b0 : decide (x3_1 < (l0.length : Int)) = false := decide_eq_false c3
     clear c3
     obtain rfl := Option.some.inj H
     go_wp2
     go_ret
     exact ⟨by first | rfl | (simp [errW_none, errW_some] <;> rfl) | (simp [*, errW_none, errW_some] <;> rfl), by repeat (first | (with_reducible first | exact HB.out | apply lA1_ | apply lN_ | apply lD_) | exact HB.out)⟩
def spec_l9Word.f (a0 : Int) : Option (Bool) := (spec_l1In.f a0 0 9999).bind fun t384 => (some t384)
set_option maxHeartbeats 8000000 in
set_option maxRecDepth 100000 in
theorem spec_l9Word.calls (a0 : Int) (r : Bool) (w : World) (h : spec_l9Word.f a0 = some r) :
  Calls Try.prog 63 #[.int .i64 a0] w fun e w' => e = .returned (.bool r) ∧ Drawn0 w w' := by
 have H : ((spec_l1In.f a0 0 9999).bind fun t384 => (some t384)) = some r := h
 clear h
 replace H := Option.bind_eq_some_iff.mp H
 obtain ⟨t384, A20, H⟩ := H
 try dsimp only at H
 have A2 := Aside0.mk A20
 clear A20
 obtain rfl := Option.some.inj H
 go_enter Try.func63, Try.ntmps63
 go_wp2_with (first | ((with_reducible refine gate_callee (f := 32) rfl ?_); refine goesA_ (some 4) rfl rfl Try.func32 (by kernel_rfl) rfl #[.int .i64 a0, .int .i64 0, .int .i64 9999] rfl ?_; (with_reducible refine (spec_l1In.calls a0 0 9999 t384 _ A2.out).mono ?_); rintro e w' ⟨rfl, ⟨nd, rfl⟩⟩; refine ⟨_, rfl, ?_⟩))
 go_ret
 exact ⟨by first | rfl | (simp; done) | (simp [*]; done), by repeat (first | exact Drawn0.refl _ | apply Drawn0.step)⟩
mutual
def spec_WindowFault.j0 : Nat → Bool → Int → Int → Option (Int)
 | 0, _, _, _ => none
 | k + 1, x13, x386000, x386001 => if x13 = true then (some 3) else (if x386000 = 0 then (if x386001 = 0 then (if x386000 > 0 then (spec_WindowFault.j1 k ((Go.bits .and .i64 x386001 1) == 0) x386000 x386001) else (spec_WindowFault.j1 k false x386000 x386001)) else (spec_WindowFault.j1 k true x386000 x386001)) else (if x386000 > 0 then (spec_WindowFault.j1 k ((Go.bits .and .i64 x386001 1) == 0) x386000 x386001) else (spec_WindowFault.j1 k false x386000 x386001)))
def spec_WindowFault.j1 : Nat → Bool → Int → Int → Option (Int)
 | 0, _, _, _ => none
 | k + 1, x32, x386000, x386001 => if x32 = true then (some 1) else (spec_WindowFault.l0 k 0 x386000 x386001)
def spec_WindowFault.l0 : Nat → Int → Int → Int → Option (Int)
 | 0, _, _, _ => none
 | k + 1, x3, x386000, x386001 => if x3 < 32 then (if 0 ≤ (IntKind.u64.wrap (x3)) then (if (Go.bits .and .i64 (shr .i64 x386001 (IntKind.u64.wrap (x3))) 1) = 1 then (if (wrap64 (x386000 - x3)) < 1 then (some 1) else (spec_WindowFault.l0 k (wrap64 (x3 + 1)) x386000 x386001)) else (spec_WindowFault.l0 k (wrap64 (x3 + 1)) x386000 x386001)) else (none)) else (some 0)
end
def spec_WindowFault.f (k : Nat) (a0_0 : Int) (a0_1 : Int) : Option (Int) := (spec_l1In.f a0_0 0 1099511627776).bind fun t386 => (if t386 = true then ((spec_l1In.f a0_1 0 4294967295).bind fun t387 => (spec_WindowFault.j0 k (!t387) a0_0 a0_1)) else (spec_WindowFault.j0 k true a0_0 a0_1))
set_option maxHeartbeats 8000000 in
set_option maxRecDepth 100000 in
theorem spec_WindowFault.calls (k : Nat) (a0_0 : Int) (a0_1 : Int) (r : Int) (w : World) (h : spec_WindowFault.f k a0_0 a0_1 = some r) :
  Calls Try.prog 64 #[.agg #[.int .i64 a0_0, .int .i64 a0_1]] w fun e w' => e = .returned (.int .i64 r) ∧ Below w.heap.size w w' := by
 have hu56 := Try.underlying56
 have HB := Aside0.mk (Below.refl w.heap.size w)
 have H : ((spec_l1In.f a0_0 0 1099511627776).bind fun t386 => (if t386 = true then ((spec_l1In.f a0_1 0 4294967295).bind fun t387 => (spec_WindowFault.j0 k (!t387) a0_0 a0_1)) else (spec_WindowFault.j0 k true a0_0 a0_1))) = some r := h
 clear h
 have a4 := Aside0.mk H
 clear H
 go_enter Try.func64, Try.ntmps64
 go_upto_region 1 with (first | ((with_reducible refine gate_dst (N := 1) rfl ?_); refine box_event ?hg (N := 1) ?hd (cs := #[.int .i64 a0_0, .int .i64 a0_1]) (t := 56) ?hr ?_; (case hd => rfl); (case hg => rfl); (case hr => first | (go_simp; done) | (go_simp; rfl)); intro a2 hg w3 hbox hb; have n0_ := Aside0.mk (lP_ (by repeat (first | (with_reducible first | exact HB.out | apply lA1_ | apply lN_ | apply lD_) | exact HB.out)) hb); have n1_ := Aside0.mk (hbox); have n2_ := Aside0.mk ((by rw [hg]; exact (below_size (by repeat (first | (with_reducible first | exact HB.out | apply lA1_ | apply lN_ | apply lD_) | exact HB.out))) : w.heap.size ≤ a2)); have n3_ := Aside0.mk ((by rw [hg]; exact (below_size (by repeat (first | (with_reducible first | exact HB.out | apply lA1_ | apply lN_ | apply lD_) | exact HB.out))) : w.heap.size ≤ a2)); clear HB; have HB := n0_; have a0 := n1_; have a7 := n2_; have a1 := n3_; clear n0_ n1_ n2_ n3_ hb hbox hg))
 (try simp only [Act.put, lA_, lZ_, lS_])
 go_cut [13] (fun v13 wc => ∃ (kq : Nat) (x13_1 : Bool), v13 = .bool x13_1 ∧ Aside0 (spec_WindowFault.j0 kq x13_1 a0_0 a0_1 = some r) ∧ Aside0 (kq ≤ k) ∧ Aside0 (wc.heap[a2]? = some (.cells #[.int .i64 a0_0, .int .i64 a0_1] 56 (0, 0))) ∧ Aside0 (Below w.heap.size w wc))
 case first =>
  have H := a4.out
  clear a4
  replace H := Option.bind_eq_some_iff.mp H
  obtain ⟨t386, a5, H⟩ := H
  try dsimp only at H
  have A4 := Aside0.mk a5
  clear a5
  by_cases c5 : t386 = true
  ·subst c5
   rw [if_pos rfl] at H
   replace H := Option.bind_eq_some_iff.mp H
   obtain ⟨t387, a6, H⟩ := H
   try dsimp only at H
   have A6 := Aside0.mk a6
   clear a6
   have H' := Aside0.mk H
   clear H
   obtain ⟨_, _, _, _⟩ := bc2 a0.out
   go_wp2_with (first | ((with_reducible refine gate_callee (f := 32) rfl ?_); refine goesA_ (some 6) rfl rfl Try.func32 (by kernel_rfl) rfl #[.int .i64 a0_0, .int .i64 0, .int .i64 1099511627776] rfl ?_; (with_reducible refine (spec_l1In.calls a0_0 0 1099511627776 true _ A4.out).mono ?_); rintro e w' ⟨rfl, ⟨nd, rfl⟩⟩; refine ⟨_, rfl, ?_⟩) | (go_at_call 32; (with_reducible refine (spec_l1In.calls a0_1 0 4294967295 t387 _ A6.out).mono ?_); rintro e w' ⟨rfl, ⟨nd, rfl⟩⟩))
   go_meet
   case rel => exact ⟨_, (!t387), (by first | rfl | (simp; done) | (simp [*]; done)), H', ⟨by first | omega | exact Nat.le_refl _⟩, ⟨by (with_reducible repeat first | apply bN_ | apply bD_ | apply bA_); exact a0.out⟩, ⟨by repeat (first | (with_reducible first | exact HB.out | apply lA1_ | apply lN_ | apply lD_ | refine lS1_ ?_ a1.out) | exact HB.out)⟩⟩
  ·replace c5 := Bool.eq_false_iff.mpr c5
   subst c5
   rw [if_neg (show ¬ (false = true) by decide)] at H
   have H' := Aside0.mk H
   clear H
   obtain ⟨_, _, _, _⟩ := bc2 a0.out
   go_wp2_with (first | ((with_reducible refine gate_callee (f := 32) rfl ?_); refine goesA_ (some 6) rfl rfl Try.func32 (by kernel_rfl) rfl #[.int .i64 a0_0, .int .i64 0, .int .i64 1099511627776] rfl ?_; (with_reducible refine (spec_l1In.calls a0_0 0 1099511627776 false _ A4.out).mono ?_); rintro e w' ⟨rfl, ⟨nd, rfl⟩⟩; refine ⟨_, rfl, ?_⟩))
   go_meet
   case rel => exact ⟨_, (true), (by first | rfl | (simp; done) | (simp [*]; done)), H', ⟨by first | omega | exact Nat.le_refl _⟩, ⟨by (with_reducible repeat first | apply bN_ | apply bD_ | apply bA_); exact a0.out⟩, ⟨by repeat (first | (with_reducible first | exact HB.out | apply lA1_ | apply lN_ | apply lD_ | refine lS1_ ?_ a1.out) | exact HB.out)⟩⟩
 case rest =>
  clear a4
  try clear p2
  try clear c3
  try clear c5
  try clear c6
  try clear hcz7_0
  try clear hcz7_1
  try clear hcz8_0
  try clear hcz8_1
  try clear hfz7_0
  try clear hfz7_1
  try clear hfz8_0
  try clear hfz8_1
  obtain ⟨kq, x13_1, rfl, HA, HJ1, a0, HB⟩ := hcut
  cases kq with
  | zero => exact absurd HA.out (by simp [spec_WindowFault.j0])
  | succ kj1 =>
   have H := HA.out
   clear HA
   simp only [spec_WindowFault.j0] at H
   by_cases c9 : x13_1 = true
   ·subst c9
    rw [if_pos rfl] at H
    obtain rfl := Option.some.inj H
    go_wp2
    go_ret
    exact ⟨by first | rfl | (simp [errW_none, errW_some] <;> rfl) | (simp [*, errW_none, errW_some] <;> rfl), by repeat (first | (with_reducible first | exact HB.out | apply lA1_ | apply lN_ | apply lD_ | refine lS1_ ?_ a1.out) | exact HB.out)⟩
   ·replace c9 := Bool.eq_false_iff.mpr c9
    subst c9
    rw [if_neg (show ¬ (false = true) by decide)] at H
    have a3 := Aside0.mk H
    clear H
    go_upto_region 3 with (fail)
    go_cut [32] (fun v32 wc => ∃ (kq : Nat) (x32_9 : Bool), v32 = .bool x32_9 ∧ Aside0 (spec_WindowFault.j1 kq x32_9 a0_0 a0_1 = some r) ∧ Aside0 (kq ≤ kj1) ∧ Aside0 (wc.heap[a2]? = some (.cells #[.int .i64 a0_0, .int .i64 a0_1] 56 (0, 0))) ∧ Aside0 (Below w.heap.size w wc))
    case first =>
     have H := a3.out
     clear a3
     by_cases c11 : a0_0 = 0
     ·rw [if_pos c11] at H
      have c11b0 : (a0_0 == 0) = true := beq_iff_eq.mpr c11
      have c11b1 : (a0_0 != 0) = false := bne_eq_false_iff_eq.mpr c11
      clear c11
      (first | rw [c11b0] | (simp only [i64_w, i32_w]; rw [c11b0]) | skip)
      by_cases c12 : a0_1 = 0
      ·rw [if_pos c12] at H
       have c12b0 : (a0_1 == 0) = true := beq_iff_eq.mpr c12
       have c12b1 : (a0_1 != 0) = false := bne_eq_false_iff_eq.mpr c12
       clear c12
       by_cases c13 : a0_0 > 0
       ·rw [if_pos c13] at H
        have c13b0 : decide (0 < a0_0) = true := decide_eq_true c13
        clear c13
        have H' := Aside0.mk H
        clear H
        obtain ⟨_, _, _, _⟩ := bc2 a0.out
        go_wp2
        go_meet
        case rel => exact ⟨_, (((Go.bits .and .i64 a0_1 1) == 0)), (by first | rfl | (simp; done) | (simp [*]; done)), H', ⟨by have := HJ1.out; first | omega | exact Nat.le_refl _⟩, ⟨by (with_reducible repeat first | apply bN_ | apply bD_ | apply bA_); exact a0.out⟩, ⟨by repeat (first | (with_reducible first | exact HB.out | apply lA1_ | apply lN_ | apply lD_ | refine lS1_ ?_ a1.out) | exact HB.out)⟩⟩
       ·rw [if_neg c13] at H
        have c13b0 : decide (0 < a0_0) = false := decide_eq_false c13
        clear c13
        have H' := Aside0.mk H
        clear H
        obtain ⟨_, _, _, _⟩ := bc2 a0.out
        go_wp2
        go_meet
        case rel => exact ⟨_, (false), (by first | rfl | (simp; done) | (simp [*]; done)), H', ⟨by have := HJ1.out; first | omega | exact Nat.le_refl _⟩, ⟨by (with_reducible repeat first | apply bN_ | apply bD_ | apply bA_); exact a0.out⟩, ⟨by repeat (first | (with_reducible first | exact HB.out | apply lA1_ | apply lN_ | apply lD_ | refine lS1_ ?_ a1.out) | exact HB.out)⟩⟩
      ·rw [if_neg c12] at H
       have c12b0 : (a0_1 == 0) = false := beq_eq_false_iff_ne.mpr c12
       have c12b1 : (a0_1 != 0) = true := bne_iff_ne.mpr c12
       have H' := Aside0.mk H
       clear H
       obtain ⟨_, _, _, _⟩ := bc2 a0.out
       go_wp2
       go_meet
       case rel => exact ⟨_, (true), (by first | rfl | (simp; done) | (simp [*]; done)), H', ⟨by have := HJ1.out; first | omega | exact Nat.le_refl _⟩, ⟨by (with_reducible repeat first | apply bN_ | apply bD_ | apply bA_); exact a0.out⟩, ⟨by repeat (first | (with_reducible first | exact HB.out | apply lA1_ | apply lN_ | apply lD_ | refine lS1_ ?_ a1.out) | exact HB.out)⟩⟩
     ·rw [if_neg c11] at H
      have c11b0 : (a0_0 == 0) = false := beq_eq_false_iff_ne.mpr c11
      have c11b1 : (a0_0 != 0) = true := bne_iff_ne.mpr c11
      (first | rw [c11b0] | (simp only [i64_w, i32_w]; rw [c11b0]) | skip)
      by_cases c17 : a0_0 > 0
      ·rw [if_pos c17] at H
       have c17b0 : decide (0 < a0_0) = true := decide_eq_true c17
       clear c17
       have H' := Aside0.mk H
       clear H
       obtain ⟨_, _, _, _⟩ := bc2 a0.out
       go_wp2
       go_meet
       case rel => exact ⟨_, (((Go.bits .and .i64 a0_1 1) == 0)), (by first | rfl | (simp; done) | (simp [*]; done)), H', ⟨by have := HJ1.out; first | omega | exact Nat.le_refl _⟩, ⟨by (with_reducible repeat first | apply bN_ | apply bD_ | apply bA_); exact a0.out⟩, ⟨by repeat (first | (with_reducible first | exact HB.out | apply lA1_ | apply lN_ | apply lD_ | refine lS1_ ?_ a1.out) | exact HB.out)⟩⟩
      ·rw [if_neg c17] at H
       have c17b0 : decide (0 < a0_0) = false := decide_eq_false c17
       clear c17
       have H' := Aside0.mk H
       clear H
       obtain ⟨_, _, _, _⟩ := bc2 a0.out
       go_wp2
       go_meet
       case rel => exact ⟨_, (false), (by first | rfl | (simp; done) | (simp [*]; done)), H', ⟨by have := HJ1.out; first | omega | exact Nat.le_refl _⟩, ⟨by (with_reducible repeat first | apply bN_ | apply bD_ | apply bA_); exact a0.out⟩, ⟨by repeat (first | (with_reducible first | exact HB.out | apply lA1_ | apply lN_ | apply lD_ | refine lS1_ ?_ a1.out) | exact HB.out)⟩⟩
    case rest =>
     clear a3
     try clear c1
     try clear p2
     try clear c3
     try clear c5
     try clear c6
     try clear c9
     try clear c11
     try clear c11b0
     try clear c11b1
     try clear c12
     try clear c12b0
     try clear c12b1
     try clear c13
     try clear c13b0
     try clear c17
     try clear c17b0
     try clear hcz14_0
     try clear hcz14_1
     try clear hcz15_0
     try clear hcz15_1
     try clear hcz16_0
     try clear hcz16_1
     try clear hcz18_0
     try clear hcz18_1
     try clear hcz19_0
     try clear hcz19_1
     try clear hcz7_0
     try clear hcz7_1
     try clear hcz8_0
     try clear hcz8_1
     try clear hfz14_0
     try clear hfz14_1
     try clear hfz15_0
     try clear hfz15_1
     try clear hfz16_0
     try clear hfz16_1
     try clear hfz18_0
     try clear hfz18_1
     try clear hfz19_0
     try clear hfz19_1
     try clear hfz7_0
     try clear hfz7_1
     try clear hfz8_0
     try clear hfz8_1
     try clear p2
     obtain ⟨kq, x32_9, rfl, HA, HJ9, a0, HB⟩ := hcut
     cases kq with
     | zero => exact absurd HA.out (by simp [spec_WindowFault.j1])
     | succ kj9 =>
      have H := HA.out
      clear HA
      simp only [spec_WindowFault.j1] at H
      by_cases c20 : x32_9 = true
      ·subst c20
       rw [if_pos rfl] at H
       obtain rfl := Option.some.inj H
       go_wp2
       go_ret
       exact ⟨by first | rfl | (simp [errW_none, errW_some] <;> rfl) | (simp [*, errW_none, errW_some] <;> rfl), by repeat (first | (with_reducible first | exact HB.out | apply lA1_ | apply lN_ | apply lD_ | refine lS1_ ?_ a1.out) | exact HB.out)⟩
      ·replace c20 := Bool.eq_false_iff.mpr c20
       subst c20
       rw [if_neg (show ¬ (false = true) by decide)] at H
       have H' := Aside0.mk H
       clear H
       go_wp2
       go_loopg [3] kj9 (fun kq v3 w' => ∃ (x3_3 : Int), v3 = .int .i64 x3_3 ∧ Aside0 (spec_WindowFault.l0 kq x3_3 a0_0 a0_1 = some r) ∧ Aside0 (kq ≤ kj9) ∧ Aside0 (w'.heap[a2]? = some (.cells #[.int .i64 a0_0, .int .i64 a0_1] 56 (0, 0))) ∧ Aside0 (Below w.heap.size w w'))
       case atStart => exact ⟨(0), (by first | rfl | (simp; done) | (simp [*]; done)), H', ⟨Nat.le_refl _⟩, ⟨by (with_reducible repeat first | apply bN_ | apply bD_ | apply bA_); exact a0.out⟩, ⟨by repeat (first | (with_reducible first | exact HB.out | apply lA1_ | apply lN_ | apply lD_ | refine lS1_ ?_ a1.out) | exact HB.out)⟩⟩
       case round =>
        clear H'
        try clear c1
        try clear c2
        try clear p2
        try clear c3
        try clear c5
        try clear c6
        try clear c9
        try clear c11
        try clear c11b0
        try clear c11b1
        try clear c12
        try clear c12b0
        try clear c12b1
        try clear c13
        try clear c13b0
        try clear c17
        try clear c17b0
        try clear c20
        try clear hcz14_0
        try clear hcz14_1
        try clear hcz15_0
        try clear hcz15_1
        try clear hcz16_0
        try clear hcz16_1
        try clear hcz18_0
        try clear hcz18_1
        try clear hcz19_0
        try clear hcz19_1
        try clear hcz7_0
        try clear hcz7_1
        try clear hcz8_0
        try clear hcz8_1
        try clear hfz14_0
        try clear hfz14_1
        try clear hfz15_0
        try clear hfz15_1
        try clear hfz16_0
        try clear hfz16_1
        try clear hfz18_0
        try clear hfz18_1
        try clear hfz19_0
        try clear hfz19_1
        try clear hfz7_0
        try clear hfz7_1
        try clear hfz8_0
        try clear hfz8_1
        try clear p2
        obtain ⟨x3_3, rfl, HA, HK3, a0, HB⟩ := hrel
        cases gk with
        | zero => exact absurd HA.out (by simp [spec_WindowFault.l0])
        | succ k3 =>
         have H := HA.out
         clear HA
         simp only [spec_WindowFault.l0] at H
         by_cases c21 : x3_3 < 32
         ·rw [if_pos c21] at H
          have c21b0 : decide (x3_3 < 32) = true := decide_eq_true c21
          clear c21
          obtain ⟨ji22, hji22⟩ : ∃ j_ : Int, (IntKind.u64.wrap (x3_3)) = j_ := ⟨_, rfl⟩
          replace H : (if 0 ≤ (ji22) then (if (Go.bits .and .i64 (shr .i64 a0_1 (ji22)) 1) = 1 then (if (wrap64 (a0_0 - x3_3)) < 1 then (some 1) else (spec_WindowFault.l0 k3 (wrap64 (x3_3 + 1)) a0_0 a0_1)) else (spec_WindowFault.l0 k3 (wrap64 (x3_3 + 1)) a0_0 a0_1)) else (none)) = some r := by first | (rw [hji22] at H; exact H) | (simp only [hji22] at H ⊢; exact H)
          by_cases c23 : 0 ≤ (ji22)
          ·rw [if_pos c23] at H
           have c23b0 := eq_true c23
           have c23b1 : decide (0 ≤ (ji22)) = true := decide_eq_true c23
           clear c23
           obtain ⟨ji24, hji24⟩ : ∃ j_ : Int, (shr .i64 a0_1 (ji22)) = j_ := ⟨_, rfl⟩
           replace H : (if (Go.bits .and .i64 (ji24) 1) = 1 then (if (wrap64 (a0_0 - x3_3)) < 1 then (some 1) else (spec_WindowFault.l0 k3 (wrap64 (x3_3 + 1)) a0_0 a0_1)) else (spec_WindowFault.l0 k3 (wrap64 (x3_3 + 1)) a0_0 a0_1)) = some r := by first | (rw [hji24] at H; exact H) | (simp only [hji24] at H ⊢; exact H)
           have hji24_ : (a0_1 / 2 ^ min (ji22).toNat 64) = ji24 := hji24
           have hji24z : (ji22) ≤ 64 → (a0_1 / 2 ^ (ji22).toNat) = ji24 := shr_small hji24
           by_cases c25 : (Go.bits .and .i64 (ji24) 1) = 1
           ·rw [if_pos c25] at H
            have c25b0 : ((Go.bits .and .i64 (ji24) 1) == 1) = true := beq_iff_eq.mpr c25
            have c25b1 : ((Go.bits .and .i64 (ji24) 1) != 1) = false := bne_eq_false_iff_eq.mpr c25
            clear c25
            by_cases c26 : (wrap64 (a0_0 - x3_3)) < 1
            ·rw [if_pos c26] at H
             have c26b0 : decide ((wrap64 (a0_0 - x3_3)) < 1) = true := decide_eq_true c26
             clear c26
             obtain rfl := Option.some.inj H
             obtain ⟨_, _, _, _⟩ := bc2 a0.out
             go_wp2
             go_ret
             exact ⟨by first | rfl | (simp [errW_none, errW_some] <;> rfl) | (simp only [← hji22, ← hji24]; first | rfl | (simp [errW_none, errW_some] <;> rfl)) | (simp [*, errW_none, errW_some] <;> rfl), by repeat (first | (with_reducible first | exact HB.out | apply lA1_ | apply lN_ | apply lD_ | refine lS1_ ?_ a1.out) | exact HB.out)⟩
            ·rw [if_neg c26] at H
             have c26b0 : decide ((wrap64 (a0_0 - x3_3)) < 1) = false := decide_eq_false c26
             clear c26
             have H' := Aside0.mk H
             clear H
             obtain ⟨_, _, _, _⟩ := bc2 a0.out
             go_wp2
             go_roundg k3
             case measure => have := HJ1.out; have := HJ9.out; have := HK3.out; omega
             case rel => exact ⟨(wrap64 (x3_3 + 1)), (by first | rfl | (simp; done) | (simp [*]; done)), H', ⟨by have := HJ1.out; have := HJ9.out; have := HK3.out; omega⟩, ⟨by (with_reducible repeat first | apply bN_ | apply bD_ | apply bA_); exact a0.out⟩, ⟨by repeat (first | (with_reducible first | exact HB.out | apply lA1_ | apply lN_ | apply lD_ | refine lS1_ ?_ a1.out) | exact HB.out)⟩⟩
           ·rw [if_neg c25] at H
            have c25b0 : ((Go.bits .and .i64 (ji24) 1) == 1) = false := beq_eq_false_iff_ne.mpr c25
            have c25b1 : ((Go.bits .and .i64 (ji24) 1) != 1) = true := bne_iff_ne.mpr c25
            have H' := Aside0.mk H
            clear H
            obtain ⟨_, _, _, _⟩ := bc2 a0.out
            go_wp2
            go_roundg k3
            case measure => have := HJ1.out; have := HJ9.out; have := HK3.out; omega
            case rel => exact ⟨(wrap64 (x3_3 + 1)), (by first | rfl | (simp; done) | (simp [*]; done)), H', ⟨by have := HJ1.out; have := HJ9.out; have := HK3.out; omega⟩, ⟨by (with_reducible repeat first | apply bN_ | apply bD_ | apply bA_); exact a0.out⟩, ⟨by repeat (first | (with_reducible first | exact HB.out | apply lA1_ | apply lN_ | apply lD_ | refine lS1_ ?_ a1.out) | exact HB.out)⟩⟩
          ·rw [if_neg c23] at H
           exact absurd H (by simp)
         ·rw [if_neg c21] at H
          have c21b0 : decide (x3_3 < 32) = false := decide_eq_false c21
          clear c21
          obtain rfl := Option.some.inj H
          go_wp2
          go_ret
          exact ⟨by first | rfl | (simp [errW_none, errW_some] <;> rfl) | (simp [*, errW_none, errW_some] <;> rfl), by repeat (first | (with_reducible first | exact HB.out | apply lA1_ | apply lN_ | apply lD_ | refine lS1_ ?_ a1.out) | exact HB.out)⟩
theorem eqA56 (d : Nat) (w : World) (x0 y0 : Int) (x1 y1 : Int) :
    (Op.equalIn (d + 2) 56 (.agg #[.int .i64 x0, .int .i64 x1]) (.agg #[.int .i64 y0, .int .i64 y1])).run Try.prog w = .ok (x0 == y0 && (x1 == y1)) w := by
  refine eqA_of Try.underlying56 (by kernel_rfl) ?_
  refine eqf_cons (by rfl) (by go_simp; rfl) (by go_simp; rfl) (by go_simp) ?_
  exact eqf_last (by rfl) (by go_simp; rfl) (by go_simp; rfl) (by go_simp)
end Go.Proofs.Ytaniedjfkiklmaa.G
namespace Go.Proofs.Ytaniedjfkiklmaa.G
open Go.RowKit Go.Proofs.YtaniedjfkiklmaaW.PrintWords Go.Proofs.YtaniedjfkiklmaaW.PrintLast Go.Proofs.YtaniedjfkiklmaaW.PrintMore
attribute [local go_sem] max2_int min2_int max_two min_two max_three min_three max_four min_four   -- for this text's walks alone
set_option linter.unusedVariables false
set_option linter.unusedSimpArgs false
attribute [local go_sem high] eqA56
def spec_l11Shape.j0 : Nat → Bool → Int → Int → Int → Int → Int → Int → Int → Int → Int → Int → Int → Int → Int → Int → Int → Int → Int → Int → Int → Int → Option (Bool)
 | 0, _, _, _, _, _, _, _, _, _, _, _, _, _, _, _, _, _, _, _, _, _ => none
 | k + 1, x11, x389000, x389001, x389002, x389003, x389004, x389005, x389006, x389007, x389008, x389009, x389010, x389011, x389012, x389013, x389014, x389015, x389016, x389017, x389018, x389019 => if x11 = true then (some false) else (if x389001 = 1 then (if (true != (x389000 != 0)) = true then (some false) else (if x389002 = 3 then (some true) else (if x389017 = 0 then (some (x389018 == 0 && (x389019 == 0))) else (some false)))) else (if ((x389002 == 3) != (x389000 != 0)) = true then (some false) else (if x389002 = 3 then (some true) else (if x389017 = 0 then (some (x389018 == 0 && (x389019 == 0))) else (some false)))))
def spec_l11Shape.f (k : Nat) (a0_0 : Int) (a0_1 : Int) (a0_2 : Int) (a0_3 : Int) (a0_4 : Int) (a0_5 : Int) (a0_6 : Int) (a0_7 : Int) (a0_8 : Int) (a0_9 : Int) (a0_10 : Int) (a0_11 : Int) (a0_12 : Int) (a0_13 : Int) (a0_14 : Int) (a0_15 : Int) (a0_16 : Int) (a0_17 : Int) (a0_18 : Int) (a0_19 : Int) : Option (Bool) := if a0_1 = 2 then (spec_l11Shape.j0 k (a0_2 == 1) a0_0 a0_1 a0_2 a0_3 a0_4 a0_5 a0_6 a0_7 a0_8 a0_9 a0_10 a0_11 a0_12 a0_13 a0_14 a0_15 a0_16 a0_17 a0_18 a0_19) else (spec_l11Shape.j0 k false a0_0 a0_1 a0_2 a0_3 a0_4 a0_5 a0_6 a0_7 a0_8 a0_9 a0_10 a0_11 a0_12 a0_13 a0_14 a0_15 a0_16 a0_17 a0_18 a0_19)
set_option maxHeartbeats 8000000 in
set_option maxRecDepth 100000 in
theorem spec_l11Shape.calls (k : Nat) (a0_0 : Int) (a0_1 : Int) (a0_2 : Int) (a0_3 : Int) (a0_4 : Int) (a0_5 : Int) (a0_6 : Int) (a0_7 : Int) (a0_8 : Int) (a0_9 : Int) (a0_10 : Int) (a0_11 : Int) (a0_12 : Int) (a0_13 : Int) (a0_14 : Int) (a0_15 : Int) (a0_16 : Int) (a0_17 : Int) (a0_18 : Int) (a0_19 : Int) (r : Bool) (w : World) (h : spec_l11Shape.f k a0_0 a0_1 a0_2 a0_3 a0_4 a0_5 a0_6 a0_7 a0_8 a0_9 a0_10 a0_11 a0_12 a0_13 a0_14 a0_15 a0_16 a0_17 a0_18 a0_19 = some r) :
  Calls Try.prog 65 #[.agg #[.int .i64 a0_0, .int .i64 a0_1, .int .i64 a0_2, .int .i64 a0_3, .int .i64 a0_4, .int .i64 a0_5, .int .i64 a0_6, .int .i64 a0_7, .int .i64 a0_8, .int .i64 a0_9, .int .i64 a0_10, .int .i64 a0_11, .int .i64 a0_12, .int .i64 a0_13, .int .i64 a0_14, .int .i64 a0_15, .int .i64 a0_16, .int .i64 a0_17, .int .i64 a0_18, .int .i64 a0_19]] w fun e w' => e = .returned (.bool r) ∧ Below w.heap.size w w' := by
 have hu58 := Try.underlying58
 have hu56 := Try.underlying56
 have HB := Aside0.mk (Below.refl w.heap.size w)
 have H : (if a0_1 = 2 then (spec_l11Shape.j0 k (a0_2 == 1) a0_0 a0_1 a0_2 a0_3 a0_4 a0_5 a0_6 a0_7 a0_8 a0_9 a0_10 a0_11 a0_12 a0_13 a0_14 a0_15 a0_16 a0_17 a0_18 a0_19) else (spec_l11Shape.j0 k false a0_0 a0_1 a0_2 a0_3 a0_4 a0_5 a0_6 a0_7 a0_8 a0_9 a0_10 a0_11 a0_12 a0_13 a0_14 a0_15 a0_16 a0_17 a0_18 a0_19)) = some r := h
 clear h
 have a3 := Aside0.mk H
 clear H
 go_enter Try.func65, Try.ntmps65
 go_upto_region 1 with (first | ((with_reducible refine gate_dst (N := 1) rfl ?_); refine box_event ?hg (N := 1) ?hd (cs := #[.int .i64 a0_0, .int .i64 a0_1, .int .i64 a0_2, .int .i64 a0_3, .int .i64 a0_4, .int .i64 a0_5, .int .i64 a0_6, .int .i64 a0_7, .int .i64 a0_8, .int .i64 a0_9, .int .i64 a0_10, .int .i64 a0_11, .int .i64 a0_12, .int .i64 a0_13, .int .i64 a0_14, .int .i64 a0_15, .int .i64 a0_16, .int .i64 a0_17, .int .i64 a0_18, .int .i64 a0_19]) (t := 58) ?hr ?_; (case hd => rfl); (case hg => rfl); (case hr => first | (go_simp; done) | (go_simp; rfl)); intro a2 hg w3 hbox hb; have n0_ := Aside0.mk (lP_ (by repeat (first | (with_reducible first | exact HB.out | apply lA1_ | apply lN_ | apply lD_) | exact HB.out)) hb); have n1_ := Aside0.mk (hbox); have n2_ := Aside0.mk ((by rw [hg]; exact (below_size (by repeat (first | (with_reducible first | exact HB.out | apply lA1_ | apply lN_ | apply lD_) | exact HB.out))) : w.heap.size ≤ a2)); have n3_ := Aside0.mk ((by rw [hg]; exact (below_size (by repeat (first | (with_reducible first | exact HB.out | apply lA1_ | apply lN_ | apply lD_) | exact HB.out))) : w.heap.size ≤ a2)); clear HB; have HB := n0_; have a0 := n1_; have a4 := n2_; have a1 := n3_; clear n0_ n1_ n2_ n3_ hb hbox hg))
 (try simp only [Act.put, lA_, lZ_, lS_])
 go_cut [11] (fun v11 wc => ∃ (kq : Nat) (x11_1 : Bool), v11 = .bool x11_1 ∧ Aside0 (spec_l11Shape.j0 kq x11_1 a0_0 a0_1 a0_2 a0_3 a0_4 a0_5 a0_6 a0_7 a0_8 a0_9 a0_10 a0_11 a0_12 a0_13 a0_14 a0_15 a0_16 a0_17 a0_18 a0_19 = some r) ∧ Aside0 (kq ≤ k) ∧ Aside0 (wc.heap[a2]? = some (.cells #[.int .i64 a0_0, .int .i64 a0_1, .int .i64 a0_2, .int .i64 a0_3, .int .i64 a0_4, .int .i64 a0_5, .int .i64 a0_6, .int .i64 a0_7, .int .i64 a0_8, .int .i64 a0_9, .int .i64 a0_10, .int .i64 a0_11, .int .i64 a0_12, .int .i64 a0_13, .int .i64 a0_14, .int .i64 a0_15, .int .i64 a0_16, .int .i64 a0_17, .int .i64 a0_18, .int .i64 a0_19] 58 (0, 0))) ∧ Aside0 (Below w.heap.size w wc))
 case first =>
  have H := a3.out
  clear a3
  by_cases c4 : a0_1 = 2
  ·rw [if_pos c4] at H
   have c4b0 : (a0_1 == 2) = true := beq_iff_eq.mpr c4
   have c4b1 : (a0_1 != 2) = false := bne_eq_false_iff_eq.mpr c4
   clear c4
   (first | rw [c4b0] | (simp only [i64_w, i32_w]; rw [c4b0]) | skip)
   have H' := Aside0.mk H
   clear H
   obtain ⟨_, _, _, _, _, _, _, _, _, _, _, _, _, _, _, _, _, _, _, _, _, _, _, _, _, _, _, _, _, _, _, _, _, _, _, _, _, _, _, _⟩ := bc20 a0.out
   go_wp2
   go_meet
   case rel => exact ⟨_, ((a0_2 == 1)), (by first | rfl | (simp; done) | (simp [*]; done)), H', ⟨by first | omega | exact Nat.le_refl _⟩, ⟨by (with_reducible repeat first | apply bN_ | apply bD_ | apply bA_); exact a0.out⟩, ⟨by repeat (first | (with_reducible first | exact HB.out | apply lA1_ | apply lN_ | apply lD_ | refine lS1_ ?_ a1.out) | exact HB.out)⟩⟩
  ·rw [if_neg c4] at H
   have c4b0 : (a0_1 == 2) = false := beq_eq_false_iff_ne.mpr c4
   have c4b1 : (a0_1 != 2) = true := bne_iff_ne.mpr c4
   (first | rw [c4b0] | (simp only [i64_w, i32_w]; rw [c4b0]) | skip)
   have H' := Aside0.mk H
   clear H
   obtain ⟨_, _, _, _, _, _, _, _, _, _, _, _, _, _, _, _, _, _, _, _, _, _, _, _, _, _, _, _, _, _, _, _, _, _, _, _, _, _, _, _⟩ := bc20 a0.out
   go_wp2
   go_meet
   case rel => exact ⟨_, (false), (by first | rfl | (simp; done) | (simp [*]; done)), H', ⟨by first | omega | exact Nat.le_refl _⟩, ⟨by (with_reducible repeat first | apply bN_ | apply bD_ | apply bA_); exact a0.out⟩, ⟨by repeat (first | (with_reducible first | exact HB.out | apply lA1_ | apply lN_ | apply lD_ | refine lS1_ ?_ a1.out) | exact HB.out)⟩⟩
 case rest =>
  clear a3
  try clear p2
  try clear c4
  try clear c4b0
  try clear c4b1
  try clear c6
  try clear hcz5_0
  try clear hcz5_1
  try clear hcz5_10
  try clear hcz5_11
  try clear hcz5_12
  try clear hcz5_13
  try clear hcz5_14
  try clear hcz5_15
  try clear hcz5_16
  try clear hcz5_17
  try clear hcz5_18
  try clear hcz5_19
  try clear hcz5_2
  try clear hcz5_3
  try clear hcz5_4
  try clear hcz5_5
  try clear hcz5_6
  try clear hcz5_7
  try clear hcz5_8
  try clear hcz5_9
  try clear hcz6_0
  try clear hcz6_1
  try clear hcz6_10
  try clear hcz6_11
  try clear hcz6_12
  try clear hcz6_13
  try clear hcz6_14
  try clear hcz6_15
  try clear hcz6_16
  try clear hcz6_17
  try clear hcz6_18
  try clear hcz6_19
  try clear hcz6_2
  try clear hcz6_3
  try clear hcz6_4
  try clear hcz6_5
  try clear hcz6_6
  try clear hcz6_7
  try clear hcz6_8
  try clear hcz6_9
  try clear hfz5_0
  try clear hfz5_1
  try clear hfz5_10
  try clear hfz5_11
  try clear hfz5_12
  try clear hfz5_13
  try clear hfz5_14
  try clear hfz5_15
  try clear hfz5_16
  try clear hfz5_17
  try clear hfz5_18
  try clear hfz5_19
  try clear hfz5_2
  try clear hfz5_3
  try clear hfz5_4
  try clear hfz5_5
  try clear hfz5_6
  try clear hfz5_7
  try clear hfz5_8
  try clear hfz5_9
  try clear hfz6_0
  try clear hfz6_1
  try clear hfz6_10
  try clear hfz6_11
  try clear hfz6_12
  try clear hfz6_13
  try clear hfz6_14
  try clear hfz6_15
  try clear hfz6_16
  try clear hfz6_17
  try clear hfz6_18
  try clear hfz6_19
  try clear hfz6_2
  try clear hfz6_3
  try clear hfz6_4
  try clear hfz6_5
  try clear hfz6_6
  try clear hfz6_7
  try clear hfz6_8
  try clear hfz6_9
  obtain ⟨kq, x11_1, rfl, HA, HJ1, a0, HB⟩ := hcut
  cases kq with
  | zero => exact absurd HA.out (by simp [spec_l11Shape.j0])
  | succ kj1 =>
   have H := HA.out
   clear HA
   simp only [spec_l11Shape.j0] at H
   by_cases c7 : x11_1 = true
   ·subst c7
    rw [if_pos rfl] at H
    obtain rfl := Option.some.inj H
    go_wp2
    go_ret
    exact ⟨by first | rfl | (simp [errW_none, errW_some] <;> rfl) | (simp [*, errW_none, errW_some] <;> rfl), by repeat (first | (with_reducible first | exact HB.out | apply lA1_ | apply lN_ | apply lD_ | refine lS1_ ?_ a1.out) | exact HB.out)⟩
   ·replace c7 := Bool.eq_false_iff.mpr c7
    subst c7
    rw [if_neg (show ¬ (false = true) by decide)] at H
    by_cases c8 : a0_1 = 1
    ·rw [if_pos c8] at H
     have c8b0 : (a0_1 == 1) = true := beq_iff_eq.mpr c8
     have c8b1 : (a0_1 != 1) = false := bne_eq_false_iff_eq.mpr c8
     clear c8
     by_cases c9 : (true != (a0_0 != 0)) = true
     ·rw [if_pos c9] at H
      have c9b0 : (true != (a0_0 != 0)) = true := c9
      (try (have c9b1 : decide (true = (a0_0 != 0)) = false := by simpa using c9))
      (try (have c9b2 : (true == (a0_0 != 0)) = false := by simpa using c9))
      (try (have c9b3 : ¬ (true = (a0_0 != 0)) := by simpa using c9))
      clear c9
      obtain rfl := Option.some.inj H
      obtain ⟨_, _, _, _, _, _, _, _, _, _, _, _, _, _, _, _, _, _, _, _, _, _, _, _, _, _, _, _, _, _, _, _, _, _, _, _, _, _, _, _⟩ := bc20 a0.out
      go_wp2
      go_ret
      exact ⟨by first | rfl | (simp [errW_none, errW_some] <;> rfl) | (simp [*, errW_none, errW_some] <;> rfl), by repeat (first | (with_reducible first | exact HB.out | apply lA1_ | apply lN_ | apply lD_ | refine lS1_ ?_ a1.out) | exact HB.out)⟩
     ·rw [if_neg c9] at H
      have c9b0 : (true != (a0_0 != 0)) = false := by simpa using c9
      (try (have c9b1 : decide (true = (a0_0 != 0)) = true := by simpa using c9))
      (try (have c9b2 : (true == (a0_0 != 0)) = true := by simpa using c9))
      clear c9
      by_cases c11 : a0_2 = 3
      ·rw [if_pos c11] at H
       have c11b0 : (a0_2 == 3) = true := beq_iff_eq.mpr c11
       have c11b1 : (a0_2 != 3) = false := bne_eq_false_iff_eq.mpr c11
       clear c11
       obtain rfl := Option.some.inj H
       obtain ⟨_, _, _, _, _, _, _, _, _, _, _, _, _, _, _, _, _, _, _, _, _, _, _, _, _, _, _, _, _, _, _, _, _, _, _, _, _, _, _, _⟩ := bc20 a0.out
       go_wp2
       go_ret
       exact ⟨by first | rfl | (simp [errW_none, errW_some] <;> rfl) | (simp [*, errW_none, errW_some] <;> rfl), by repeat (first | (with_reducible first | exact HB.out | apply lA1_ | apply lN_ | apply lD_ | refine lS1_ ?_ a1.out) | exact HB.out)⟩
      ·rw [if_neg c11] at H
       have c11b0 : (a0_2 == 3) = false := beq_eq_false_iff_ne.mpr c11
       have c11b1 : (a0_2 != 3) = true := bne_iff_ne.mpr c11
       by_cases c13 : a0_17 = 0
       ·rw [if_pos c13] at H
        have c13b0 : (a0_17 == 0) = true := beq_iff_eq.mpr c13
        have c13b1 : (a0_17 != 0) = false := bne_eq_false_iff_eq.mpr c13
        clear c13
        obtain rfl := Option.some.inj H
        obtain ⟨_, _, _, _, _, _, _, _, _, _, _, _, _, _, _, _, _, _, _, _, _, _, _, _, _, _, _, _, _, _, _, _, _, _, _, _, _, _, _, _⟩ := bc20 a0.out
        go_wp2
        go_ret
        exact ⟨by first | rfl | (simp [errW_none, errW_some] <;> rfl) | (simp [*, errW_none, errW_some] <;> rfl), by repeat (first | (with_reducible first | exact HB.out | apply lA1_ | apply lN_ | apply lD_ | refine lS1_ ?_ a1.out) | exact HB.out)⟩
       ·rw [if_neg c13] at H
        have c13b0 : (a0_17 == 0) = false := beq_eq_false_iff_ne.mpr c13
        have c13b1 : (a0_17 != 0) = true := bne_iff_ne.mpr c13
        obtain rfl := Option.some.inj H
        obtain ⟨_, _, _, _, _, _, _, _, _, _, _, _, _, _, _, _, _, _, _, _, _, _, _, _, _, _, _, _, _, _, _, _, _, _, _, _, _, _, _, _⟩ := bc20 a0.out
        go_wp2
        go_ret
        exact ⟨by first | rfl | (simp [errW_none, errW_some] <;> rfl) | (simp [*, errW_none, errW_some] <;> rfl), by repeat (first | (with_reducible first | exact HB.out | apply lA1_ | apply lN_ | apply lD_ | refine lS1_ ?_ a1.out) | exact HB.out)⟩
    ·rw [if_neg c8] at H
     have c8b0 : (a0_1 == 1) = false := beq_eq_false_iff_ne.mpr c8
     have c8b1 : (a0_1 != 1) = true := bne_iff_ne.mpr c8
     by_cases c16 : ((a0_2 == 3) != (a0_0 != 0)) = true
     ·rw [if_pos c16] at H
      have c16b0 : ((a0_2 == 3) != (a0_0 != 0)) = true := c16
      (try (have c16b1 : decide ((a0_2 == 3) = (a0_0 != 0)) = false := by simpa using c16))
      (try (have c16b2 : ((a0_2 == 3) == (a0_0 != 0)) = false := by simpa using c16))
      (try (have c16b3 : ¬ ((a0_2 == 3) = (a0_0 != 0)) := by simpa using c16))
      clear c16
      obtain rfl := Option.some.inj H
      obtain ⟨_, _, _, _, _, _, _, _, _, _, _, _, _, _, _, _, _, _, _, _, _, _, _, _, _, _, _, _, _, _, _, _, _, _, _, _, _, _, _, _⟩ := bc20 a0.out
      go_wp2
      go_ret
      exact ⟨by first | rfl | (simp [errW_none, errW_some] <;> rfl) | (simp [*, errW_none, errW_some] <;> rfl), by repeat (first | (with_reducible first | exact HB.out | apply lA1_ | apply lN_ | apply lD_ | refine lS1_ ?_ a1.out) | exact HB.out)⟩
     ·rw [if_neg c16] at H
      have c16b0 : ((a0_2 == 3) != (a0_0 != 0)) = false := by simpa using c16
      (try (have c16b1 : decide ((a0_2 == 3) = (a0_0 != 0)) = true := by simpa using c16))
      (try (have c16b2 : ((a0_2 == 3) == (a0_0 != 0)) = true := by simpa using c16))
      clear c16
      by_cases c18 : a0_2 = 3
      ·rw [if_pos c18] at H
       have c18b0 : (a0_2 == 3) = true := beq_iff_eq.mpr c18
       have c18b1 : (a0_2 != 3) = false := bne_eq_false_iff_eq.mpr c18
       have cx1 : (a0_0 != 0) = true := by simpa [c18b0] using c16b2
       have cx2 : (a0_0 == 0) = false := by simpa using cx1
       clear c18
       obtain rfl := Option.some.inj H
       obtain ⟨_, _, _, _, _, _, _, _, _, _, _, _, _, _, _, _, _, _, _, _, _, _, _, _, _, _, _, _, _, _, _, _, _, _, _, _, _, _, _, _⟩ := bc20 a0.out
       go_wp2
       go_ret
       exact ⟨by first | rfl | (simp [errW_none, errW_some] <;> rfl) | (simp [*, errW_none, errW_some] <;> rfl), by repeat (first | (with_reducible first | exact HB.out | apply lA1_ | apply lN_ | apply lD_ | refine lS1_ ?_ a1.out) | exact HB.out)⟩
      ·rw [if_neg c18] at H
       have c18b0 : (a0_2 == 3) = false := beq_eq_false_iff_ne.mpr c18
       have c18b1 : (a0_2 != 3) = true := bne_iff_ne.mpr c18
       have cx1 : (a0_0 != 0) = false := by simpa [c18b0] using c16b2
       have cx2 : (a0_0 == 0) = true := by simpa using cx1
       by_cases c20 : a0_17 = 0
       ·rw [if_pos c20] at H
        have c20b0 : (a0_17 == 0) = true := beq_iff_eq.mpr c20
        have c20b1 : (a0_17 != 0) = false := bne_eq_false_iff_eq.mpr c20
        clear c20
        obtain rfl := Option.some.inj H
        obtain ⟨_, _, _, _, _, _, _, _, _, _, _, _, _, _, _, _, _, _, _, _, _, _, _, _, _, _, _, _, _, _, _, _, _, _, _, _, _, _, _, _⟩ := bc20 a0.out
        go_wp2
        go_ret
        exact ⟨by first | rfl | (simp [errW_none, errW_some] <;> rfl) | (simp [*, errW_none, errW_some] <;> rfl), by repeat (first | (with_reducible first | exact HB.out | apply lA1_ | apply lN_ | apply lD_ | refine lS1_ ?_ a1.out) | exact HB.out)⟩
       ·rw [if_neg c20] at H
        have c20b0 : (a0_17 == 0) = false := beq_eq_false_iff_ne.mpr c20
        have c20b1 : (a0_17 != 0) = true := bne_iff_ne.mpr c20
        obtain rfl := Option.some.inj H
        obtain ⟨_, _, _, _, _, _, _, _, _, _, _, _, _, _, _, _, _, _, _, _, _, _, _, _, _, _, _, _, _, _, _, _, _, _, _, _, _, _, _, _⟩ := bc20 a0.out
        go_wp2
        go_ret
        exact ⟨by first | rfl | (simp [errW_none, errW_some] <;> rfl) | (simp [*, errW_none, errW_some] <;> rfl), by repeat (first | (with_reducible first | exact HB.out | apply lA1_ | apply lN_ | apply lD_ | refine lS1_ ?_ a1.out) | exact HB.out)⟩
end Go.Proofs.Ytaniedjfkiklmaa.G
namespace Go.Proofs.Ytaniedjfkiklmaa.G
open Go.RowKit Go.Proofs.YtaniedjfkiklmaaW.PrintWords Go.Proofs.YtaniedjfkiklmaaW.PrintLast Go.Proofs.YtaniedjfkiklmaaW.PrintMore
attribute [local go_sem] max2_int min2_int max_two min_two max_three min_three max_four min_four   -- for this text's walks alone
set_option linter.unusedVariables false
set_option linter.unusedSimpArgs false
def spec_l11Must.f (a0_0 : Int) (a0_1 : Int) (a0_2 : Int) (a0_3 : Int) (a0_4 : Int) (a0_5 : Int) (a0_6 : Int) (a0_7 : Int) (a0_8 : Int) (a0_9 : Int) (a0_10 : Int) (a0_11 : Int) (a0_12 : Int) (a0_13 : Int) (a0_14 : Int) (a0_15 : Int) (a0_16 : Int) (a0_17 : Int) (a0_18 : Int) (a0_19 : Int) : Option (List Int × List Int) := (some (([a0_5, a0_7, a0_9] : List Int) : List Int)).bind fun y390 => ((some (([a0_6, a0_8, a0_10, a0_11, a0_12, a0_13, a0_14] : List Int) : List Int)).bind fun y393 => ((some (([a0_15, a0_16] : List Int) : List Int)).bind fun y396 => (if a0_2 = 1 then (if y393.length + y396.length < 17592186044416 then (some (y390, (y393 ++ y396))) else (none)) else (if a0_2 = 2 then (if y390.length + y393.length < 17592186044416 then (some ((y390 ++ y393), y396)) else (none)) else (if y390.length + y393.length < 17592186044416 then ((some (y390 ++ y393 : List Int)).bind fun y405 => (if y405.length + y396.length < 17592186044416 then (some ((y405 ++ y396), ([] : List Int))) else (none))) else (none))))))
set_option maxHeartbeats 8000000 in
set_option maxRecDepth 100000 in
theorem spec_l11Must.calls (a0_0 : Int) (a0_1 : Int) (a0_2 : Int) (a0_3 : Int) (a0_4 : Int) (a0_5 : Int) (a0_6 : Int) (a0_7 : Int) (a0_8 : Int) (a0_9 : Int) (a0_10 : Int) (a0_11 : Int) (a0_12 : Int) (a0_13 : Int) (a0_14 : Int) (a0_15 : Int) (a0_16 : Int) (a0_17 : Int) (a0_18 : Int) (a0_19 : Int) (r1 : List Int) (r2 : List Int) (w : World) (h : spec_l11Must.f a0_0 a0_1 a0_2 a0_3 a0_4 a0_5 a0_6 a0_7 a0_8 a0_9 a0_10 a0_11 a0_12 a0_13 a0_14 a0_15 a0_16 a0_17 a0_18 a0_19 = some (r1, r2)) :
  Calls Try.prog 66 #[.agg #[.int .i64 a0_0, .int .i64 a0_1, .int .i64 a0_2, .int .i64 a0_3, .int .i64 a0_4, .int .i64 a0_5, .int .i64 a0_6, .int .i64 a0_7, .int .i64 a0_8, .int .i64 a0_9, .int .i64 a0_10, .int .i64 a0_11, .int .i64 a0_12, .int .i64 a0_13, .int .i64 a0_14, .int .i64 a0_15, .int .i64 a0_16, .int .i64 a0_17, .int .i64 a0_18, .int .i64 a0_19]] w fun e w' => ∃ v0_ v1_ : Value, e = .returned (.tuple #[v0_, v1_]) ∧ Kd.R (Kd.int .i64) 2 w' w.heap.size (fun k_ => some k_ ≠ (v1_ : Value).ownBlock) v0_ r1 ∧ Kd.R (Kd.int .i64) 2 w' w.heap.size (fun k_ => some k_ ≠ (v0_ : Value).ownBlock) v1_ r2 ∧ Below w.heap.size w w' := by
 have hu58 := Try.underlying58
 have HB := Aside0.mk (Below.refl w.heap.size w)
 have H : ((some (([a0_5, a0_7, a0_9] : List Int) : List Int)).bind fun y390 => ((some (([a0_6, a0_8, a0_10, a0_11, a0_12, a0_13, a0_14] : List Int) : List Int)).bind fun y393 => ((some (([a0_15, a0_16] : List Int) : List Int)).bind fun y396 => (if a0_2 = 1 then (if y393.length + y396.length < 17592186044416 then (some (y390, (y393 ++ y396))) else (none)) else (if a0_2 = 2 then (if y390.length + y393.length < 17592186044416 then (some ((y390 ++ y393), y396)) else (none)) else (if y390.length + y393.length < 17592186044416 then ((some (y390 ++ y393 : List Int)).bind fun y405 => (if y405.length + y396.length < 17592186044416 then (some ((y405 ++ y396), ([] : List Int))) else (none))) else (none))))))) = some (r1, r2) := h
 clear h
 obtain ⟨y390, hy390⟩ : ∃ y_ : List Int, y_ = (([a0_5, a0_7, a0_9] : List Int)) := ⟨_, rfl⟩
 replace H : ((some (([a0_6, a0_8, a0_10, a0_11, a0_12, a0_13, a0_14] : List Int) : List Int)).bind fun y393 => ((some (([a0_15, a0_16] : List Int) : List Int)).bind fun y396 => (if a0_2 = 1 then (if y393.length + y396.length < 17592186044416 then (some (y390, (y393 ++ y396))) else (none)) else (if a0_2 = 2 then (if y390.length + y393.length < 17592186044416 then (some ((y390 ++ y393), y396)) else (none)) else (if y390.length + y393.length < 17592186044416 then ((some (y390 ++ y393 : List Int)).bind fun y405 => (if y405.length + y396.length < 17592186044416 then (some ((y405 ++ y396), ([] : List Int))) else (none))) else (none)))))) = some (r1, r2) := by first | (rw [hy390]; with_reducible exact H) | (have H2_ := (Option.bind_some _ _).symm.trans H; rw [hy390]; with_reducible exact H2_) | (have H2_ := (Option.bind_some _ _).symm.trans H; with_reducible exact H2_) | with_reducible exact H | (rw [hy390]; exact H) | exact H
 have a5 := Aside0.mk hy390
 clear hy390
 obtain ⟨y393, hy393⟩ : ∃ y_ : List Int, y_ = (([a0_6, a0_8, a0_10, a0_11, a0_12, a0_13, a0_14] : List Int)) := ⟨_, rfl⟩
 replace H : ((some (([a0_15, a0_16] : List Int) : List Int)).bind fun y396 => (if a0_2 = 1 then (if y393.length + y396.length < 17592186044416 then (some (y390, (y393 ++ y396))) else (none)) else (if a0_2 = 2 then (if y390.length + y393.length < 17592186044416 then (some ((y390 ++ y393), y396)) else (none)) else (if y390.length + y393.length < 17592186044416 then ((some (y390 ++ y393 : List Int)).bind fun y405 => (if y405.length + y396.length < 17592186044416 then (some ((y405 ++ y396), ([] : List Int))) else (none))) else (none))))) = some (r1, r2) := by first | (rw [hy393]; with_reducible exact H) | (have H2_ := (Option.bind_some _ _).symm.trans H; rw [hy393]; with_reducible exact H2_) | (have H2_ := (Option.bind_some _ _).symm.trans H; with_reducible exact H2_) | with_reducible exact H | (rw [hy393]; exact H) | exact H
 have a6 := Aside0.mk hy393
 clear hy393
 obtain ⟨y396, hy396⟩ : ∃ y_ : List Int, y_ = (([a0_15, a0_16] : List Int)) := ⟨_, rfl⟩
 replace H : (if a0_2 = 1 then (if y393.length + y396.length < 17592186044416 then (some (y390, (y393 ++ y396))) else (none)) else (if a0_2 = 2 then (if y390.length + y393.length < 17592186044416 then (some ((y390 ++ y393), y396)) else (none)) else (if y390.length + y393.length < 17592186044416 then ((some (y390 ++ y393 : List Int)).bind fun y405 => (if y405.length + y396.length < 17592186044416 then (some ((y405 ++ y396), ([] : List Int))) else (none))) else (none)))) = some (r1, r2) := by first | (rw [hy396]; with_reducible exact H) | (have H2_ := (Option.bind_some _ _).symm.trans H; rw [hy396]; with_reducible exact H2_) | (have H2_ := (Option.bind_some _ _).symm.trans H; with_reducible exact H2_) | with_reducible exact H | (rw [hy396]; exact H) | exact H
 have a7 := Aside0.mk hy396
 clear hy396
 by_cases c2 : a0_2 = 1
 ·rw [if_pos c2] at H
  have c2b0 : (a0_2 == 1) = true := beq_iff_eq.mpr c2
  have c2b1 : (a0_2 != 1) = false := bne_eq_false_iff_eq.mpr c2
  clear c2
  by_cases c3 : y393.length + y396.length < 17592186044416
  ·rw [if_pos c3] at H
   have aq := Aside0.mk c3
   clear c3
   obtain ⟨y399, hy399⟩ : ∃ y_ : List Int, y_ = (y393 ++ y396) := ⟨_, rfl⟩
   replace H : (some (y390, y399)) = some (r1, r2) := by first | (rw [hy399]; with_reducible exact H) | (have H2_ := (Option.bind_some _ _).symm.trans H; rw [hy399]; with_reducible exact H2_) | (have H2_ := (Option.bind_some _ _).symm.trans H; with_reducible exact H2_) | with_reducible exact H | (rw [hy399]; exact H) | exact H
   have ag := Aside0.mk hy399
   clear hy399
   simp only [Option.some.injEq, Prod.mk.injEq] at H
   obtain ⟨rfl, rfl⟩ := H
   go_enter Try.func66, Try.ntmps66
   go_wp2_with (first | ((with_reducible refine gate_dst (N := 1) rfl ?_); refine box_event ?hg (N := 1) ?hd (cs := #[.int .i64 a0_0, .int .i64 a0_1, .int .i64 a0_2, .int .i64 a0_3, .int .i64 a0_4, .int .i64 a0_5, .int .i64 a0_6, .int .i64 a0_7, .int .i64 a0_8, .int .i64 a0_9, .int .i64 a0_10, .int .i64 a0_11, .int .i64 a0_12, .int .i64 a0_13, .int .i64 a0_14, .int .i64 a0_15, .int .i64 a0_16, .int .i64 a0_17, .int .i64 a0_18, .int .i64 a0_19]) (t := 58) ?hr ?_; (case hd => rfl); (case hg => rfl); (case hr => first | (go_simp; done) | (go_simp; rfl)); intro a8 hg w4 hbox hb; have n0_ := Aside0.mk (lP_ HB.out hb); have n1_ := Aside0.mk (hbox); have n3_ := Aside0.mk ((by rw [hg]; exact (below_size HB.out) : w.heap.size ≤ a8)); clear HB; have HB := n0_; have a0 := n1_; have a4 := n3_; clear n0_ n1_ n3_ hb hbox hg; obtain ⟨_, _, _, _, _, _, _, _, _, _, _, _, _, _, _, _, _, _, _, _, _, _, _, _, _, _, _, _, _, _, _, _, _, _, _, _, _, _, _, _⟩ := bc20 a0.out) | ((with_reducible refine gate_dst (N := 13) rfl ?_); refine Kd.R_lit (Kd.int .i64) _ 2 ?hg (N := 13) ?hd (xs := ([a0_5, a0_7, a0_9] : List Int)) (inner := [.int .i64 a0_5, .int .i64 a0_7, .int .i64 a0_9]) (ok := fun _ => True) (okp := fun _ => True) ?hr ?hp (fun _ hk => hk) trivial (Below.refl _ _) (Nat.le_refl _) (by simp) ?_; (case hd => rfl); (case hg => rfl); (case hr => first | (go_simp; done) | (go_simp; rfl)); (case hp => exact (Reps.one (show Kd.M (Kd.int .i64) _ _ _ a0_5 [.int .i64 a0_5] from rfl) (Reps.one (show Kd.M (Kd.int .i64) _ _ _ a0_7 [.int .i64 a0_7] from rfl) (Reps.one (show Kd.M (Kd.int .i64) _ _ _ a0_9 [.int .i64 a0_9] from rfl) (Reps.none _ _))))); intro v391 w6 ho7 hb hg_ hnew_; clear hg_ hnew_; (first | rw [← a5.out] at ho7 | (simp only [Int.reduceToNat] at ho7; rw [← a5.out] at ho7)); have n0_ := Aside0.mk (Kd.R_lower ho7 (below_size HB.out)); have n1_ := Aside0.mk (bB_ a0.out hb); have n2_ := Aside0.mk (lP_ HB.out hb); clear a0 HB; have a1 := n0_; have a0 := n1_; have HB := n2_; clear n0_ n1_ n2_ hb ho7; obtain ⟨_, _, _, _, _, _, _, _, _, _, _, _, _, _, _, _, _, _, _, _, _, _, _, _, _, _, _, _, _, _, _, _, _, _, _, _, _, _, _, _⟩ := bc20 a0.out) | ((with_reducible refine gate_dst (N := 32) rfl ?_); refine Kd.R_lit (Kd.int .i64) _ 2 ?hg (N := 32) ?hd (xs := ([a0_6, a0_8, a0_10, a0_11, a0_12, a0_13, a0_14] : List Int)) (inner := [.int .i64 a0_6, .int .i64 a0_8, .int .i64 a0_10, .int .i64 a0_11, .int .i64 a0_12, .int .i64 a0_13, .int .i64 a0_14]) (ok := fun _ => True) (okp := fun _ => True) ?hr ?hp (fun _ hk => hk) trivial (Below.refl _ _) (Nat.le_refl _) (by simp) ?_; (case hd => rfl); (case hg => rfl); (case hr => first | (go_simp; done) | (go_simp; rfl)); (case hp => exact (Reps.one (show Kd.M (Kd.int .i64) _ _ _ a0_6 [.int .i64 a0_6] from rfl) (Reps.one (show Kd.M (Kd.int .i64) _ _ _ a0_8 [.int .i64 a0_8] from rfl) (Reps.one (show Kd.M (Kd.int .i64) _ _ _ a0_10 [.int .i64 a0_10] from rfl) (Reps.one (show Kd.M (Kd.int .i64) _ _ _ a0_11 [.int .i64 a0_11] from rfl) (Reps.one (show Kd.M (Kd.int .i64) _ _ _ a0_12 [.int .i64 a0_12] from rfl) (Reps.one (show Kd.M (Kd.int .i64) _ _ _ a0_13 [.int .i64 a0_13] from rfl) (Reps.one (show Kd.M (Kd.int .i64) _ _ _ a0_14 [.int .i64 a0_14] from rfl) (Reps.none _ _))))))))); intro v394 w9 ho10 hb hg_ hnew_; clear hg_ hnew_; (first | rw [← a6.out] at ho10 | (simp only [Int.reduceToNat] at ho10; rw [← a6.out] at ho10)); have n0_ := Aside0.mk (Kd.R_elder' a1.out (Kd.R_base ho10) hb); have n1_ := Aside0.mk (Kd.R_lower (Kd.R_new' ho10 (Kd.R_lt a1.out)) (below_size HB.out)); have n2_ := Aside0.mk (bB_ a0.out hb); have n3_ := Aside0.mk (lP_ HB.out hb); clear a1 a0 HB; have a1 := n0_; have a2 := n1_; have a0 := n2_; have HB := n3_; clear n0_ n1_ n2_ n3_ hb ho10; obtain ⟨_, _, _, _, _, _, _, _, _, _, _, _, _, _, _, _, _, _, _, _, _, _, _, _, _, _, _, _, _, _, _, _, _, _, _, _, _, _, _, _⟩ := bc20 a0.out) | ((with_reducible refine gate_dst (N := 37) rfl ?_); refine Kd.R_lit (Kd.int .i64) _ 2 ?hg (N := 37) ?hd (xs := ([a0_15, a0_16] : List Int)) (inner := [.int .i64 a0_15, .int .i64 a0_16]) (ok := fun _ => True) (okp := fun _ => True) ?hr ?hp (fun _ hk => hk) trivial (Below.refl _ _) (Nat.le_refl _) (by simp) ?_; (case hd => rfl); (case hg => rfl); (case hr => first | (go_simp; done) | (go_simp; rfl)); (case hp => exact (Reps.one (show Kd.M (Kd.int .i64) _ _ _ a0_15 [.int .i64 a0_15] from rfl) (Reps.one (show Kd.M (Kd.int .i64) _ _ _ a0_16 [.int .i64 a0_16] from rfl) (Reps.none _ _)))); intro v397 w12 ho13 hb hg_ hnew_; clear hg_ hnew_; (first | rw [← a7.out] at ho13 | (simp only [Int.reduceToNat] at ho13; rw [← a7.out] at ho13)); have n0_ := Aside0.mk (Kd.R_elder' a1.out (Kd.R_base ho13) hb); have n1_ := Aside0.mk (Kd.R_elder' a2.out (Kd.R_base ho13) hb); have n2_ := Aside0.mk (Kd.R_lower (Kd.R_new' (Kd.R_new' ho13 (Kd.R_lt a1.out)) (Kd.R_lt a2.out)) (below_size HB.out)); have n3_ := Aside0.mk (bB_ a0.out hb); have n4_ := Aside0.mk (lP_ HB.out hb); clear a1 a2 a0 HB; have a1 := n0_; have a2 := n1_; have a3 := n2_; have a0 := n3_; have HB := n4_; clear n0_ n1_ n2_ n3_ n4_ hb ho13; obtain ⟨_, _, _, _, _, _, _, _, _, _, _, _, _, _, _, _, _, _, _, _, _, _, _, _, _, _, _, _, _, _, _, _, _, _, _, _, _, _, _, _⟩ := bc20 a0.out; obtain ⟨ac, ad, eo16⟩ := Kd.R_slice a3.out; subst eo16) | ((with_reducible refine gate_builtin (b := .append) (xs := #[.tmp 43, .tmp 44]) rfl ?_); at_builtin; refine Kd.R_append_rows (Kd.int .i64) (w0 := w) w.heap.size rfl (.tmp 43) (.tmp 44) 26 2 (.int .i64 0) 8 rfl Try.underlying26 info2 rfl (by decide) (by omega) v394 y393 y396 _ _ _ (fun k_ => some k_ ≠ (v391 : Value).ownBlock ∧ some k_ ≠ (.slice ac y396.length ad : Value).ownBlock) (fun _ => False) rfl rfl ?aO ?aR (fun _ _ h => h) (fun _ h => h.elim) ?aF ?aB ?aS ?aL ?_; (case aR => repeat (first | exact (Kd.R_reads' a3.out).2.2 | (with_reducible refine Kd.C_alloc ?_ _) | (with_reducible refine Kd.C_drewN ?_ _) | (with_reducible refine Kd.C_drew ?_))); (case aB => exact (by repeat (first | (with_reducible first | exact HB.out | refine lS1_ ?_ a4.out) | exact HB.out))); (case aF => exact (fun k_ hk => ⟨Kd.fresh' (Kd.R_lt a1.out) k_ hk, Kd.fresh' (Kd.R_lt a3.out) k_ hk⟩)); (case aO => exact (Kd.R_mono a2.out (fun _ hk => ⟨hk.1.2, hk.2⟩))); (case aS => exact (below_size (by repeat (first | (with_reducible first | exact HB.out | refine lS1_ ?_ a4.out) | exact HB.out)))); (case aL => have := aq.out; omega); intro v400 w15 ho hb hg hat; rw [← ag.out] at ho; have n1_ := Aside0.mk (Kd.R_after (ok := (fun k_ => some k_ ≠ (.slice ac y396.length ad : Value).ownBlock)) (Kd.R_mono a1.out (fun _ hk => ⟨hk.2, hk.1.2⟩)) hg hat); have n3_ := Aside0.mk (hb); have n4_ := Aside0.mk (ho); clear a1 HB a2; have a1 := n1_; have HB := n3_; have ah := n4_; clear n1_ n3_ n4_ ho hb hg hat))
   go_ret2
   exact ⟨_, _, by first | rfl | (simp [errW_none, errW_some] <;> rfl) | (simp [*, errW_none, errW_some] <;> rfl), by (with_reducible repeat first | apply rA_ | apply rN_ | apply rD_); exact Kd.R_mono a1.out (fun _ hk => hk.2), by (with_reducible repeat first | apply rA_ | apply rN_ | apply rD_); exact Kd.R_mono ah.out (fun _ hk => hk.1), by repeat (first | (with_reducible first | exact HB.out | apply lA1_ | apply lN_ | apply lD_ | refine lS1_ ?_ a4.out) | exact HB.out)⟩
  ·rw [if_neg c3] at H
   exact absurd H (by simp)
 ·rw [if_neg c2] at H
  have c2b0 : (a0_2 == 1) = false := beq_eq_false_iff_ne.mpr c2
  have c2b1 : (a0_2 != 1) = true := bne_iff_ne.mpr c2
  by_cases c17 : a0_2 = 2
  ·rw [if_pos c17] at H
   have c17b0 : (a0_2 == 2) = true := beq_iff_eq.mpr c17
   have c17b1 : (a0_2 != 2) = false := bne_eq_false_iff_eq.mpr c17
   clear c17
   by_cases c18 : y390.length + y393.length < 17592186044416
   ·rw [if_pos c18] at H
    have ai := Aside0.mk c18
    clear c18
    obtain ⟨y402, hy402⟩ : ∃ y_ : List Int, y_ = (y390 ++ y393) := ⟨_, rfl⟩
    replace H : (some (y402, y396)) = some (r1, r2) := by first | (rw [hy402]; with_reducible exact H) | (have H2_ := (Option.bind_some _ _).symm.trans H; rw [hy402]; with_reducible exact H2_) | (have H2_ := (Option.bind_some _ _).symm.trans H; with_reducible exact H2_) | with_reducible exact H | (rw [hy402]; exact H) | exact H
    have aj := Aside0.mk hy402
    clear hy402
    simp only [Option.some.injEq, Prod.mk.injEq] at H
    obtain ⟨rfl, rfl⟩ := H
    go_enter Try.func66, Try.ntmps66
    go_wp2_with (first | ((with_reducible refine gate_dst (N := 1) rfl ?_); refine box_event ?hg (N := 1) ?hd (cs := #[.int .i64 a0_0, .int .i64 a0_1, .int .i64 a0_2, .int .i64 a0_3, .int .i64 a0_4, .int .i64 a0_5, .int .i64 a0_6, .int .i64 a0_7, .int .i64 a0_8, .int .i64 a0_9, .int .i64 a0_10, .int .i64 a0_11, .int .i64 a0_12, .int .i64 a0_13, .int .i64 a0_14, .int .i64 a0_15, .int .i64 a0_16, .int .i64 a0_17, .int .i64 a0_18, .int .i64 a0_19]) (t := 58) ?hr ?_; (case hd => rfl); (case hg => rfl); (case hr => first | (go_simp; done) | (go_simp; rfl)); intro a8 hg w19 hbox hb; have n0_ := Aside0.mk (lP_ (by repeat (first | (with_reducible first | exact HB.out | apply lA1_ | apply lN_ | apply lD_) | exact HB.out)) hb); have n1_ := Aside0.mk (hbox); have n3_ := Aside0.mk ((by rw [hg]; exact (below_size (by repeat (first | (with_reducible first | exact HB.out | apply lA1_ | apply lN_ | apply lD_) | exact HB.out))) : w.heap.size ≤ a8)); clear HB; have HB := n0_; have a0 := n1_; have a4 := n3_; clear n0_ n1_ n3_ hb hbox hg; obtain ⟨_, _, _, _, _, _, _, _, _, _, _, _, _, _, _, _, _, _, _, _, _, _, _, _, _, _, _, _, _, _, _, _, _, _, _, _, _, _, _, _⟩ := bc20 a0.out) | ((with_reducible refine gate_dst (N := 13) rfl ?_); refine Kd.R_lit (Kd.int .i64) _ 2 ?hg (N := 13) ?hd (xs := ([a0_5, a0_7, a0_9] : List Int)) (inner := [.int .i64 a0_5, .int .i64 a0_7, .int .i64 a0_9]) (ok := fun _ => True) (okp := fun _ => True) ?hr ?hp (fun _ hk => hk) trivial (Below.refl _ _) (Nat.le_refl _) (by simp) ?_; (case hd => rfl); (case hg => rfl); (case hr => first | (go_simp; done) | (go_simp; rfl)); (case hp => exact (Reps.one (show Kd.M (Kd.int .i64) _ _ _ a0_5 [.int .i64 a0_5] from rfl) (Reps.one (show Kd.M (Kd.int .i64) _ _ _ a0_7 [.int .i64 a0_7] from rfl) (Reps.one (show Kd.M (Kd.int .i64) _ _ _ a0_9 [.int .i64 a0_9] from rfl) (Reps.none _ _))))); intro v391 w21 ho22 hb hg_ hnew_; clear hg_ hnew_; (first | rw [← a5.out] at ho22 | (simp only [Int.reduceToNat] at ho22; rw [← a5.out] at ho22)); have n0_ := Aside0.mk (Kd.R_lower ho22 (below_size HB.out)); have n1_ := Aside0.mk (bB_ a0.out hb); have n2_ := Aside0.mk (lP_ HB.out hb); clear a0 HB; have a1 := n0_; have a0 := n1_; have HB := n2_; clear n0_ n1_ n2_ hb ho22; obtain ⟨_, _, _, _, _, _, _, _, _, _, _, _, _, _, _, _, _, _, _, _, _, _, _, _, _, _, _, _, _, _, _, _, _, _, _, _, _, _, _, _⟩ := bc20 a0.out) | ((with_reducible refine gate_dst (N := 32) rfl ?_); refine Kd.R_lit (Kd.int .i64) _ 2 ?hg (N := 32) ?hd (xs := ([a0_6, a0_8, a0_10, a0_11, a0_12, a0_13, a0_14] : List Int)) (inner := [.int .i64 a0_6, .int .i64 a0_8, .int .i64 a0_10, .int .i64 a0_11, .int .i64 a0_12, .int .i64 a0_13, .int .i64 a0_14]) (ok := fun _ => True) (okp := fun _ => True) ?hr ?hp (fun _ hk => hk) trivial (Below.refl _ _) (Nat.le_refl _) (by simp) ?_; (case hd => rfl); (case hg => rfl); (case hr => first | (go_simp; done) | (go_simp; rfl)); (case hp => exact (Reps.one (show Kd.M (Kd.int .i64) _ _ _ a0_6 [.int .i64 a0_6] from rfl) (Reps.one (show Kd.M (Kd.int .i64) _ _ _ a0_8 [.int .i64 a0_8] from rfl) (Reps.one (show Kd.M (Kd.int .i64) _ _ _ a0_10 [.int .i64 a0_10] from rfl) (Reps.one (show Kd.M (Kd.int .i64) _ _ _ a0_11 [.int .i64 a0_11] from rfl) (Reps.one (show Kd.M (Kd.int .i64) _ _ _ a0_12 [.int .i64 a0_12] from rfl) (Reps.one (show Kd.M (Kd.int .i64) _ _ _ a0_13 [.int .i64 a0_13] from rfl) (Reps.one (show Kd.M (Kd.int .i64) _ _ _ a0_14 [.int .i64 a0_14] from rfl) (Reps.none _ _))))))))); intro v394 w24 ho25 hb hg_ hnew_; clear hg_ hnew_; (first | rw [← a6.out] at ho25 | (simp only [Int.reduceToNat] at ho25; rw [← a6.out] at ho25)); have n0_ := Aside0.mk (Kd.R_elder' a1.out (Kd.R_base ho25) hb); have n1_ := Aside0.mk (Kd.R_lower (Kd.R_new' ho25 (Kd.R_lt a1.out)) (below_size HB.out)); have n2_ := Aside0.mk (bB_ a0.out hb); have n3_ := Aside0.mk (lP_ HB.out hb); clear a1 a0 HB; have a1 := n0_; have a2 := n1_; have a0 := n2_; have HB := n3_; clear n0_ n1_ n2_ n3_ hb ho25; obtain ⟨_, _, _, _, _, _, _, _, _, _, _, _, _, _, _, _, _, _, _, _, _, _, _, _, _, _, _, _, _, _, _, _, _, _, _, _, _, _, _, _⟩ := bc20 a0.out) | ((with_reducible refine gate_dst (N := 37) rfl ?_); refine Kd.R_lit (Kd.int .i64) _ 2 ?hg (N := 37) ?hd (xs := ([a0_15, a0_16] : List Int)) (inner := [.int .i64 a0_15, .int .i64 a0_16]) (ok := fun _ => True) (okp := fun _ => True) ?hr ?hp (fun _ hk => hk) trivial (Below.refl _ _) (Nat.le_refl _) (by simp) ?_; (case hd => rfl); (case hg => rfl); (case hr => first | (go_simp; done) | (go_simp; rfl)); (case hp => exact (Reps.one (show Kd.M (Kd.int .i64) _ _ _ a0_15 [.int .i64 a0_15] from rfl) (Reps.one (show Kd.M (Kd.int .i64) _ _ _ a0_16 [.int .i64 a0_16] from rfl) (Reps.none _ _)))); intro v397 w27 ho28 hb hg_ hnew_; clear hg_ hnew_; (first | rw [← a7.out] at ho28 | (simp only [Int.reduceToNat] at ho28; rw [← a7.out] at ho28)); have n0_ := Aside0.mk (Kd.R_elder' a1.out (Kd.R_base ho28) hb); have n1_ := Aside0.mk (Kd.R_elder' a2.out (Kd.R_base ho28) hb); have n2_ := Aside0.mk (Kd.R_lower (Kd.R_new' (Kd.R_new' ho28 (Kd.R_lt a1.out)) (Kd.R_lt a2.out)) (below_size HB.out)); have n3_ := Aside0.mk (bB_ a0.out hb); have n4_ := Aside0.mk (lP_ HB.out hb); clear a1 a2 a0 HB; have a1 := n0_; have a2 := n1_; have a3 := n2_; have a0 := n3_; have HB := n4_; clear n0_ n1_ n2_ n3_ n4_ hb ho28; obtain ⟨_, _, _, _, _, _, _, _, _, _, _, _, _, _, _, _, _, _, _, _, _, _, _, _, _, _, _, _, _, _, _, _, _, _, _, _, _, _, _, _⟩ := bc20 a0.out; obtain ⟨ae, af, eo31⟩ := Kd.R_slice a2.out; subst eo31) | ((with_reducible refine gate_builtin (b := .append) (xs := #[.tmp 48, .tmp 49]) rfl ?_); at_builtin; refine Kd.R_append_rows (Kd.int .i64) (w0 := w) w.heap.size rfl (.tmp 48) (.tmp 49) 26 2 (.int .i64 0) 8 rfl Try.underlying26 info2 rfl (by decide) (by omega) v391 y390 y393 _ _ _ (fun k_ => some k_ ≠ (.slice ae y393.length af : Value).ownBlock ∧ some k_ ≠ (v397 : Value).ownBlock) (fun _ => False) rfl rfl ?aO ?aR (fun _ _ h => h) (fun _ h => h.elim) ?aF ?aB ?aS ?aL ?_; (case aR => repeat (first | exact (Kd.R_reads' a2.out).2.2 | (with_reducible refine Kd.C_alloc ?_ _) | (with_reducible refine Kd.C_drewN ?_ _) | (with_reducible refine Kd.C_drew ?_))); (case aB => exact (by repeat (first | (with_reducible first | exact HB.out | refine lS1_ ?_ a4.out) | exact HB.out))); (case aF => exact (fun k_ hk => ⟨Kd.fresh' (Kd.R_lt a2.out) k_ hk, Kd.fresh' (Kd.R_lt a3.out) k_ hk⟩)); (case aO => exact (Kd.R_mono a1.out (fun _ hk => ⟨hk.1.2, hk.2⟩))); (case aS => exact (below_size (by repeat (first | (with_reducible first | exact HB.out | refine lS1_ ?_ a4.out) | exact HB.out)))); (case aL => have := ai.out; omega); intro v403 w30 ho hb hg hat; rw [← aj.out] at ho; have n2_ := Aside0.mk (Kd.R_after (ok := (fun k_ => some k_ ≠ (.slice ae y393.length af : Value).ownBlock)) (Kd.R_mono a3.out (fun _ hk => ⟨hk.2, hk.1.2⟩)) hg hat); have n3_ := Aside0.mk (hb); have n4_ := Aside0.mk (ho); clear a3 HB a1; have a3 := n2_; have HB := n3_; have ak := n4_; clear n2_ n3_ n4_ ho hb hg hat))
    go_ret2
    exact ⟨_, _, by first | rfl | (simp [errW_none, errW_some] <;> rfl) | (simp [*, errW_none, errW_some] <;> rfl), by (with_reducible repeat first | apply rA_ | apply rN_ | apply rD_); exact Kd.R_mono ak.out (fun _ hk => hk.2), by (with_reducible repeat first | apply rA_ | apply rN_ | apply rD_); exact Kd.R_mono a3.out (fun _ hk => hk.2), by repeat (first | (with_reducible first | exact HB.out | apply lA1_ | apply lN_ | apply lD_ | refine lS1_ ?_ a4.out) | exact HB.out)⟩
   ·rw [if_neg c18] at H
    exact absurd H (by simp)
  ·rw [if_neg c17] at H
   have c17b0 : (a0_2 == 2) = false := beq_eq_false_iff_ne.mpr c17
   have c17b1 : (a0_2 != 2) = true := bne_iff_ne.mpr c17
   by_cases c32 : y390.length + y393.length < 17592186044416
   ·rw [if_pos c32] at H
    have al := Aside0.mk c32
    clear c32
    obtain ⟨y405, hy405⟩ : ∃ y_ : List Int, y_ = (y390 ++ y393) := ⟨_, rfl⟩
    replace H : (if y405.length + y396.length < 17592186044416 then (some ((y405 ++ y396), ([] : List Int))) else (none)) = some (r1, r2) := by first | (rw [hy405]; with_reducible exact H) | (have H2_ := (Option.bind_some _ _).symm.trans H; rw [hy405]; with_reducible exact H2_) | (have H2_ := (Option.bind_some _ _).symm.trans H; with_reducible exact H2_) | with_reducible exact H | (rw [hy405]; exact H) | exact H
    have am := Aside0.mk hy405
    clear hy405
    by_cases c33 : y405.length + y396.length < 17592186044416
    ·rw [if_pos c33] at H
     have an := Aside0.mk c33
     clear c33
     obtain ⟨y408, hy408⟩ : ∃ y_ : List Int, y_ = (y405 ++ y396) := ⟨_, rfl⟩
     replace H : (some (y408, ([] : List Int))) = some (r1, r2) := by first | (rw [hy408]; with_reducible exact H) | (have H2_ := (Option.bind_some _ _).symm.trans H; rw [hy408]; with_reducible exact H2_) | (have H2_ := (Option.bind_some _ _).symm.trans H; with_reducible exact H2_) | with_reducible exact H | (rw [hy408]; exact H) | exact H
     have ao := Aside0.mk hy408
     clear hy408
     simp only [Option.some.injEq, Prod.mk.injEq] at H
     obtain ⟨rfl, rfl⟩ := H
     go_enter Try.func66, Try.ntmps66
     go_wp2_with (first | ((with_reducible refine gate_dst (N := 1) rfl ?_); refine box_event ?hg (N := 1) ?hd (cs := #[.int .i64 a0_0, .int .i64 a0_1, .int .i64 a0_2, .int .i64 a0_3, .int .i64 a0_4, .int .i64 a0_5, .int .i64 a0_6, .int .i64 a0_7, .int .i64 a0_8, .int .i64 a0_9, .int .i64 a0_10, .int .i64 a0_11, .int .i64 a0_12, .int .i64 a0_13, .int .i64 a0_14, .int .i64 a0_15, .int .i64 a0_16, .int .i64 a0_17, .int .i64 a0_18, .int .i64 a0_19]) (t := 58) ?hr ?_; (case hd => rfl); (case hg => rfl); (case hr => first | (go_simp; done) | (go_simp; rfl)); intro a8 hg w34 hbox hb; have n0_ := Aside0.mk (lP_ (by repeat (first | (with_reducible first | exact HB.out | apply lA1_ | apply lN_ | apply lD_) | exact HB.out)) hb); have n1_ := Aside0.mk (hbox); have n3_ := Aside0.mk ((by rw [hg]; exact (below_size (by repeat (first | (with_reducible first | exact HB.out | apply lA1_ | apply lN_ | apply lD_) | exact HB.out))) : w.heap.size ≤ a8)); clear HB; have HB := n0_; have a0 := n1_; have a4 := n3_; clear n0_ n1_ n3_ hb hbox hg; obtain ⟨_, _, _, _, _, _, _, _, _, _, _, _, _, _, _, _, _, _, _, _, _, _, _, _, _, _, _, _, _, _, _, _, _, _, _, _, _, _, _, _⟩ := bc20 a0.out) | ((with_reducible refine gate_dst (N := 13) rfl ?_); refine Kd.R_lit (Kd.int .i64) _ 2 ?hg (N := 13) ?hd (xs := ([a0_5, a0_7, a0_9] : List Int)) (inner := [.int .i64 a0_5, .int .i64 a0_7, .int .i64 a0_9]) (ok := fun _ => True) (okp := fun _ => True) ?hr ?hp (fun _ hk => hk) trivial (Below.refl _ _) (Nat.le_refl _) (by simp) ?_; (case hd => rfl); (case hg => rfl); (case hr => first | (go_simp; done) | (go_simp; rfl)); (case hp => exact (Reps.one (show Kd.M (Kd.int .i64) _ _ _ a0_5 [.int .i64 a0_5] from rfl) (Reps.one (show Kd.M (Kd.int .i64) _ _ _ a0_7 [.int .i64 a0_7] from rfl) (Reps.one (show Kd.M (Kd.int .i64) _ _ _ a0_9 [.int .i64 a0_9] from rfl) (Reps.none _ _))))); intro v391 w36 ho37 hb hg_ hnew_; clear hg_ hnew_; (first | rw [← a5.out] at ho37 | (simp only [Int.reduceToNat] at ho37; rw [← a5.out] at ho37)); have n0_ := Aside0.mk (Kd.R_lower ho37 (below_size HB.out)); have n1_ := Aside0.mk (bB_ a0.out hb); have n2_ := Aside0.mk (lP_ HB.out hb); clear a0 HB; have a1 := n0_; have a0 := n1_; have HB := n2_; clear n0_ n1_ n2_ hb ho37; obtain ⟨_, _, _, _, _, _, _, _, _, _, _, _, _, _, _, _, _, _, _, _, _, _, _, _, _, _, _, _, _, _, _, _, _, _, _, _, _, _, _, _⟩ := bc20 a0.out) | ((with_reducible refine gate_dst (N := 32) rfl ?_); refine Kd.R_lit (Kd.int .i64) _ 2 ?hg (N := 32) ?hd (xs := ([a0_6, a0_8, a0_10, a0_11, a0_12, a0_13, a0_14] : List Int)) (inner := [.int .i64 a0_6, .int .i64 a0_8, .int .i64 a0_10, .int .i64 a0_11, .int .i64 a0_12, .int .i64 a0_13, .int .i64 a0_14]) (ok := fun _ => True) (okp := fun _ => True) ?hr ?hp (fun _ hk => hk) trivial (Below.refl _ _) (Nat.le_refl _) (by simp) ?_; (case hd => rfl); (case hg => rfl); (case hr => first | (go_simp; done) | (go_simp; rfl)); (case hp => exact (Reps.one (show Kd.M (Kd.int .i64) _ _ _ a0_6 [.int .i64 a0_6] from rfl) (Reps.one (show Kd.M (Kd.int .i64) _ _ _ a0_8 [.int .i64 a0_8] from rfl) (Reps.one (show Kd.M (Kd.int .i64) _ _ _ a0_10 [.int .i64 a0_10] from rfl) (Reps.one (show Kd.M (Kd.int .i64) _ _ _ a0_11 [.int .i64 a0_11] from rfl) (Reps.one (show Kd.M (Kd.int .i64) _ _ _ a0_12 [.int .i64 a0_12] from rfl) (Reps.one (show Kd.M (Kd.int .i64) _ _ _ a0_13 [.int .i64 a0_13] from rfl) (Reps.one (show Kd.M (Kd.int .i64) _ _ _ a0_14 [.int .i64 a0_14] from rfl) (Reps.none _ _))))))))); intro v394 w39 ho40 hb hg_ hnew_; clear hg_ hnew_; (first | rw [← a6.out] at ho40 | (simp only [Int.reduceToNat] at ho40; rw [← a6.out] at ho40)); have n0_ := Aside0.mk (Kd.R_elder' a1.out (Kd.R_base ho40) hb); have n1_ := Aside0.mk (Kd.R_lower (Kd.R_new' ho40 (Kd.R_lt a1.out)) (below_size HB.out)); have n2_ := Aside0.mk (bB_ a0.out hb); have n3_ := Aside0.mk (lP_ HB.out hb); clear a1 a0 HB; have a1 := n0_; have a2 := n1_; have a0 := n2_; have HB := n3_; clear n0_ n1_ n2_ n3_ hb ho40; obtain ⟨_, _, _, _, _, _, _, _, _, _, _, _, _, _, _, _, _, _, _, _, _, _, _, _, _, _, _, _, _, _, _, _, _, _, _, _, _, _, _, _⟩ := bc20 a0.out) | ((with_reducible refine gate_dst (N := 37) rfl ?_); refine Kd.R_lit (Kd.int .i64) _ 2 ?hg (N := 37) ?hd (xs := ([a0_15, a0_16] : List Int)) (inner := [.int .i64 a0_15, .int .i64 a0_16]) (ok := fun _ => True) (okp := fun _ => True) ?hr ?hp (fun _ hk => hk) trivial (Below.refl _ _) (Nat.le_refl _) (by simp) ?_; (case hd => rfl); (case hg => rfl); (case hr => first | (go_simp; done) | (go_simp; rfl)); (case hp => exact (Reps.one (show Kd.M (Kd.int .i64) _ _ _ a0_15 [.int .i64 a0_15] from rfl) (Reps.one (show Kd.M (Kd.int .i64) _ _ _ a0_16 [.int .i64 a0_16] from rfl) (Reps.none _ _)))); intro v397 w42 ho43 hb hg_ hnew_; clear hg_ hnew_; (first | rw [← a7.out] at ho43 | (simp only [Int.reduceToNat] at ho43; rw [← a7.out] at ho43)); have n0_ := Aside0.mk (Kd.R_elder' a1.out (Kd.R_base ho43) hb); have n1_ := Aside0.mk (Kd.R_elder' a2.out (Kd.R_base ho43) hb); have n2_ := Aside0.mk (Kd.R_lower (Kd.R_new' (Kd.R_new' ho43 (Kd.R_lt a1.out)) (Kd.R_lt a2.out)) (below_size HB.out)); have n3_ := Aside0.mk (bB_ a0.out hb); have n4_ := Aside0.mk (lP_ HB.out hb); clear a1 a2 a0 HB; have a1 := n0_; have a2 := n1_; have a3 := n2_; have a0 := n3_; have HB := n4_; clear n0_ n1_ n2_ n3_ n4_ hb ho43; obtain ⟨_, _, _, _, _, _, _, _, _, _, _, _, _, _, _, _, _, _, _, _, _, _, _, _, _, _, _, _, _, _, _, _, _, _, _, _, _, _, _, _⟩ := bc20 a0.out; obtain ⟨a9, aa, eo46⟩ := Kd.R_slice a2.out; subst eo46) | ((with_reducible refine gate_builtin (b := .append) (xs := #[.tmp 52, .tmp 53]) rfl ?_); at_builtin; refine Kd.R_append_rows (Kd.int .i64) (w0 := w) w.heap.size rfl (.tmp 52) (.tmp 53) 26 2 (.int .i64 0) 8 rfl Try.underlying26 info2 rfl (by decide) (by omega) v391 y390 y393 _ _ _ (fun k_ => some k_ ≠ (.slice a9 y393.length aa : Value).ownBlock ∧ some k_ ≠ (v397 : Value).ownBlock) (fun _ => False) rfl rfl ?aO ?aR (fun _ _ h => h) (fun _ h => h.elim) ?aF ?aB ?aS ?aL ?_; (case aR => repeat (first | exact (Kd.R_reads' a2.out).2.2 | (with_reducible refine Kd.C_alloc ?_ _) | (with_reducible refine Kd.C_drewN ?_ _) | (with_reducible refine Kd.C_drew ?_))); (case aB => exact (by repeat (first | (with_reducible first | exact HB.out | refine lS1_ ?_ a4.out) | exact HB.out))); (case aF => exact (fun k_ hk => ⟨Kd.fresh' (Kd.R_lt a2.out) k_ hk, Kd.fresh' (Kd.R_lt a3.out) k_ hk⟩)); (case aO => exact (Kd.R_mono a1.out (fun _ hk => ⟨hk.1.2, hk.2⟩))); (case aS => exact (below_size (by repeat (first | (with_reducible first | exact HB.out | refine lS1_ ?_ a4.out) | exact HB.out)))); (case aL => have := al.out; omega); intro v406 w45 ho hb hg hat; rw [← am.out] at ho; have n1_ := Aside0.mk (Kd.R_after (ok := (fun k_ => some k_ ≠ (v397 : Value).ownBlock)) (Kd.R_mono a2.out (fun _ hk => ⟨hk.2, hk.1.2⟩)) hg hat); have n2_ := Aside0.mk (Kd.R_after (ok := (fun k_ => some k_ ≠ (.slice a9 y393.length aa : Value).ownBlock)) (Kd.R_mono a3.out (fun _ hk => ⟨hk.2, hk.1.2⟩)) hg hat); have n3_ := Aside0.mk (hb); have n4_ := Aside0.mk (ho); clear a2 a3 HB a1; have a2 := n1_; have a3 := n2_; have HB := n3_; have ab := n4_; clear n1_ n2_ n3_ n4_ ho hb hg hat; obtain ⟨ar, au, eo48⟩ := Kd.R_slice a3.out; subst eo48) | ((with_reducible refine gate_builtin (b := .append) (xs := #[.tmp 54, .tmp 55]) rfl ?_); at_builtin; refine Kd.R_append_rows (Kd.int .i64) (w0 := w) w.heap.size rfl (.tmp 54) (.tmp 55) 26 2 (.int .i64 0) 8 rfl Try.underlying26 info2 rfl (by decide) (by omega) v406 y405 y396 _ _ _ (fun k_ => some k_ ≠ (.slice a9 y393.length aa : Value).ownBlock ∧ some k_ ≠ (.slice ar y396.length au : Value).ownBlock) (fun _ => False) rfl rfl ?aO ?aR (fun _ _ h => h) (fun _ h => h.elim) ?aF ?aB ?aS ?aL ?_; (case aR => repeat (first | exact (Kd.R_reads' a3.out).2.2 | (with_reducible refine Kd.C_alloc ?_ _) | (with_reducible refine Kd.C_drewN ?_ _) | (with_reducible refine Kd.C_drew ?_))); (case aB => exact (by repeat (first | (with_reducible first | exact HB.out | refine lS1_ ?_ a4.out) | exact HB.out))); (case aF => exact (fun k_ hk => ⟨Kd.fresh' (Kd.R_lt a2.out) k_ hk, Kd.fresh' (Kd.R_lt a3.out) k_ hk⟩)); (case aO => exact ab.out); (case aS => exact (below_size (by repeat (first | (with_reducible first | exact HB.out | refine lS1_ ?_ a4.out) | exact HB.out)))); (case aL => have := an.out; omega); intro v409 w47 ho hb hg hat; rw [← ao.out] at ho; have n3_ := Aside0.mk (hb); have n4_ := Aside0.mk (ho); clear HB ab; have HB := n3_; have ap := n4_; clear n3_ n4_ ho hb hg hat))
     go_ret2
     exact ⟨_, _, by first | rfl | (simp [errW_none, errW_some] <;> rfl) | (simp [*, errW_none, errW_some] <;> rfl), by (with_reducible repeat first | apply rA_ | apply rN_ | apply rD_); exact Kd.R_mono ap.out (fun _ hk => (by simp [Value.ownBlock])), by first | exact Kd.R_nil _ _ _ _ _ | exact Kd.N_nil _ _ _ _ _ | exact Kd.V_nil _ _ _ _ _ | exact Kd.Q_nil _ _ _ _ _ | exact Kd.S_nil _ _ _ _ _, by repeat (first | (with_reducible first | exact HB.out | apply lA1_ | apply lN_ | apply lD_ | refine lS1_ ?_ a4.out) | exact HB.out)⟩
    ·rw [if_neg c33] at H
     exact absurd H (by simp)
   ·rw [if_neg c32] at H
    exact absurd H (by simp)
def spec_l5At.f (l0 : List (S68)) (a1 : Int) : Option (Bool) := (spec_l1In.f a1 0 (wrap64 ((l0.length : Int) - 1))).bind fun t411 => (some t411)
set_option maxHeartbeats 8000000 in
set_option maxRecDepth 100000 in
theorem spec_l5At.calls (A0 : Option Addr) (c0 : Nat) (l0 : List (S68)) (a1 : Int) (r : Bool) (w : World) (hr0 : Kd.C k68 w A0 l0.length l0) (hc0 : l0.length ≤ c0) (h : spec_l5At.f l0 a1 = some r) :
  Calls Try.prog 67 #[.slice A0 l0.length c0, .int .i64 a1] w fun e w' => e = .returned (.bool r) ∧ Drawn0 w w' := by
 have HR0 := Aside0.mk hr0
 have HC0 := Aside0.mk hc0
 clear hr0 hc0
 have H : ((spec_l1In.f a1 0 (wrap64 ((l0.length : Int) - 1))).bind fun t411 => (some t411)) = some r := h
 clear h
 replace H := Option.bind_eq_some_iff.mp H
 obtain ⟨t411, A30, H⟩ := H
 try dsimp only at H
 have A3 := Aside0.mk A30
 clear A30
 obtain rfl := Option.some.inj H
 go_enter Try.func67, Try.ntmps67
 go_wp2_with (first | ((with_reducible refine gate_callee (f := 32) rfl ?_); refine goesA_ (some 9) rfl rfl Try.func32 (by kernel_rfl) rfl #[.int .i64 a1, .int .i64 0, .int .i64 (wrap64 ((l0.length : Int) - 1))] rfl ?_; (with_reducible refine (spec_l1In.calls a1 0 (wrap64 ((l0.length : Int) - 1)) t411 _ A3.out).mono ?_); rintro e w' ⟨rfl, ⟨nd, rfl⟩⟩; refine ⟨_, rfl, ?_⟩))
 go_ret
 exact ⟨by first | rfl | (simp; done) | (simp [*]; done), by repeat (first | exact Drawn0.refl _ | apply Drawn0.step)⟩
mutual
def spec_l11Talk.j0 : Nat → List (S68) → Bool → Int → Int → Int → Int → Int → Int → Int → Int → Int → Int → Int → Int → Int → Int → Int → Int → Int → Int → Int → Int → Option (Int)
 | 0, _, _, _, _, _, _, _, _, _, _, _, _, _, _, _, _, _, _, _, _, _, _ => none
 | k + 1, x0, x43, x413000, x413001, x413002, x413003, x413004, x413005, x413006, x413007, x413008, x413009, x413010, x413011, x413012, x413013, x413014, x413015, x413016, x413017, x413018, x413019 => if x43 = true then (some 3) else ((spec_WindowFault.f k x413018 x413019).bind fun t419 => (if t419 = 0 then ((spec_l11Shape.f k x413000 x413001 x413002 x413003 x413004 x413005 x413006 x413007 x413008 x413009 x413010 x413011 x413012 x413013 x413014 x413015 x413016 x413017 x413018 x413019).bind fun t420 => (if t420 = true then ((spec_l11Must.f x413000 x413001 x413002 x413003 x413004 x413005 x413006 x413007 x413008 x413009 x413010 x413011 x413012 x413013 x413014 x413015 x413016 x413017 x413018 x413019).bind fun bt421 => (spec_l11Talk.l0 k x0 bt421.1 bt421.2 0 x413000 x413001 x413002 x413003 x413004 x413005 x413006 x413007 x413008 x413009 x413010 x413011 x413012 x413013 x413014 x413015 x413016 x413017 x413018 x413019)) else (some 1))) else (some t419)))
def spec_l11Talk.l0 : Nat → List (S68) → List Int → List Int → Int → Int → Int → Int → Int → Int → Int → Int → Int → Int → Int → Int → Int → Int → Int → Int → Int → Int → Int → Int → Int → Option (Int)
 | 0, _, _, _, _, _, _, _, _, _, _, _, _, _, _, _, _, _, _, _, _, _, _, _, _ => none
 | k + 1, x0, x6, x7, x8, x413000, x413001, x413002, x413003, x413004, x413005, x413006, x413007, x413008, x413009, x413010, x413011, x413012, x413013, x413014, x413015, x413016, x413017, x413018, x413019 => if x8 < (x6.length : Int) then (if 0 ≤ x8 then ((spec_l5At.f x0 (rd x6 x8)).bind fun t428 => (if t428 = true then (spec_l11Talk.l0 k x0 x6 x7 (wrap64 (x8 + 1)) x413000 x413001 x413002 x413003 x413004 x413005 x413006 x413007 x413008 x413009 x413010 x413011 x413012 x413013 x413014 x413015 x413016 x413017 x413018 x413019) else (some 3))) else (none)) else (spec_l11Talk.l1 k x0 x7 0 x413000 x413001 x413002 x413003 x413004 x413005 x413006 x413007 x413008 x413009 x413010 x413011 x413012 x413013 x413014 x413015 x413016 x413017 x413018 x413019)
def spec_l11Talk.l1 : Nat → List (S68) → List Int → Int → Int → Int → Int → Int → Int → Int → Int → Int → Int → Int → Int → Int → Int → Int → Int → Int → Int → Int → Int → Int → Option (Int)
 | 0, _, _, _, _, _, _, _, _, _, _, _, _, _, _, _, _, _, _, _, _, _, _, _ => none
 | k + 1, x0, x7, x9, x413000, x413001, x413002, x413003, x413004, x413005, x413006, x413007, x413008, x413009, x413010, x413011, x413012, x413013, x413014, x413015, x413016, x413017, x413018, x413019 => if x9 < (x7.length : Int) then (if 0 ≤ x9 then (if (rd x7 x9) = (-1) then (spec_l11Talk.l1 k x0 x7 (wrap64 (x9 + 1)) x413000 x413001 x413002 x413003 x413004 x413005 x413006 x413007 x413008 x413009 x413010 x413011 x413012 x413013 x413014 x413015 x413016 x413017 x413018 x413019) else (some 3)) else (none)) else (if 0 ≤ x413007 then (if x413007 < (x0.length : Int) then (if ((rd_T68 x0 x413007).f0) = 2 then (if x413002 > 1 then (if 0 ≤ x413008 then (if x413008 < (x0.length : Int) then (if ((rd_T68 x0 x413008).f0) = 6 then (some 0) else (some 1)) else (none)) else (none)) else (some 0)) else (some 1)) else (none)) else (none))
end
def spec_l11Talk.f (k : Nat) (l0 : List (S68)) (a1_0 : Int) (a1_1 : Int) (a1_2 : Int) (a1_3 : Int) (a1_4 : Int) (a1_5 : Int) (a1_6 : Int) (a1_7 : Int) (a1_8 : Int) (a1_9 : Int) (a1_10 : Int) (a1_11 : Int) (a1_12 : Int) (a1_13 : Int) (a1_14 : Int) (a1_15 : Int) (a1_16 : Int) (a1_17 : Int) (a1_18 : Int) (a1_19 : Int) : Option (Int) := (spec_l1In.f a1_0 0 9).bind fun t413 => (if t413 = true then ((spec_l1In.f a1_1 1 2).bind fun t414 => (if t414 = true then ((spec_l1In.f a1_2 1 3).bind fun t415 => (if t415 = true then ((spec_l9Word.f a1_3).bind fun t416 => (if t416 = true then ((spec_l9Word.f a1_4).bind fun t417 => (if t417 = true then ((spec_l9Word.f a1_17).bind fun t418 => (spec_l11Talk.j0 k l0 (!t418) a1_0 a1_1 a1_2 a1_3 a1_4 a1_5 a1_6 a1_7 a1_8 a1_9 a1_10 a1_11 a1_12 a1_13 a1_14 a1_15 a1_16 a1_17 a1_18 a1_19)) else (spec_l11Talk.j0 k l0 true a1_0 a1_1 a1_2 a1_3 a1_4 a1_5 a1_6 a1_7 a1_8 a1_9 a1_10 a1_11 a1_12 a1_13 a1_14 a1_15 a1_16 a1_17 a1_18 a1_19))) else (spec_l11Talk.j0 k l0 true a1_0 a1_1 a1_2 a1_3 a1_4 a1_5 a1_6 a1_7 a1_8 a1_9 a1_10 a1_11 a1_12 a1_13 a1_14 a1_15 a1_16 a1_17 a1_18 a1_19))) else (spec_l11Talk.j0 k l0 true a1_0 a1_1 a1_2 a1_3 a1_4 a1_5 a1_6 a1_7 a1_8 a1_9 a1_10 a1_11 a1_12 a1_13 a1_14 a1_15 a1_16 a1_17 a1_18 a1_19))) else (spec_l11Talk.j0 k l0 true a1_0 a1_1 a1_2 a1_3 a1_4 a1_5 a1_6 a1_7 a1_8 a1_9 a1_10 a1_11 a1_12 a1_13 a1_14 a1_15 a1_16 a1_17 a1_18 a1_19))) else (spec_l11Talk.j0 k l0 true a1_0 a1_1 a1_2 a1_3 a1_4 a1_5 a1_6 a1_7 a1_8 a1_9 a1_10 a1_11 a1_12 a1_13 a1_14 a1_15 a1_16 a1_17 a1_18 a1_19))
set_option maxHeartbeats 8000000 in
set_option maxRecDepth 100000 in
theorem spec_l11Talk.calls (k : Nat) (A0 : Option Addr) (c0 : Nat) (l0 : List (S68)) (a1_0 : Int) (a1_1 : Int) (a1_2 : Int) (a1_3 : Int) (a1_4 : Int) (a1_5 : Int) (a1_6 : Int) (a1_7 : Int) (a1_8 : Int) (a1_9 : Int) (a1_10 : Int) (a1_11 : Int) (a1_12 : Int) (a1_13 : Int) (a1_14 : Int) (a1_15 : Int) (a1_16 : Int) (a1_17 : Int) (a1_18 : Int) (a1_19 : Int) (r : Int) (w : World) (hr0 : Kd.C k68 w A0 l0.length l0) (hc0 : l0.length ≤ c0) (h : spec_l11Talk.f k l0 a1_0 a1_1 a1_2 a1_3 a1_4 a1_5 a1_6 a1_7 a1_8 a1_9 a1_10 a1_11 a1_12 a1_13 a1_14 a1_15 a1_16 a1_17 a1_18 a1_19 = some r) :
  Calls Try.prog 49 #[.slice A0 l0.length c0, .agg #[.int .i64 a1_0, .int .i64 a1_1, .int .i64 a1_2, .int .i64 a1_3, .int .i64 a1_4, .int .i64 a1_5, .int .i64 a1_6, .int .i64 a1_7, .int .i64 a1_8, .int .i64 a1_9, .int .i64 a1_10, .int .i64 a1_11, .int .i64 a1_12, .int .i64 a1_13, .int .i64 a1_14, .int .i64 a1_15, .int .i64 a1_16, .int .i64 a1_17, .int .i64 a1_18, .int .i64 a1_19]] w fun e w' => e = .returned (.int .i64 r) ∧ Below w.heap.size w w' := by
 have hu58 := Try.underlying58
 have hu56 := Try.underlying56
 have a5 := Aside0.mk hr0
 have ai := Aside0.mk hc0
 clear hr0 hc0
 have HB := Aside0.mk (Below.refl w.heap.size w)
 have H : ((spec_l1In.f a1_0 0 9).bind fun t413 => (if t413 = true then ((spec_l1In.f a1_1 1 2).bind fun t414 => (if t414 = true then ((spec_l1In.f a1_2 1 3).bind fun t415 => (if t415 = true then ((spec_l9Word.f a1_3).bind fun t416 => (if t416 = true then ((spec_l9Word.f a1_4).bind fun t417 => (if t417 = true then ((spec_l9Word.f a1_17).bind fun t418 => (spec_l11Talk.j0 k l0 (!t418) a1_0 a1_1 a1_2 a1_3 a1_4 a1_5 a1_6 a1_7 a1_8 a1_9 a1_10 a1_11 a1_12 a1_13 a1_14 a1_15 a1_16 a1_17 a1_18 a1_19)) else (spec_l11Talk.j0 k l0 true a1_0 a1_1 a1_2 a1_3 a1_4 a1_5 a1_6 a1_7 a1_8 a1_9 a1_10 a1_11 a1_12 a1_13 a1_14 a1_15 a1_16 a1_17 a1_18 a1_19))) else (spec_l11Talk.j0 k l0 true a1_0 a1_1 a1_2 a1_3 a1_4 a1_5 a1_6 a1_7 a1_8 a1_9 a1_10 a1_11 a1_12 a1_13 a1_14 a1_15 a1_16 a1_17 a1_18 a1_19))) else (spec_l11Talk.j0 k l0 true a1_0 a1_1 a1_2 a1_3 a1_4 a1_5 a1_6 a1_7 a1_8 a1_9 a1_10 a1_11 a1_12 a1_13 a1_14 a1_15 a1_16 a1_17 a1_18 a1_19))) else (spec_l11Talk.j0 k l0 true a1_0 a1_1 a1_2 a1_3 a1_4 a1_5 a1_6 a1_7 a1_8 a1_9 a1_10 a1_11 a1_12 a1_13 a1_14 a1_15 a1_16 a1_17 a1_18 a1_19))) else (spec_l11Talk.j0 k l0 true a1_0 a1_1 a1_2 a1_3 a1_4 a1_5 a1_6 a1_7 a1_8 a1_9 a1_10 a1_11 a1_12 a1_13 a1_14 a1_15 a1_16 a1_17 a1_18 a1_19))) = some r := h
 clear h
 have a6 := Aside0.mk H
 clear H
 go_enter Try.func49, Try.ntmps49
 go_upto_region 1 with (first | ((with_reducible refine gate_dst (N := 3) rfl ?_); refine box_event ?hg (N := 3) ?hd (cs := #[.int .i64 a1_0, .int .i64 a1_1, .int .i64 a1_2, .int .i64 a1_3, .int .i64 a1_4, .int .i64 a1_5, .int .i64 a1_6, .int .i64 a1_7, .int .i64 a1_8, .int .i64 a1_9, .int .i64 a1_10, .int .i64 a1_11, .int .i64 a1_12, .int .i64 a1_13, .int .i64 a1_14, .int .i64 a1_15, .int .i64 a1_16, .int .i64 a1_17, .int .i64 a1_18, .int .i64 a1_19]) (t := 58) ?hr ?_; (case hd => rfl); (case hg => rfl); (case hr => first | (go_simp; done) | (go_simp; rfl)); intro a3 hg w4 hbox hb; have n0_ := Aside0.mk (lP_ (by repeat (first | (with_reducible first | exact HB.out | apply lA1_ | apply lN_ | apply lD_) | exact HB.out)) hb); have n1_ := Aside0.mk (hbox); have n2_ := Aside0.mk ((by rw [hg]; exact (below_size (by repeat (first | (with_reducible first | exact HB.out | apply lA1_ | apply lN_ | apply lD_) | exact HB.out))) : w.heap.size ≤ a3)); have n3_ := Aside0.mk ((by rw [hg]; exact (below_size (by repeat (first | (with_reducible first | exact HB.out | apply lA1_ | apply lN_ | apply lD_) | exact HB.out))) : w.heap.size ≤ a3)); clear HB; have HB := n0_; have a0 := n1_; have ar := n2_; have a1 := n3_; clear n0_ n1_ n2_ n3_ hb hbox hg))
 (try simp only [Act.put, lA_, lZ_, lS_])
 go_cut [43] (fun v43 wc => ∃ (kq : Nat) (x43_2 : Bool), v43 = .bool x43_2 ∧ Aside0 (spec_l11Talk.j0 kq l0 x43_2 a1_0 a1_1 a1_2 a1_3 a1_4 a1_5 a1_6 a1_7 a1_8 a1_9 a1_10 a1_11 a1_12 a1_13 a1_14 a1_15 a1_16 a1_17 a1_18 a1_19 = some r) ∧ Aside0 (kq ≤ k) ∧ Aside0 (wc.heap[a3]? = some (.cells #[.int .i64 a1_0, .int .i64 a1_1, .int .i64 a1_2, .int .i64 a1_3, .int .i64 a1_4, .int .i64 a1_5, .int .i64 a1_6, .int .i64 a1_7, .int .i64 a1_8, .int .i64 a1_9, .int .i64 a1_10, .int .i64 a1_11, .int .i64 a1_12, .int .i64 a1_13, .int .i64 a1_14, .int .i64 a1_15, .int .i64 a1_16, .int .i64 a1_17, .int .i64 a1_18, .int .i64 a1_19] 58 (0, 0))) ∧ Aside0 (Below w.heap.size w wc))
 case first =>
  have H := a6.out
  clear a6
  replace H := Option.bind_eq_some_iff.mp H
  obtain ⟨t413, aj, H⟩ := H
  try dsimp only at H
  have A5 := Aside0.mk aj
  clear aj
  by_cases c6 : t413 = true
  ·subst c6
   rw [if_pos rfl] at H
   replace H := Option.bind_eq_some_iff.mp H
   obtain ⟨t414, ak, H⟩ := H
   try dsimp only at H
   have A7 := Aside0.mk ak
   clear ak
   by_cases c8 : t414 = true
   ·subst c8
    rw [if_pos rfl] at H
    replace H := Option.bind_eq_some_iff.mp H
    obtain ⟨t415, al, H⟩ := H
    try dsimp only at H
    have A9 := Aside0.mk al
    clear al
    by_cases c10 : t415 = true
    ·subst c10
     rw [if_pos rfl] at H
     replace H := Option.bind_eq_some_iff.mp H
     obtain ⟨t416, a7, H⟩ := H
     try dsimp only at H
     have a8 := Aside0.mk a7
     clear a7
     by_cases c12 : t416 = true
     ·subst c12
      rw [if_pos rfl] at H
      replace H := Option.bind_eq_some_iff.mp H
      obtain ⟨t417, a9, H⟩ := H
      try dsimp only at H
      have am := Aside0.mk a9
      clear a9
      by_cases c14 : t417 = true
      ·subst c14
       rw [if_pos rfl] at H
       replace H := Option.bind_eq_some_iff.mp H
       obtain ⟨t418, aa, H⟩ := H
       try dsimp only at H
       have ap := Aside0.mk aa
       clear aa
       have H' := Aside0.mk H
       clear H
       obtain ⟨_, _, _, _, _, _, _, _, _, _, _, _, _, _, _, _, _, _, _, _, _, _, _, _, _, _, _, _, _, _, _, _, _, _, _, _, _, _, _, _⟩ := bc20 a0.out
       go_wp2_with (first | ((with_reducible refine gate_load_ (t := 58) rfl ?_); refine load_row_ (by rfl) (by rfl) (by rfl) (rowAt_block (t := 58) (cs := [.int .i64 a1_0, .int .i64 a1_1, .int .i64 a1_2, .int .i64 a1_3, .int .i64 a1_4, .int .i64 a1_5, .int .i64 a1_6, .int .i64 a1_7, .int .i64 a1_8, .int .i64 a1_9, .int .i64 a1_10, .int .i64 a1_11, .int .i64 a1_12, .int .i64 a1_13, .int .i64 a1_14, .int .i64 a1_15, .int .i64 a1_16, .int .i64 a1_17, .int .i64 a1_18, .int .i64 a1_19]) (by (with_reducible repeat first | apply bN_ | apply bD_ | apply bA_); exact a0.out)) Try.underlying58 rfl size58_ ?_) | ((with_reducible refine gate_callee (f := 32) rfl ?_); refine goesA_ (some 12) rfl rfl Try.func32 (by kernel_rfl) rfl #[.int .i64 a1_0, .int .i64 0, .int .i64 9] rfl ?_; (with_reducible refine (spec_l1In.calls a1_0 0 9 true _ A5.out).mono ?_); rintro e w' ⟨rfl, ⟨nd, rfl⟩⟩; refine ⟨_, rfl, ?_⟩) | (go_at_call 32; (with_reducible refine (spec_l1In.calls a1_1 1 2 true _ A7.out).mono ?_); rintro e w' ⟨rfl, ⟨nd, rfl⟩⟩) | (go_at_call 32; (with_reducible refine (spec_l1In.calls a1_2 1 3 true _ A9.out).mono ?_); rintro e w' ⟨rfl, ⟨nd, rfl⟩⟩) | (go_at_call 63; (with_reducible refine (spec_l9Word.calls a1_3 true _ a8.out).mono ?_); rintro e w' ⟨rfl, ⟨nd, rfl⟩⟩) | (go_at_call 63; (with_reducible refine (spec_l9Word.calls a1_4 true _ am.out).mono ?_); rintro e w' ⟨rfl, ⟨nd, rfl⟩⟩) | (go_at_call 63; (with_reducible refine (spec_l9Word.calls a1_17 t418 _ ap.out).mono ?_); rintro e w' ⟨rfl, ⟨nd, rfl⟩⟩))
       go_meet
       case rel => exact ⟨_, (!t418), (by first | rfl | (simp; done) | (simp [*]; done)), H', ⟨by first | omega | exact Nat.le_refl _⟩, ⟨by (with_reducible repeat first | apply bN_ | apply bD_ | apply bA_); exact a0.out⟩, ⟨by repeat (first | (with_reducible first | exact HB.out | apply lA1_ | apply lN_ | apply lD_ | refine lS1_ ?_ a1.out) | exact HB.out)⟩⟩
      ·replace c14 := Bool.eq_false_iff.mpr c14
       subst c14
       rw [if_neg (show ¬ (false = true) by decide)] at H
       have H' := Aside0.mk H
       clear H
       obtain ⟨_, _, _, _, _, _, _, _, _, _, _, _, _, _, _, _, _, _, _, _, _, _, _, _, _, _, _, _, _, _, _, _, _, _, _, _, _, _, _, _⟩ := bc20 a0.out
       go_wp2_with (first | ((with_reducible refine gate_load_ (t := 58) rfl ?_); refine load_row_ (by rfl) (by rfl) (by rfl) (rowAt_block (t := 58) (cs := [.int .i64 a1_0, .int .i64 a1_1, .int .i64 a1_2, .int .i64 a1_3, .int .i64 a1_4, .int .i64 a1_5, .int .i64 a1_6, .int .i64 a1_7, .int .i64 a1_8, .int .i64 a1_9, .int .i64 a1_10, .int .i64 a1_11, .int .i64 a1_12, .int .i64 a1_13, .int .i64 a1_14, .int .i64 a1_15, .int .i64 a1_16, .int .i64 a1_17, .int .i64 a1_18, .int .i64 a1_19]) (by (with_reducible repeat first | apply bN_ | apply bD_ | apply bA_); exact a0.out)) Try.underlying58 rfl size58_ ?_) | ((with_reducible refine gate_callee (f := 32) rfl ?_); refine goesA_ (some 12) rfl rfl Try.func32 (by kernel_rfl) rfl #[.int .i64 a1_0, .int .i64 0, .int .i64 9] rfl ?_; (with_reducible refine (spec_l1In.calls a1_0 0 9 true _ A5.out).mono ?_); rintro e w' ⟨rfl, ⟨nd, rfl⟩⟩; refine ⟨_, rfl, ?_⟩) | (go_at_call 32; (with_reducible refine (spec_l1In.calls a1_1 1 2 true _ A7.out).mono ?_); rintro e w' ⟨rfl, ⟨nd, rfl⟩⟩) | (go_at_call 32; (with_reducible refine (spec_l1In.calls a1_2 1 3 true _ A9.out).mono ?_); rintro e w' ⟨rfl, ⟨nd, rfl⟩⟩) | (go_at_call 63; (with_reducible refine (spec_l9Word.calls a1_3 true _ a8.out).mono ?_); rintro e w' ⟨rfl, ⟨nd, rfl⟩⟩) | (go_at_call 63; (with_reducible refine (spec_l9Word.calls a1_4 false _ am.out).mono ?_); rintro e w' ⟨rfl, ⟨nd, rfl⟩⟩))
       go_meet
       case rel => exact ⟨_, (true), (by first | rfl | (simp; done) | (simp [*]; done)), H', ⟨by first | omega | exact Nat.le_refl _⟩, ⟨by (with_reducible repeat first | apply bN_ | apply bD_ | apply bA_); exact a0.out⟩, ⟨by repeat (first | (with_reducible first | exact HB.out | apply lA1_ | apply lN_ | apply lD_ | refine lS1_ ?_ a1.out) | exact HB.out)⟩⟩
     ·replace c12 := Bool.eq_false_iff.mpr c12
      subst c12
      rw [if_neg (show ¬ (false = true) by decide)] at H
      have H' := Aside0.mk H
      clear H
      obtain ⟨_, _, _, _, _, _, _, _, _, _, _, _, _, _, _, _, _, _, _, _, _, _, _, _, _, _, _, _, _, _, _, _, _, _, _, _, _, _, _, _⟩ := bc20 a0.out
      go_wp2_with (first | ((with_reducible refine gate_load_ (t := 58) rfl ?_); refine load_row_ (by rfl) (by rfl) (by rfl) (rowAt_block (t := 58) (cs := [.int .i64 a1_0, .int .i64 a1_1, .int .i64 a1_2, .int .i64 a1_3, .int .i64 a1_4, .int .i64 a1_5, .int .i64 a1_6, .int .i64 a1_7, .int .i64 a1_8, .int .i64 a1_9, .int .i64 a1_10, .int .i64 a1_11, .int .i64 a1_12, .int .i64 a1_13, .int .i64 a1_14, .int .i64 a1_15, .int .i64 a1_16, .int .i64 a1_17, .int .i64 a1_18, .int .i64 a1_19]) (by (with_reducible repeat first | apply bN_ | apply bD_ | apply bA_); exact a0.out)) Try.underlying58 rfl size58_ ?_) | ((with_reducible refine gate_callee (f := 32) rfl ?_); refine goesA_ (some 12) rfl rfl Try.func32 (by kernel_rfl) rfl #[.int .i64 a1_0, .int .i64 0, .int .i64 9] rfl ?_; (with_reducible refine (spec_l1In.calls a1_0 0 9 true _ A5.out).mono ?_); rintro e w' ⟨rfl, ⟨nd, rfl⟩⟩; refine ⟨_, rfl, ?_⟩) | (go_at_call 32; (with_reducible refine (spec_l1In.calls a1_1 1 2 true _ A7.out).mono ?_); rintro e w' ⟨rfl, ⟨nd, rfl⟩⟩) | (go_at_call 32; (with_reducible refine (spec_l1In.calls a1_2 1 3 true _ A9.out).mono ?_); rintro e w' ⟨rfl, ⟨nd, rfl⟩⟩) | (go_at_call 63; (with_reducible refine (spec_l9Word.calls a1_3 false _ a8.out).mono ?_); rintro e w' ⟨rfl, ⟨nd, rfl⟩⟩))
      go_meet
      case rel => exact ⟨_, (true), (by first | rfl | (simp; done) | (simp [*]; done)), H', ⟨by first | omega | exact Nat.le_refl _⟩, ⟨by (with_reducible repeat first | apply bN_ | apply bD_ | apply bA_); exact a0.out⟩, ⟨by repeat (first | (with_reducible first | exact HB.out | apply lA1_ | apply lN_ | apply lD_ | refine lS1_ ?_ a1.out) | exact HB.out)⟩⟩
    ·replace c10 := Bool.eq_false_iff.mpr c10
     subst c10
     rw [if_neg (show ¬ (false = true) by decide)] at H
     have H' := Aside0.mk H
     clear H
     obtain ⟨_, _, _, _, _, _, _, _, _, _, _, _, _, _, _, _, _, _, _, _, _, _, _, _, _, _, _, _, _, _, _, _, _, _, _, _, _, _, _, _⟩ := bc20 a0.out
     go_wp2_with (first | ((with_reducible refine gate_load_ (t := 58) rfl ?_); refine load_row_ (by rfl) (by rfl) (by rfl) (rowAt_block (t := 58) (cs := [.int .i64 a1_0, .int .i64 a1_1, .int .i64 a1_2, .int .i64 a1_3, .int .i64 a1_4, .int .i64 a1_5, .int .i64 a1_6, .int .i64 a1_7, .int .i64 a1_8, .int .i64 a1_9, .int .i64 a1_10, .int .i64 a1_11, .int .i64 a1_12, .int .i64 a1_13, .int .i64 a1_14, .int .i64 a1_15, .int .i64 a1_16, .int .i64 a1_17, .int .i64 a1_18, .int .i64 a1_19]) (by (with_reducible repeat first | apply bN_ | apply bD_ | apply bA_); exact a0.out)) Try.underlying58 rfl size58_ ?_) | ((with_reducible refine gate_callee (f := 32) rfl ?_); refine goesA_ (some 12) rfl rfl Try.func32 (by kernel_rfl) rfl #[.int .i64 a1_0, .int .i64 0, .int .i64 9] rfl ?_; (with_reducible refine (spec_l1In.calls a1_0 0 9 true _ A5.out).mono ?_); rintro e w' ⟨rfl, ⟨nd, rfl⟩⟩; refine ⟨_, rfl, ?_⟩) | (go_at_call 32; (with_reducible refine (spec_l1In.calls a1_1 1 2 true _ A7.out).mono ?_); rintro e w' ⟨rfl, ⟨nd, rfl⟩⟩) | (go_at_call 32; (with_reducible refine (spec_l1In.calls a1_2 1 3 false _ A9.out).mono ?_); rintro e w' ⟨rfl, ⟨nd, rfl⟩⟩))
     go_meet
     case rel => exact ⟨_, (true), (by first | rfl | (simp; done) | (simp [*]; done)), H', ⟨by first | omega | exact Nat.le_refl _⟩, ⟨by (with_reducible repeat first | apply bN_ | apply bD_ | apply bA_); exact a0.out⟩, ⟨by repeat (first | (with_reducible first | exact HB.out | apply lA1_ | apply lN_ | apply lD_ | refine lS1_ ?_ a1.out) | exact HB.out)⟩⟩
   ·replace c8 := Bool.eq_false_iff.mpr c8
    subst c8
    rw [if_neg (show ¬ (false = true) by decide)] at H
    have H' := Aside0.mk H
    clear H
    obtain ⟨_, _, _, _, _, _, _, _, _, _, _, _, _, _, _, _, _, _, _, _, _, _, _, _, _, _, _, _, _, _, _, _, _, _, _, _, _, _, _, _⟩ := bc20 a0.out
    go_wp2_with (first | ((with_reducible refine gate_load_ (t := 58) rfl ?_); refine load_row_ (by rfl) (by rfl) (by rfl) (rowAt_block (t := 58) (cs := [.int .i64 a1_0, .int .i64 a1_1, .int .i64 a1_2, .int .i64 a1_3, .int .i64 a1_4, .int .i64 a1_5, .int .i64 a1_6, .int .i64 a1_7, .int .i64 a1_8, .int .i64 a1_9, .int .i64 a1_10, .int .i64 a1_11, .int .i64 a1_12, .int .i64 a1_13, .int .i64 a1_14, .int .i64 a1_15, .int .i64 a1_16, .int .i64 a1_17, .int .i64 a1_18, .int .i64 a1_19]) (by (with_reducible repeat first | apply bN_ | apply bD_ | apply bA_); exact a0.out)) Try.underlying58 rfl size58_ ?_) | ((with_reducible refine gate_callee (f := 32) rfl ?_); refine goesA_ (some 12) rfl rfl Try.func32 (by kernel_rfl) rfl #[.int .i64 a1_0, .int .i64 0, .int .i64 9] rfl ?_; (with_reducible refine (spec_l1In.calls a1_0 0 9 true _ A5.out).mono ?_); rintro e w' ⟨rfl, ⟨nd, rfl⟩⟩; refine ⟨_, rfl, ?_⟩) | (go_at_call 32; (with_reducible refine (spec_l1In.calls a1_1 1 2 false _ A7.out).mono ?_); rintro e w' ⟨rfl, ⟨nd, rfl⟩⟩))
    go_meet
    case rel => exact ⟨_, (true), (by first | rfl | (simp; done) | (simp [*]; done)), H', ⟨by first | omega | exact Nat.le_refl _⟩, ⟨by (with_reducible repeat first | apply bN_ | apply bD_ | apply bA_); exact a0.out⟩, ⟨by repeat (first | (with_reducible first | exact HB.out | apply lA1_ | apply lN_ | apply lD_ | refine lS1_ ?_ a1.out) | exact HB.out)⟩⟩
  ·replace c6 := Bool.eq_false_iff.mpr c6
   subst c6
   rw [if_neg (show ¬ (false = true) by decide)] at H
   have H' := Aside0.mk H
   clear H
   obtain ⟨_, _, _, _, _, _, _, _, _, _, _, _, _, _, _, _, _, _, _, _, _, _, _, _, _, _, _, _, _, _, _, _, _, _, _, _, _, _, _, _⟩ := bc20 a0.out
   go_wp2_with (first | ((with_reducible refine gate_load_ (t := 58) rfl ?_); refine load_row_ (by rfl) (by rfl) (by rfl) (rowAt_block (t := 58) (cs := [.int .i64 a1_0, .int .i64 a1_1, .int .i64 a1_2, .int .i64 a1_3, .int .i64 a1_4, .int .i64 a1_5, .int .i64 a1_6, .int .i64 a1_7, .int .i64 a1_8, .int .i64 a1_9, .int .i64 a1_10, .int .i64 a1_11, .int .i64 a1_12, .int .i64 a1_13, .int .i64 a1_14, .int .i64 a1_15, .int .i64 a1_16, .int .i64 a1_17, .int .i64 a1_18, .int .i64 a1_19]) (by (with_reducible repeat first | apply bN_ | apply bD_ | apply bA_); exact a0.out)) Try.underlying58 rfl size58_ ?_) | ((with_reducible refine gate_callee (f := 32) rfl ?_); refine goesA_ (some 12) rfl rfl Try.func32 (by kernel_rfl) rfl #[.int .i64 a1_0, .int .i64 0, .int .i64 9] rfl ?_; (with_reducible refine (spec_l1In.calls a1_0 0 9 false _ A5.out).mono ?_); rintro e w' ⟨rfl, ⟨nd, rfl⟩⟩; refine ⟨_, rfl, ?_⟩))
   go_meet
   case rel => exact ⟨_, (true), (by first | rfl | (simp; done) | (simp [*]; done)), H', ⟨by first | omega | exact Nat.le_refl _⟩, ⟨by (with_reducible repeat first | apply bN_ | apply bD_ | apply bA_); exact a0.out⟩, ⟨by repeat (first | (with_reducible first | exact HB.out | apply lA1_ | apply lN_ | apply lD_ | refine lS1_ ?_ a1.out) | exact HB.out)⟩⟩
 case rest =>
  clear a6
  try clear c1
  try clear p2
  try clear c3
  try clear c4
  try clear c6
  try clear c8
  try clear c10
  try clear c12
  try clear c14
  try clear hcz16_0
  try clear hcz16_1
  try clear hcz16_10
  try clear hcz16_11
  try clear hcz16_12
  try clear hcz16_13
  try clear hcz16_14
  try clear hcz16_15
  try clear hcz16_16
  try clear hcz16_17
  try clear hcz16_18
  try clear hcz16_19
  try clear hcz16_2
  try clear hcz16_3
  try clear hcz16_4
  try clear hcz16_5
  try clear hcz16_6
  try clear hcz16_7
  try clear hcz16_8
  try clear hcz16_9
  try clear hcz17_0
  try clear hcz17_1
  try clear hcz17_10
  try clear hcz17_11
  try clear hcz17_12
  try clear hcz17_13
  try clear hcz17_14
  try clear hcz17_15
  try clear hcz17_16
  try clear hcz17_17
  try clear hcz17_18
  try clear hcz17_19
  try clear hcz17_2
  try clear hcz17_3
  try clear hcz17_4
  try clear hcz17_5
  try clear hcz17_6
  try clear hcz17_7
  try clear hcz17_8
  try clear hcz17_9
  try clear hcz18_0
  try clear hcz18_1
  try clear hcz18_10
  try clear hcz18_11
  try clear hcz18_12
  try clear hcz18_13
  try clear hcz18_14
  try clear hcz18_15
  try clear hcz18_16
  try clear hcz18_17
  try clear hcz18_18
  try clear hcz18_19
  try clear hcz18_2
  try clear hcz18_3
  try clear hcz18_4
  try clear hcz18_5
  try clear hcz18_6
  try clear hcz18_7
  try clear hcz18_8
  try clear hcz18_9
  try clear hcz19_0
  try clear hcz19_1
  try clear hcz19_10
  try clear hcz19_11
  try clear hcz19_12
  try clear hcz19_13
  try clear hcz19_14
  try clear hcz19_15
  try clear hcz19_16
  try clear hcz19_17
  try clear hcz19_18
  try clear hcz19_19
  try clear hcz19_2
  try clear hcz19_3
  try clear hcz19_4
  try clear hcz19_5
  try clear hcz19_6
  try clear hcz19_7
  try clear hcz19_8
  try clear hcz19_9
  try clear hcz20_0
  try clear hcz20_1
  try clear hcz20_10
  try clear hcz20_11
  try clear hcz20_12
  try clear hcz20_13
  try clear hcz20_14
  try clear hcz20_15
  try clear hcz20_16
  try clear hcz20_17
  try clear hcz20_18
  try clear hcz20_19
  try clear hcz20_2
  try clear hcz20_3
  try clear hcz20_4
  try clear hcz20_5
  try clear hcz20_6
  try clear hcz20_7
  try clear hcz20_8
  try clear hcz20_9
  try clear hcz21_0
  try clear hcz21_1
  try clear hcz21_10
  try clear hcz21_11
  try clear hcz21_12
  try clear hcz21_13
  try clear hcz21_14
  try clear hcz21_15
  try clear hcz21_16
  try clear hcz21_17
  try clear hcz21_18
  try clear hcz21_19
  try clear hcz21_2
  try clear hcz21_3
  try clear hcz21_4
  try clear hcz21_5
  try clear hcz21_6
  try clear hcz21_7
  try clear hcz21_8
  try clear hcz21_9
  try clear hfz16_0
  try clear hfz16_1
  try clear hfz16_10
  try clear hfz16_11
  try clear hfz16_12
  try clear hfz16_13
  try clear hfz16_14
  try clear hfz16_15
  try clear hfz16_16
  try clear hfz16_17
  try clear hfz16_18
  try clear hfz16_19
  try clear hfz16_2
  try clear hfz16_3
  try clear hfz16_4
  try clear hfz16_5
  try clear hfz16_6
  try clear hfz16_7
  try clear hfz16_8
  try clear hfz16_9
  try clear hfz17_0
  try clear hfz17_1
  try clear hfz17_10
  try clear hfz17_11
  try clear hfz17_12
  try clear hfz17_13
  try clear hfz17_14
  try clear hfz17_15
  try clear hfz17_16
  try clear hfz17_17
  try clear hfz17_18
  try clear hfz17_19
  try clear hfz17_2
  try clear hfz17_3
  try clear hfz17_4
  try clear hfz17_5
  try clear hfz17_6
  try clear hfz17_7
  try clear hfz17_8
  try clear hfz17_9
  try clear hfz18_0
  try clear hfz18_1
  try clear hfz18_10
  try clear hfz18_11
  try clear hfz18_12
  try clear hfz18_13
  try clear hfz18_14
  try clear hfz18_15
  try clear hfz18_16
  try clear hfz18_17
  try clear hfz18_18
  try clear hfz18_19
  try clear hfz18_2
  try clear hfz18_3
  try clear hfz18_4
  try clear hfz18_5
  try clear hfz18_6
  try clear hfz18_7
  try clear hfz18_8
  try clear hfz18_9
  try clear hfz19_0
  try clear hfz19_1
  try clear hfz19_10
  try clear hfz19_11
  try clear hfz19_12
  try clear hfz19_13
  try clear hfz19_14
  try clear hfz19_15
  try clear hfz19_16
  try clear hfz19_17
  try clear hfz19_18
  try clear hfz19_19
  try clear hfz19_2
  try clear hfz19_3
  try clear hfz19_4
  try clear hfz19_5
  try clear hfz19_6
  try clear hfz19_7
  try clear hfz19_8
  try clear hfz19_9
  try clear hfz20_0
  try clear hfz20_1
  try clear hfz20_10
  try clear hfz20_11
  try clear hfz20_12
  try clear hfz20_13
  try clear hfz20_14
  try clear hfz20_15
  try clear hfz20_16
  try clear hfz20_17
  try clear hfz20_18
  try clear hfz20_19
  try clear hfz20_2
  try clear hfz20_3
  try clear hfz20_4
  try clear hfz20_5
  try clear hfz20_6
  try clear hfz20_7
  try clear hfz20_8
  try clear hfz20_9
  try clear hfz21_0
  try clear hfz21_1
  try clear hfz21_10
  try clear hfz21_11
  try clear hfz21_12
  try clear hfz21_13
  try clear hfz21_14
  try clear hfz21_15
  try clear hfz21_16
  try clear hfz21_17
  try clear hfz21_18
  try clear hfz21_19
  try clear hfz21_2
  try clear hfz21_3
  try clear hfz21_4
  try clear hfz21_5
  try clear hfz21_6
  try clear hfz21_7
  try clear hfz21_8
  try clear hfz21_9
  obtain ⟨kq, x43_2, rfl, HA, HJ2, a0, HB⟩ := hcut
  cases kq with
  | zero => exact absurd HA.out (by simp [spec_l11Talk.j0])
  | succ kj2 =>
   have H := HA.out
   clear HA
   simp only [spec_l11Talk.j0] at H
   by_cases c22 : x43_2 = true
   ·subst c22
    rw [if_pos rfl] at H
    obtain rfl := Option.some.inj H
    go_wp2
    go_ret
    exact ⟨by first | rfl | (simp [errW_none, errW_some] <;> rfl) | (simp [*, errW_none, errW_some] <;> rfl), by repeat (first | (with_reducible first | exact HB.out | apply lA1_ | apply lN_ | apply lD_ | refine lS1_ ?_ a1.out) | exact HB.out)⟩
   ·replace c22 := Bool.eq_false_iff.mpr c22
    subst c22
    rw [if_neg (show ¬ (false = true) by decide)] at H
    replace H := Option.bind_eq_some_iff.mp H
    obtain ⟨t419, ab, H⟩ := H
    try dsimp only at H
    have ac := Aside0.mk ab
    clear ab
    by_cases c24 : t419 = 0
    ·rw [if_pos c24] at H
     have c24b0 : (t419 == 0) = true := beq_iff_eq.mpr c24
     have c24b1 : (t419 != 0) = false := bne_eq_false_iff_eq.mpr c24
     clear c24
     replace H := Option.bind_eq_some_iff.mp H
     obtain ⟨t420, ad, H⟩ := H
     try dsimp only at H
     have an := Aside0.mk ad
     clear ad
     by_cases c26 : t420 = true
     ·subst c26
      rw [if_pos rfl] at H
      replace H := Option.bind_eq_some_iff.mp H
      obtain ⟨⟨t421, t424⟩, ae, H⟩ := H
      try dsimp only at H
      have aq := Aside0.mk ae
      clear ae
      have H' := Aside0.mk H
      clear H
      obtain ⟨_, _, _, _, _, _, _, _, _, _, _, _, _, _, _, _, _, _, _, _, _, _, _, _, _, _, _, _, _, _, _, _, _, _, _, _, _, _, _, _⟩ := bc20 a0.out
      go_wp2_with (first | ((with_reducible refine gate_load_ (t := 58) rfl ?_); refine load_row_ (by rfl) (by rfl) (by rfl) (rowAt_block (t := 58) (cs := [.int .i64 a1_0, .int .i64 a1_1, .int .i64 a1_2, .int .i64 a1_3, .int .i64 a1_4, .int .i64 a1_5, .int .i64 a1_6, .int .i64 a1_7, .int .i64 a1_8, .int .i64 a1_9, .int .i64 a1_10, .int .i64 a1_11, .int .i64 a1_12, .int .i64 a1_13, .int .i64 a1_14, .int .i64 a1_15, .int .i64 a1_16, .int .i64 a1_17, .int .i64 a1_18, .int .i64 a1_19]) (by (with_reducible repeat first | apply bN_ | apply bD_ | apply bA_); exact a0.out)) Try.underlying58 rfl size58_ ?_) | ((with_reducible refine gate_callee (f := 64) rfl ?_); refine goesA_ (some 46) rfl rfl Try.func64 (by kernel_rfl) rfl #[.agg #[.int .i64 a1_18, .int .i64 a1_19]] rfl ?_; (with_reducible refine (spec_WindowFault.calls kj2 a1_18 a1_19 t419 _ ac.out).mono ?_); rintro e w29 ⟨rfl, hb⟩; refine ⟨_, rfl, ?_⟩; have n0_ := Aside0.mk (bB_ (g := a3) (o := .cells #[.int .i64 a1_0, .int .i64 a1_1, .int .i64 a1_2, .int .i64 a1_3, .int .i64 a1_4, .int .i64 a1_5, .int .i64 a1_6, .int .i64 a1_7, .int .i64 a1_8, .int .i64 a1_9, .int .i64 a1_10, .int .i64 a1_11, .int .i64 a1_12, .int .i64 a1_13, .int .i64 a1_14, .int .i64 a1_15, .int .i64 a1_16, .int .i64 a1_17, .int .i64 a1_18, .int .i64 a1_19] 58 (0, 0)) (by (with_reducible repeat first | apply bN_ | apply bD_ | apply bA_); exact a0.out) hb); have n1_ := Aside0.mk (lP_ (by repeat (first | (with_reducible first | exact HB.out | apply lA1_ | apply lN_ | apply lD_ | refine lS1_ ?_ a1.out) | exact HB.out)) hb); clear a0 HB; have a0 := n0_; have HB := n1_; clear n0_ n1_; (try clear hb); (try clear hb2); (try clear hk); (try clear hi); obtain ⟨_, _, _, _, _, _, _, _, _, _, _, _, _, _, _, _, _, _, _, _, _, _, _, _, _, _, _, _, _, _, _, _, _, _, _, _, _, _, _, _⟩ := bc20 a0.out) | ((with_reducible refine gate_callee (f := 65) rfl ?_); refine goesA_ (some 51) rfl rfl Try.func65 (by kernel_rfl) rfl #[.agg #[.int .i64 a1_0, .int .i64 a1_1, .int .i64 a1_2, .int .i64 a1_3, .int .i64 a1_4, .int .i64 a1_5, .int .i64 a1_6, .int .i64 a1_7, .int .i64 a1_8, .int .i64 a1_9, .int .i64 a1_10, .int .i64 a1_11, .int .i64 a1_12, .int .i64 a1_13, .int .i64 a1_14, .int .i64 a1_15, .int .i64 a1_16, .int .i64 a1_17, .int .i64 a1_18, .int .i64 a1_19]] rfl ?_; (with_reducible refine (spec_l11Shape.calls kj2 a1_0 a1_1 a1_2 a1_3 a1_4 a1_5 a1_6 a1_7 a1_8 a1_9 a1_10 a1_11 a1_12 a1_13 a1_14 a1_15 a1_16 a1_17 a1_18 a1_19 true _ an.out).mono ?_); rintro e w31 ⟨rfl, hb⟩; refine ⟨_, rfl, ?_⟩; have n0_ := Aside0.mk (bB_ a0.out hb); have n1_ := Aside0.mk (lP_ HB.out hb); clear a0 HB; have a0 := n0_; have HB := n1_; clear n0_ n1_; (try clear hb); (try clear hb2); (try clear hk); (try clear hi); obtain ⟨_, _, _, _, _, _, _, _, _, _, _, _, _, _, _, _, _, _, _, _, _, _, _, _, _, _, _, _, _, _, _, _, _, _, _, _, _, _, _, _⟩ := bc20 a0.out) | ((with_reducible refine gate_callee (f := 66) rfl ?_); refine goesA_ (some 55) rfl rfl Try.func66 (by kernel_rfl) rfl #[.agg #[.int .i64 a1_0, .int .i64 a1_1, .int .i64 a1_2, .int .i64 a1_3, .int .i64 a1_4, .int .i64 a1_5, .int .i64 a1_6, .int .i64 a1_7, .int .i64 a1_8, .int .i64 a1_9, .int .i64 a1_10, .int .i64 a1_11, .int .i64 a1_12, .int .i64 a1_13, .int .i64 a1_14, .int .i64 a1_15, .int .i64 a1_16, .int .i64 a1_17, .int .i64 a1_18, .int .i64 a1_19]] rfl ?_; (with_reducible refine (spec_l11Must.calls a1_0 a1_1 a1_2 a1_3 a1_4 a1_5 a1_6 a1_7 a1_8 a1_9 a1_10 a1_11 a1_12 a1_13 a1_14 a1_15 a1_16 a1_17 a1_18 a1_19 t421 t424 _ aq.out).mono ?_); rintro e w33 ⟨v422, v425, rfl, ho0, ho1, hb⟩; refine ⟨_, rfl, ?_⟩; have n0_ := Aside0.mk (Kd.R_lower ho0 (below_size HB.out)); have n1_ := Aside0.mk (Kd.R_lower ho1 (below_size HB.out)); have n2_ := Aside0.mk (bB_ a0.out hb); have n3_ := Aside0.mk (lP_ HB.out hb); clear a0 HB; have ag := n0_; have ah := n1_; have a0 := n2_; have HB := n3_; clear n0_ n1_ n2_ n3_; (try clear hb); (try clear hb2); (try clear hk); (try clear hi); (try clear ho0); (try clear ho1)))
      go_loopg [8] kj2 (fun kq v8 w' => ∃ (x8_2 : Int), v8 = .int .i64 x8_2 ∧ Aside0 (spec_l11Talk.l0 kq l0 t421 t424 x8_2 a1_0 a1_1 a1_2 a1_3 a1_4 a1_5 a1_6 a1_7 a1_8 a1_9 a1_10 a1_11 a1_12 a1_13 a1_14 a1_15 a1_16 a1_17 a1_18 a1_19 = some r) ∧ Aside0 (kq ≤ kj2) ∧ Aside0 (Kd.R (Kd.int .i64) 2 w' w.heap.size (fun k_ => some k_ ≠ (v425 : Value).ownBlock) v422 t421) ∧ Aside0 (Kd.R (Kd.int .i64) 2 w' w.heap.size (fun k_ => some k_ ≠ (v422 : Value).ownBlock) v425 t424) ∧ Aside0 (w'.heap[a3]? = some (.cells #[.int .i64 a1_0, .int .i64 a1_1, .int .i64 a1_2, .int .i64 a1_3, .int .i64 a1_4, .int .i64 a1_5, .int .i64 a1_6, .int .i64 a1_7, .int .i64 a1_8, .int .i64 a1_9, .int .i64 a1_10, .int .i64 a1_11, .int .i64 a1_12, .int .i64 a1_13, .int .i64 a1_14, .int .i64 a1_15, .int .i64 a1_16, .int .i64 a1_17, .int .i64 a1_18, .int .i64 a1_19] 58 (0, 0))) ∧ Aside0 (Below w.heap.size w w'))
      case atStart => exact ⟨(0), (by first | rfl | (simp; done) | (simp [*]; done)), H', ⟨Nat.le_refl _⟩, ⟨by (with_reducible repeat first | apply rA_ | apply rN_ | apply rD_); exact ag.out⟩, ⟨by (with_reducible repeat first | apply rA_ | apply rN_ | apply rD_); exact ah.out⟩, ⟨by (with_reducible repeat first | apply bN_ | apply bD_ | apply bA_); exact a0.out⟩, ⟨by repeat (first | (with_reducible first | exact HB.out | apply lA1_ | apply lN_ | apply lD_ | refine lS1_ ?_ a1.out) | exact HB.out)⟩⟩
      case round =>
       clear H'
       try clear c1
       try clear c2
       try clear p2
       try clear c3
       try clear c4
       try clear c6
       try clear c8
       try clear c10
       try clear c12
       try clear c14
       try clear c22
       try clear c24
       try clear c24b0
       try clear c24b1
       try clear c26
       try clear c32
       try clear hcz16_0
       try clear hcz16_1
       try clear hcz16_10
       try clear hcz16_11
       try clear hcz16_12
       try clear hcz16_13
       try clear hcz16_14
       try clear hcz16_15
       try clear hcz16_16
       try clear hcz16_17
       try clear hcz16_18
       try clear hcz16_19
       try clear hcz16_2
       try clear hcz16_3
       try clear hcz16_4
       try clear hcz16_5
       try clear hcz16_6
       try clear hcz16_7
       try clear hcz16_8
       try clear hcz16_9
       try clear hcz17_0
       try clear hcz17_1
       try clear hcz17_10
       try clear hcz17_11
       try clear hcz17_12
       try clear hcz17_13
       try clear hcz17_14
       try clear hcz17_15
       try clear hcz17_16
       try clear hcz17_17
       try clear hcz17_18
       try clear hcz17_19
       try clear hcz17_2
       try clear hcz17_3
       try clear hcz17_4
       try clear hcz17_5
       try clear hcz17_6
       try clear hcz17_7
       try clear hcz17_8
       try clear hcz17_9
       try clear hcz18_0
       try clear hcz18_1
       try clear hcz18_10
       try clear hcz18_11
       try clear hcz18_12
       try clear hcz18_13
       try clear hcz18_14
       try clear hcz18_15
       try clear hcz18_16
       try clear hcz18_17
       try clear hcz18_18
       try clear hcz18_19
       try clear hcz18_2
       try clear hcz18_3
       try clear hcz18_4
       try clear hcz18_5
       try clear hcz18_6
       try clear hcz18_7
       try clear hcz18_8
       try clear hcz18_9
       try clear hcz19_0
       try clear hcz19_1
       try clear hcz19_10
       try clear hcz19_11
       try clear hcz19_12
       try clear hcz19_13
       try clear hcz19_14
       try clear hcz19_15
       try clear hcz19_16
       try clear hcz19_17
       try clear hcz19_18
       try clear hcz19_19
       try clear hcz19_2
       try clear hcz19_3
       try clear hcz19_4
       try clear hcz19_5
       try clear hcz19_6
       try clear hcz19_7
       try clear hcz19_8
       try clear hcz19_9
       try clear hcz20_0
       try clear hcz20_1
       try clear hcz20_10
       try clear hcz20_11
       try clear hcz20_12
       try clear hcz20_13
       try clear hcz20_14
       try clear hcz20_15
       try clear hcz20_16
       try clear hcz20_17
       try clear hcz20_18
       try clear hcz20_19
       try clear hcz20_2
       try clear hcz20_3
       try clear hcz20_4
       try clear hcz20_5
       try clear hcz20_6
       try clear hcz20_7
       try clear hcz20_8
       try clear hcz20_9
       try clear hcz21_0
       try clear hcz21_1
       try clear hcz21_10
       try clear hcz21_11
       try clear hcz21_12
       try clear hcz21_13
       try clear hcz21_14
       try clear hcz21_15
       try clear hcz21_16
       try clear hcz21_17
       try clear hcz21_18
       try clear hcz21_19
       try clear hcz21_2
       try clear hcz21_3
       try clear hcz21_4
       try clear hcz21_5
       try clear hcz21_6
       try clear hcz21_7
       try clear hcz21_8
       try clear hcz21_9
       try clear hcz28_0
       try clear hcz28_1
       try clear hcz28_10
       try clear hcz28_11
       try clear hcz28_12
       try clear hcz28_13
       try clear hcz28_14
       try clear hcz28_15
       try clear hcz28_16
       try clear hcz28_17
       try clear hcz28_18
       try clear hcz28_19
       try clear hcz28_2
       try clear hcz28_3
       try clear hcz28_4
       try clear hcz28_5
       try clear hcz28_6
       try clear hcz28_7
       try clear hcz28_8
       try clear hcz28_9
       try clear hcz30_0
       try clear hcz30_1
       try clear hcz30_10
       try clear hcz30_11
       try clear hcz30_12
       try clear hcz30_13
       try clear hcz30_14
       try clear hcz30_15
       try clear hcz30_16
       try clear hcz30_17
       try clear hcz30_18
       try clear hcz30_19
       try clear hcz30_2
       try clear hcz30_3
       try clear hcz30_4
       try clear hcz30_5
       try clear hcz30_6
       try clear hcz30_7
       try clear hcz30_8
       try clear hcz30_9
       try clear hcz32_0
       try clear hcz32_1
       try clear hcz32_10
       try clear hcz32_11
       try clear hcz32_12
       try clear hcz32_13
       try clear hcz32_14
       try clear hcz32_15
       try clear hcz32_16
       try clear hcz32_17
       try clear hcz32_18
       try clear hcz32_19
       try clear hcz32_2
       try clear hcz32_3
       try clear hcz32_4
       try clear hcz32_5
       try clear hcz32_6
       try clear hcz32_7
       try clear hcz32_8
       try clear hcz32_9
       try clear hfz16_0
       try clear hfz16_1
       try clear hfz16_10
       try clear hfz16_11
       try clear hfz16_12
       try clear hfz16_13
       try clear hfz16_14
       try clear hfz16_15
       try clear hfz16_16
       try clear hfz16_17
       try clear hfz16_18
       try clear hfz16_19
       try clear hfz16_2
       try clear hfz16_3
       try clear hfz16_4
       try clear hfz16_5
       try clear hfz16_6
       try clear hfz16_7
       try clear hfz16_8
       try clear hfz16_9
       try clear hfz17_0
       try clear hfz17_1
       try clear hfz17_10
       try clear hfz17_11
       try clear hfz17_12
       try clear hfz17_13
       try clear hfz17_14
       try clear hfz17_15
       try clear hfz17_16
       try clear hfz17_17
       try clear hfz17_18
       try clear hfz17_19
       try clear hfz17_2
       try clear hfz17_3
       try clear hfz17_4
       try clear hfz17_5
       try clear hfz17_6
       try clear hfz17_7
       try clear hfz17_8
       try clear hfz17_9
       try clear hfz18_0
       try clear hfz18_1
       try clear hfz18_10
       try clear hfz18_11
       try clear hfz18_12
       try clear hfz18_13
       try clear hfz18_14
       try clear hfz18_15
       try clear hfz18_16
       try clear hfz18_17
       try clear hfz18_18
       try clear hfz18_19
       try clear hfz18_2
       try clear hfz18_3
       try clear hfz18_4
       try clear hfz18_5
       try clear hfz18_6
       try clear hfz18_7
       try clear hfz18_8
       try clear hfz18_9
       try clear hfz19_0
       try clear hfz19_1
       try clear hfz19_10
       try clear hfz19_11
       try clear hfz19_12
       try clear hfz19_13
       try clear hfz19_14
       try clear hfz19_15
       try clear hfz19_16
       try clear hfz19_17
       try clear hfz19_18
       try clear hfz19_19
       try clear hfz19_2
       try clear hfz19_3
       try clear hfz19_4
       try clear hfz19_5
       try clear hfz19_6
       try clear hfz19_7
       try clear hfz19_8
       try clear hfz19_9
       try clear hfz20_0
       try clear hfz20_1
       try clear hfz20_10
       try clear hfz20_11
       try clear hfz20_12
       try clear hfz20_13
       try clear hfz20_14
       try clear hfz20_15
       try clear hfz20_16
       try clear hfz20_17
       try clear hfz20_18
       try clear hfz20_19
       try clear hfz20_2
       try clear hfz20_3
       try clear hfz20_4
       try clear hfz20_5
       try clear hfz20_6
       try clear hfz20_7
       try clear hfz20_8
       try clear hfz20_9
       try clear hfz21_0
       try clear hfz21_1
       try clear hfz21_10
       try clear hfz21_11
       try clear hfz21_12
       try clear hfz21_13
       try clear hfz21_14
       try clear hfz21_15
       try clear hfz21_16
       try clear hfz21_17
       try clear hfz21_18
       try clear hfz21_19
       try clear hfz21_2
       try clear hfz21_3
       try clear hfz21_4
       try clear hfz21_5
       try clear hfz21_6
       try clear hfz21_7
       try clear hfz21_8
       try clear hfz21_9
       try clear hfz28_0
       try clear hfz28_1
       try clear hfz28_10
       try clear hfz28_11
       try clear hfz28_12
       try clear hfz28_13
       try clear hfz28_14
       try clear hfz28_15
       try clear hfz28_16
       try clear hfz28_17
       try clear hfz28_18
       try clear hfz28_19
       try clear hfz28_2
       try clear hfz28_3
       try clear hfz28_4
       try clear hfz28_5
       try clear hfz28_6
       try clear hfz28_7
       try clear hfz28_8
       try clear hfz28_9
       try clear hfz30_0
       try clear hfz30_1
       try clear hfz30_10
       try clear hfz30_11
       try clear hfz30_12
       try clear hfz30_13
       try clear hfz30_14
       try clear hfz30_15
       try clear hfz30_16
       try clear hfz30_17
       try clear hfz30_18
       try clear hfz30_19
       try clear hfz30_2
       try clear hfz30_3
       try clear hfz30_4
       try clear hfz30_5
       try clear hfz30_6
       try clear hfz30_7
       try clear hfz30_8
       try clear hfz30_9
       try clear hfz32_0
       try clear hfz32_1
       try clear hfz32_10
       try clear hfz32_11
       try clear hfz32_12
       try clear hfz32_13
       try clear hfz32_14
       try clear hfz32_15
       try clear hfz32_16
       try clear hfz32_17
       try clear hfz32_18
       try clear hfz32_19
       try clear hfz32_2
       try clear hfz32_3
       try clear hfz32_4
       try clear hfz32_5
       try clear hfz32_6
       try clear hfz32_7
       try clear hfz32_8
       try clear hfz32_9
       try clear p2
       obtain ⟨x8_2, rfl, HA, HK2, a4, a2, a0, HB⟩ := hrel
       cases gk with
       | zero => exact absurd HA.out (by simp [spec_l11Talk.l0])
       | succ k2 =>
        have H := HA.out
        clear HA
        simp only [spec_l11Talk.l0] at H
        by_cases c34 : x8_2 < (t421.length : Int)
        ·rw [if_pos c34] at H
         have c34b0 : decide (x8_2 < (t421.length : Int)) = true := decide_eq_true c34
         clear c34
         by_cases c35 : 0 ≤ x8_2
         ·rw [if_pos c35] at H
          have c35b0 : decide (0 ≤ x8_2) = true := decide_eq_true c35
          clear c35
          replace H := Option.bind_eq_some_iff.mp H
          obtain ⟨t428, af, H⟩ := H
          try dsimp only at H
          have ao := Aside0.mk af
          clear af
          by_cases c37 : t428 = true
          ·subst c37
           rw [if_pos rfl] at H
           have H' := Aside0.mk H
           clear H
           obtain ⟨au, av, eo38⟩ := Kd.R_slice a4.out
           subst eo38
           have p427 : 0 ≤ (x8_2 : Int) := of_decide_eq_true (by first | (with_reducible assumption) | assumption)
           have q427 : x8_2 < (t421.length : Int) := of_decide_eq_true (by first | (with_reducible assumption) | assumption)
           obtain ⟨ad427, e427, hx427_0⟩ := Kd.at_int (Kd.R_reads' a4.out).2.2 x8_2 p427 q427
           cases e427
           replace p427 := eq_true p427
           replace q427 := eq_true q427
           go_wp2_with (first | ((with_reducible refine gate_load_ (t := 58) rfl ?_); refine load_row_ (by rfl) (by rfl) (by rfl) (rowAt_block (t := 58) (cs := [.int .i64 a1_0, .int .i64 a1_1, .int .i64 a1_2, .int .i64 a1_3, .int .i64 a1_4, .int .i64 a1_5, .int .i64 a1_6, .int .i64 a1_7, .int .i64 a1_8, .int .i64 a1_9, .int .i64 a1_10, .int .i64 a1_11, .int .i64 a1_12, .int .i64 a1_13, .int .i64 a1_14, .int .i64 a1_15, .int .i64 a1_16, .int .i64 a1_17, .int .i64 a1_18, .int .i64 a1_19]) (by (with_reducible repeat first | apply bN_ | apply bD_ | apply bA_); exact a0.out)) Try.underlying58 rfl size58_ ?_) | ((with_reducible refine gate_callee (f := 67) rfl ?_); refine goesA_ (some 69) rfl rfl Try.func67 (by kernel_rfl) rfl #[.slice A0 l0.length c0, .int .i64 (rd t421 x8_2)] rfl ?_; (with_reducible refine (spec_l5At.calls _ _ l0 (rd t421 x8_2) true _ ?side1 ?side2 ao.out).mono ?_); (case side1 => repeat (first | exact (Kd.C_below a5.out HB.out) | (with_reducible refine Kd.C_alloc ?_ _) | (with_reducible refine Kd.C_drewN ?_ _) | (with_reducible refine Kd.C_drew ?_))); (case side2 => exact ai.out); rintro e w' ⟨rfl, ⟨nd, rfl⟩⟩; refine ⟨_, rfl, ?_⟩))
           go_roundg k2
           case measure => have := HJ2.out; have := HK2.out; omega
           case rel => exact ⟨(wrap64 (x8_2 + 1)), (by first | rfl | (simp; done) | (simp [*]; done)), H', ⟨by have := HJ2.out; have := HK2.out; omega⟩, ⟨by (with_reducible repeat first | apply rA_ | apply rN_ | apply rD_); exact a4.out⟩, ⟨by (with_reducible repeat first | apply rA_ | apply rN_ | apply rD_); exact a2.out⟩, ⟨by (with_reducible repeat first | apply bN_ | apply bD_ | apply bA_); exact a0.out⟩, ⟨by repeat (first | (with_reducible first | exact HB.out | apply lA1_ | apply lN_ | apply lD_ | refine lS1_ ?_ a1.out) | exact HB.out)⟩⟩
          ·replace c37 := Bool.eq_false_iff.mpr c37
           subst c37
           rw [if_neg (show ¬ (false = true) by decide)] at H
           obtain rfl := Option.some.inj H
           obtain ⟨aw, ax, eo39⟩ := Kd.R_slice a4.out
           subst eo39
           have p427 : 0 ≤ (x8_2 : Int) := of_decide_eq_true (by first | (with_reducible assumption) | assumption)
           have q427 : x8_2 < (t421.length : Int) := of_decide_eq_true (by first | (with_reducible assumption) | assumption)
           obtain ⟨ad427, e427, hx427_0⟩ := Kd.at_int (Kd.R_reads' a4.out).2.2 x8_2 p427 q427
           cases e427
           replace p427 := eq_true p427
           replace q427 := eq_true q427
           go_wp2_with (first | ((with_reducible refine gate_load_ (t := 58) rfl ?_); refine load_row_ (by rfl) (by rfl) (by rfl) (rowAt_block (t := 58) (cs := [.int .i64 a1_0, .int .i64 a1_1, .int .i64 a1_2, .int .i64 a1_3, .int .i64 a1_4, .int .i64 a1_5, .int .i64 a1_6, .int .i64 a1_7, .int .i64 a1_8, .int .i64 a1_9, .int .i64 a1_10, .int .i64 a1_11, .int .i64 a1_12, .int .i64 a1_13, .int .i64 a1_14, .int .i64 a1_15, .int .i64 a1_16, .int .i64 a1_17, .int .i64 a1_18, .int .i64 a1_19]) (by (with_reducible repeat first | apply bN_ | apply bD_ | apply bA_); exact a0.out)) Try.underlying58 rfl size58_ ?_) | ((with_reducible refine gate_callee (f := 67) rfl ?_); refine goesA_ (some 69) rfl rfl Try.func67 (by kernel_rfl) rfl #[.slice A0 l0.length c0, .int .i64 (rd t421 x8_2)] rfl ?_; (with_reducible refine (spec_l5At.calls _ _ l0 (rd t421 x8_2) false _ ?side1 ?side2 ao.out).mono ?_); (case side1 => repeat (first | exact (Kd.C_below a5.out HB.out) | (with_reducible refine Kd.C_alloc ?_ _) | (with_reducible refine Kd.C_drewN ?_ _) | (with_reducible refine Kd.C_drew ?_))); (case side2 => exact ai.out); rintro e w' ⟨rfl, ⟨nd, rfl⟩⟩; refine ⟨_, rfl, ?_⟩))
           go_ret
           exact ⟨by first | rfl | (simp [errW_none, errW_some] <;> rfl) | (simp [*, errW_none, errW_some] <;> rfl), by repeat (first | (with_reducible first | exact HB.out | apply lA1_ | apply lN_ | apply lD_ | refine lS1_ ?_ a1.out) | exact HB.out)⟩
         ·rw [if_neg c35] at H
          exact absurd H (by simp)
        ·rw [if_neg c34] at H
         have c34b0 : decide (x8_2 < (t421.length : Int)) = false := decide_eq_false c34
         clear c34
         have H' := Aside0.mk H
         clear H
         obtain ⟨ay, az, eo40⟩ := Kd.R_slice a4.out
         subst eo40
         go_wp2
         go_loopg [9] k2 (fun kq v9 w' => ∃ (x9_3 : Int), v9 = .int .i64 x9_3 ∧ Aside0 (spec_l11Talk.l1 kq l0 t424 x9_3 a1_0 a1_1 a1_2 a1_3 a1_4 a1_5 a1_6 a1_7 a1_8 a1_9 a1_10 a1_11 a1_12 a1_13 a1_14 a1_15 a1_16 a1_17 a1_18 a1_19 = some r) ∧ Aside0 (kq ≤ k2) ∧ Aside0 (Kd.R (Kd.int .i64) 2 w' w.heap.size (fun _ => True) v425 t424) ∧ Aside0 (w'.heap[a3]? = some (.cells #[.int .i64 a1_0, .int .i64 a1_1, .int .i64 a1_2, .int .i64 a1_3, .int .i64 a1_4, .int .i64 a1_5, .int .i64 a1_6, .int .i64 a1_7, .int .i64 a1_8, .int .i64 a1_9, .int .i64 a1_10, .int .i64 a1_11, .int .i64 a1_12, .int .i64 a1_13, .int .i64 a1_14, .int .i64 a1_15, .int .i64 a1_16, .int .i64 a1_17, .int .i64 a1_18, .int .i64 a1_19] 58 (0, 0))) ∧ Aside0 (Below w.heap.size w w'))
         case atStart => exact ⟨(0), (by first | rfl | (simp; done) | (simp [*]; done)), H', ⟨Nat.le_refl _⟩, ⟨by (with_reducible repeat first | apply rA_ | apply rN_ | apply rD_); exact Kd.R_mono a2.out (fun _ hk => trivial)⟩, ⟨by (with_reducible repeat first | apply bN_ | apply bD_ | apply bA_); exact a0.out⟩, ⟨by repeat (first | (with_reducible first | exact HB.out | apply lA1_ | apply lN_ | apply lD_ | refine lS1_ ?_ a1.out) | exact HB.out)⟩⟩
         case round =>
          clear H'
          try clear c1
          try clear c2
          try clear p2
          try clear c3
          try clear c4
          try clear p4
          try clear q4
          try clear hx4
          try clear c6
          try clear p6
          try clear c8
          try clear c10
          try clear c12
          try clear c14
          try clear c22
          try clear c24
          try clear c24b0
          try clear c24b1
          try clear c26
          try clear c32
          try clear c34
          try clear c34b0
          try clear c35
          try clear c35b0
          try clear c37
          try clear hcz16_0
          try clear hcz16_1
          try clear hcz16_10
          try clear hcz16_11
          try clear hcz16_12
          try clear hcz16_13
          try clear hcz16_14
          try clear hcz16_15
          try clear hcz16_16
          try clear hcz16_17
          try clear hcz16_18
          try clear hcz16_19
          try clear hcz16_2
          try clear hcz16_3
          try clear hcz16_4
          try clear hcz16_5
          try clear hcz16_6
          try clear hcz16_7
          try clear hcz16_8
          try clear hcz16_9
          try clear hcz17_0
          try clear hcz17_1
          try clear hcz17_10
          try clear hcz17_11
          try clear hcz17_12
          try clear hcz17_13
          try clear hcz17_14
          try clear hcz17_15
          try clear hcz17_16
          try clear hcz17_17
          try clear hcz17_18
          try clear hcz17_19
          try clear hcz17_2
          try clear hcz17_3
          try clear hcz17_4
          try clear hcz17_5
          try clear hcz17_6
          try clear hcz17_7
          try clear hcz17_8
          try clear hcz17_9
          try clear hcz18_0
          try clear hcz18_1
          try clear hcz18_10
          try clear hcz18_11
          try clear hcz18_12
          try clear hcz18_13
          try clear hcz18_14
          try clear hcz18_15
          try clear hcz18_16
          try clear hcz18_17
          try clear hcz18_18
          try clear hcz18_19
          try clear hcz18_2
          try clear hcz18_3
          try clear hcz18_4
          try clear hcz18_5
          try clear hcz18_6
          try clear hcz18_7
          try clear hcz18_8
          try clear hcz18_9
          try clear hcz19_0
          try clear hcz19_1
          try clear hcz19_10
          try clear hcz19_11
          try clear hcz19_12
          try clear hcz19_13
          try clear hcz19_14
          try clear hcz19_15
          try clear hcz19_16
          try clear hcz19_17
          try clear hcz19_18
          try clear hcz19_19
          try clear hcz19_2
          try clear hcz19_3
          try clear hcz19_4
          try clear hcz19_5
          try clear hcz19_6
          try clear hcz19_7
          try clear hcz19_8
          try clear hcz19_9
          try clear hcz20_0
          try clear hcz20_1
          try clear hcz20_10
          try clear hcz20_11
          try clear hcz20_12
          try clear hcz20_13
          try clear hcz20_14
          try clear hcz20_15
          try clear hcz20_16
          try clear hcz20_17
          try clear hcz20_18
          try clear hcz20_19
          try clear hcz20_2
          try clear hcz20_3
          try clear hcz20_4
          try clear hcz20_5
          try clear hcz20_6
          try clear hcz20_7
          try clear hcz20_8
          try clear hcz20_9
          try clear hcz21_0
          try clear hcz21_1
          try clear hcz21_10
          try clear hcz21_11
          try clear hcz21_12
          try clear hcz21_13
          try clear hcz21_14
          try clear hcz21_15
          try clear hcz21_16
          try clear hcz21_17
          try clear hcz21_18
          try clear hcz21_19
          try clear hcz21_2
          try clear hcz21_3
          try clear hcz21_4
          try clear hcz21_5
          try clear hcz21_6
          try clear hcz21_7
          try clear hcz21_8
          try clear hcz21_9
          try clear hcz28_0
          try clear hcz28_1
          try clear hcz28_10
          try clear hcz28_11
          try clear hcz28_12
          try clear hcz28_13
          try clear hcz28_14
          try clear hcz28_15
          try clear hcz28_16
          try clear hcz28_17
          try clear hcz28_18
          try clear hcz28_19
          try clear hcz28_2
          try clear hcz28_3
          try clear hcz28_4
          try clear hcz28_5
          try clear hcz28_6
          try clear hcz28_7
          try clear hcz28_8
          try clear hcz28_9
          try clear hcz30_0
          try clear hcz30_1
          try clear hcz30_10
          try clear hcz30_11
          try clear hcz30_12
          try clear hcz30_13
          try clear hcz30_14
          try clear hcz30_15
          try clear hcz30_16
          try clear hcz30_17
          try clear hcz30_18
          try clear hcz30_19
          try clear hcz30_2
          try clear hcz30_3
          try clear hcz30_4
          try clear hcz30_5
          try clear hcz30_6
          try clear hcz30_7
          try clear hcz30_8
          try clear hcz30_9
          try clear hcz32_0
          try clear hcz32_1
          try clear hcz32_10
          try clear hcz32_11
          try clear hcz32_12
          try clear hcz32_13
          try clear hcz32_14
          try clear hcz32_15
          try clear hcz32_16
          try clear hcz32_17
          try clear hcz32_18
          try clear hcz32_19
          try clear hcz32_2
          try clear hcz32_3
          try clear hcz32_4
          try clear hcz32_5
          try clear hcz32_6
          try clear hcz32_7
          try clear hcz32_8
          try clear hcz32_9
          try clear hfz16_0
          try clear hfz16_1
          try clear hfz16_10
          try clear hfz16_11
          try clear hfz16_12
          try clear hfz16_13
          try clear hfz16_14
          try clear hfz16_15
          try clear hfz16_16
          try clear hfz16_17
          try clear hfz16_18
          try clear hfz16_19
          try clear hfz16_2
          try clear hfz16_3
          try clear hfz16_4
          try clear hfz16_5
          try clear hfz16_6
          try clear hfz16_7
          try clear hfz16_8
          try clear hfz16_9
          try clear hfz17_0
          try clear hfz17_1
          try clear hfz17_10
          try clear hfz17_11
          try clear hfz17_12
          try clear hfz17_13
          try clear hfz17_14
          try clear hfz17_15
          try clear hfz17_16
          try clear hfz17_17
          try clear hfz17_18
          try clear hfz17_19
          try clear hfz17_2
          try clear hfz17_3
          try clear hfz17_4
          try clear hfz17_5
          try clear hfz17_6
          try clear hfz17_7
          try clear hfz17_8
          try clear hfz17_9
          try clear hfz18_0
          try clear hfz18_1
          try clear hfz18_10
          try clear hfz18_11
          try clear hfz18_12
          try clear hfz18_13
          try clear hfz18_14
          try clear hfz18_15
          try clear hfz18_16
          try clear hfz18_17
          try clear hfz18_18
          try clear hfz18_19
          try clear hfz18_2
          try clear hfz18_3
          try clear hfz18_4
          try clear hfz18_5
          try clear hfz18_6
          try clear hfz18_7
          try clear hfz18_8
          try clear hfz18_9
          try clear hfz19_0
          try clear hfz19_1
          try clear hfz19_10
          try clear hfz19_11
          try clear hfz19_12
          try clear hfz19_13
          try clear hfz19_14
          try clear hfz19_15
          try clear hfz19_16
          try clear hfz19_17
          try clear hfz19_18
          try clear hfz19_19
          try clear hfz19_2
          try clear hfz19_3
          try clear hfz19_4
          try clear hfz19_5
          try clear hfz19_6
          try clear hfz19_7
          try clear hfz19_8
          try clear hfz19_9
          try clear hfz20_0
          try clear hfz20_1
          try clear hfz20_10
          try clear hfz20_11
          try clear hfz20_12
          try clear hfz20_13
          try clear hfz20_14
          try clear hfz20_15
          try clear hfz20_16
          try clear hfz20_17
          try clear hfz20_18
          try clear hfz20_19
          try clear hfz20_2
          try clear hfz20_3
          try clear hfz20_4
          try clear hfz20_5
          try clear hfz20_6
          try clear hfz20_7
          try clear hfz20_8
          try clear hfz20_9
          try clear hfz21_0
          try clear hfz21_1
          try clear hfz21_10
          try clear hfz21_11
          try clear hfz21_12
          try clear hfz21_13
          try clear hfz21_14
          try clear hfz21_15
          try clear hfz21_16
          try clear hfz21_17
          try clear hfz21_18
          try clear hfz21_19
          try clear hfz21_2
          try clear hfz21_3
          try clear hfz21_4
          try clear hfz21_5
          try clear hfz21_6
          try clear hfz21_7
          try clear hfz21_8
          try clear hfz21_9
          try clear hfz28_0
          try clear hfz28_1
          try clear hfz28_10
          try clear hfz28_11
          try clear hfz28_12
          try clear hfz28_13
          try clear hfz28_14
          try clear hfz28_15
          try clear hfz28_16
          try clear hfz28_17
          try clear hfz28_18
          try clear hfz28_19
          try clear hfz28_2
          try clear hfz28_3
          try clear hfz28_4
          try clear hfz28_5
          try clear hfz28_6
          try clear hfz28_7
          try clear hfz28_8
          try clear hfz28_9
          try clear hfz30_0
          try clear hfz30_1
          try clear hfz30_10
          try clear hfz30_11
          try clear hfz30_12
          try clear hfz30_13
          try clear hfz30_14
          try clear hfz30_15
          try clear hfz30_16
          try clear hfz30_17
          try clear hfz30_18
          try clear hfz30_19
          try clear hfz30_2
          try clear hfz30_3
          try clear hfz30_4
          try clear hfz30_5
          try clear hfz30_6
          try clear hfz30_7
          try clear hfz30_8
          try clear hfz30_9
          try clear hfz32_0
          try clear hfz32_1
          try clear hfz32_10
          try clear hfz32_11
          try clear hfz32_12
          try clear hfz32_13
          try clear hfz32_14
          try clear hfz32_15
          try clear hfz32_16
          try clear hfz32_17
          try clear hfz32_18
          try clear hfz32_19
          try clear hfz32_2
          try clear hfz32_3
          try clear hfz32_4
          try clear hfz32_5
          try clear hfz32_6
          try clear hfz32_7
          try clear hfz32_8
          try clear hfz32_9
          try clear hx427_0
          try clear p2
          try clear p427
          try clear q427
          obtain ⟨x9_3, rfl, HA, HK3, a2, a0, HB⟩ := hrel
          cases gk with
          | zero => exact absurd HA.out (by simp [spec_l11Talk.l1])
          | succ k3 =>
           have H := HA.out
           clear HA
           simp only [spec_l11Talk.l1] at H
           by_cases c41 : x9_3 < (t424.length : Int)
           ·rw [if_pos c41] at H
            have c41b0 : decide (x9_3 < (t424.length : Int)) = true := decide_eq_true c41
            clear c41
            by_cases c42 : 0 ≤ x9_3
            ·rw [if_pos c42] at H
             have c42b0 : decide (0 ≤ x9_3) = true := decide_eq_true c42
             clear c42
             by_cases c43 : (rd t424 x9_3) = (-1)
             ·rw [if_pos c43] at H
              have c43b0 : ((rd t424 x9_3) == (-1)) = true := beq_iff_eq.mpr c43
              have c43b1 : ((rd t424 x9_3) != (-1)) = false := bne_eq_false_iff_eq.mpr c43
              clear c43
              have H' := Aside0.mk H
              clear H
              obtain ⟨b0, b1, eo44⟩ := Kd.R_slice a2.out
              subst eo44
              have p429 : 0 ≤ (x9_3 : Int) := of_decide_eq_true (by first | (with_reducible assumption) | assumption)
              have q429 : x9_3 < (t424.length : Int) := of_decide_eq_true (by first | (with_reducible assumption) | assumption)
              obtain ⟨ad429, e429, hx429_0⟩ := Kd.at_int (Kd.R_reads' a2.out).2.2 x9_3 p429 q429
              cases e429
              replace p429 := eq_true p429
              replace q429 := eq_true q429
              go_wp2
              go_roundg k3
              case measure => have := HJ2.out; have := HK2.out; have := HK3.out; omega
              case rel => exact ⟨(wrap64 (x9_3 + 1)), (by first | rfl | (simp; done) | (simp [*]; done)), H', ⟨by have := HJ2.out; have := HK2.out; have := HK3.out; omega⟩, ⟨by (with_reducible repeat first | apply rA_ | apply rN_ | apply rD_); exact a2.out⟩, ⟨by (with_reducible repeat first | apply bN_ | apply bD_ | apply bA_); exact a0.out⟩, ⟨by repeat (first | (with_reducible first | exact HB.out | apply lA1_ | apply lN_ | apply lD_ | refine lS1_ ?_ a1.out) | exact HB.out)⟩⟩
             ·rw [if_neg c43] at H
              have c43b0 : ((rd t424 x9_3) == (-1)) = false := beq_eq_false_iff_ne.mpr c43
              have c43b1 : ((rd t424 x9_3) != (-1)) = true := bne_iff_ne.mpr c43
              obtain rfl := Option.some.inj H
              obtain ⟨b2, b3, eo45⟩ := Kd.R_slice a2.out
              subst eo45
              have p429 : 0 ≤ (x9_3 : Int) := of_decide_eq_true (by first | (with_reducible assumption) | assumption)
              have q429 : x9_3 < (t424.length : Int) := of_decide_eq_true (by first | (with_reducible assumption) | assumption)
              obtain ⟨ad429, e429, hx429_0⟩ := Kd.at_int (Kd.R_reads' a2.out).2.2 x9_3 p429 q429
              cases e429
              replace p429 := eq_true p429
              replace q429 := eq_true q429
              go_wp2
              go_ret
              exact ⟨by first | rfl | (simp [errW_none, errW_some] <;> rfl) | (simp [*, errW_none, errW_some] <;> rfl), by repeat (first | (with_reducible first | exact HB.out | apply lA1_ | apply lN_ | apply lD_ | refine lS1_ ?_ a1.out) | exact HB.out)⟩
            ·rw [if_neg c42] at H
             exact absurd H (by simp)
           ·rw [if_neg c41] at H
            have c41b0 : decide (x9_3 < (t424.length : Int)) = false := decide_eq_false c41
            clear c41
            by_cases c46 : 0 ≤ a1_7
            ·rw [if_pos c46] at H
             have c46b0 : decide (0 ≤ a1_7) = true := decide_eq_true c46
             clear c46
             by_cases c47 : a1_7 < (l0.length : Int)
             ·rw [if_pos c47] at H
              have c47b0 : decide (a1_7 < (l0.length : Int)) = true := decide_eq_true c47
              clear c47
              by_cases c48 : ((rd_T68 l0 a1_7).f0) = 2
              ·rw [if_pos c48] at H
               have c48b0 : (((rd_T68 l0 a1_7).f0) == 2) = true := beq_iff_eq.mpr c48
               have c48b1 : (((rd_T68 l0 a1_7).f0) != 2) = false := bne_eq_false_iff_eq.mpr c48
               clear c48
               by_cases c49 : a1_2 > 1
               ·rw [if_pos c49] at H
                have c49b0 : decide (1 < a1_2) = true := decide_eq_true c49
                clear c49
                by_cases c50 : 0 ≤ a1_8
                ·rw [if_pos c50] at H
                 have c50b0 : decide (0 ≤ a1_8) = true := decide_eq_true c50
                 clear c50
                 by_cases c51 : a1_8 < (l0.length : Int)
                 ·rw [if_pos c51] at H
                  have c51b0 : decide (a1_8 < (l0.length : Int)) = true := decide_eq_true c51
                  clear c51
                  by_cases c52 : ((rd_T68 l0 a1_8).f0) = 6
                  ·rw [if_pos c52] at H
                   have c52b0 : (((rd_T68 l0 a1_8).f0) == 6) = true := beq_iff_eq.mpr c52
                   have c52b1 : (((rd_T68 l0 a1_8).f0) != 6) = false := bne_eq_false_iff_eq.mpr c52
                   clear c52
                   obtain rfl := Option.some.inj H
                   obtain ⟨b4, b5, eo53⟩ := Kd.R_slice a2.out
                   subst eo53
                   obtain ⟨_, _, _, _, _, _, _, _, _, _, _, _, _, _, _, _, _, _, _, _, _, _, _, _, _, _, _, _, _, _, _, _, _, _, _, _, _, _, _, _⟩ := bc20 a0.out
                   have p430 : 0 ≤ (a1_7 : Int) := of_decide_eq_true (by first | (with_reducible assumption) | assumption)
                   have q430 : a1_7 < (l0.length : Int) := of_decide_eq_true (by first | (with_reducible assumption) | assumption)
                   obtain ⟨ad430, e430, hx430_0, hx430_1, hx430_2, hx430_3⟩ := at_T68 a5.out a1_7 p430 q430
                   cases e430
                   replace hx430_0 := (HB.out.cell (World.block_lt_of_cell? w _ hx430_0)).trans hx430_0
                   replace hx430_1 := (HB.out.cell (World.block_lt_of_cell? w _ hx430_1)).trans hx430_1
                   replace hx430_2 := (HB.out.cell (World.block_lt_of_cell? w _ hx430_2)).trans hx430_2
                   replace hx430_3 := (HB.out.cell (World.block_lt_of_cell? w _ hx430_3)).trans hx430_3
                   replace p430 := eq_true p430
                   replace q430 := eq_true q430
                   have p431 : 0 ≤ (a1_8 : Int) := of_decide_eq_true (by first | (with_reducible assumption) | assumption)
                   have q431 : a1_8 < (l0.length : Int) := of_decide_eq_true (by first | (with_reducible assumption) | assumption)
                   obtain ⟨ad431, e431, hx431_0, hx431_1, hx431_2, hx431_3⟩ := at_T68 a5.out a1_8 p431 q431
                   obtain rfl : ad430 = ad431 := (by injection e431)
                   replace hx431_0 := (HB.out.cell (World.block_lt_of_cell? w _ hx431_0)).trans hx431_0
                   replace hx431_1 := (HB.out.cell (World.block_lt_of_cell? w _ hx431_1)).trans hx431_1
                   replace hx431_2 := (HB.out.cell (World.block_lt_of_cell? w _ hx431_2)).trans hx431_2
                   replace hx431_3 := (HB.out.cell (World.block_lt_of_cell? w _ hx431_3)).trans hx431_3
                   replace p431 := eq_true p431
                   replace q431 := eq_true q431
                   go_wp2
                   go_ret
                   exact ⟨by first | rfl | (simp [errW_none, errW_some] <;> rfl) | (simp [*, errW_none, errW_some] <;> rfl), by repeat (first | (with_reducible first | exact HB.out | apply lA1_ | apply lN_ | apply lD_ | refine lS1_ ?_ a1.out) | exact HB.out)⟩
                  ·rw [if_neg c52] at H
                   have c52b0 : (((rd_T68 l0 a1_8).f0) == 6) = false := beq_eq_false_iff_ne.mpr c52
                   have c52b1 : (((rd_T68 l0 a1_8).f0) != 6) = true := bne_iff_ne.mpr c52
                   obtain rfl := Option.some.inj H
                   obtain ⟨b6, b7, eo55⟩ := Kd.R_slice a2.out
                   subst eo55
                   obtain ⟨_, _, _, _, _, _, _, _, _, _, _, _, _, _, _, _, _, _, _, _, _, _, _, _, _, _, _, _, _, _, _, _, _, _, _, _, _, _, _, _⟩ := bc20 a0.out
                   have p430 : 0 ≤ (a1_7 : Int) := of_decide_eq_true (by first | (with_reducible assumption) | assumption)
                   have q430 : a1_7 < (l0.length : Int) := of_decide_eq_true (by first | (with_reducible assumption) | assumption)
                   obtain ⟨ad430, e430, hx430_0, hx430_1, hx430_2, hx430_3⟩ := at_T68 a5.out a1_7 p430 q430
                   cases e430
                   replace hx430_0 := (HB.out.cell (World.block_lt_of_cell? w _ hx430_0)).trans hx430_0
                   replace hx430_1 := (HB.out.cell (World.block_lt_of_cell? w _ hx430_1)).trans hx430_1
                   replace hx430_2 := (HB.out.cell (World.block_lt_of_cell? w _ hx430_2)).trans hx430_2
                   replace hx430_3 := (HB.out.cell (World.block_lt_of_cell? w _ hx430_3)).trans hx430_3
                   replace p430 := eq_true p430
                   replace q430 := eq_true q430
                   have p431 : 0 ≤ (a1_8 : Int) := of_decide_eq_true (by first | (with_reducible assumption) | assumption)
                   have q431 : a1_8 < (l0.length : Int) := of_decide_eq_true (by first | (with_reducible assumption) | assumption)
                   obtain ⟨ad431, e431, hx431_0, hx431_1, hx431_2, hx431_3⟩ := at_T68 a5.out a1_8 p431 q431
                   obtain rfl : ad430 = ad431 := (by injection e431)
                   replace hx431_0 := (HB.out.cell (World.block_lt_of_cell? w _ hx431_0)).trans hx431_0
                   replace hx431_1 := (HB.out.cell (World.block_lt_of_cell? w _ hx431_1)).trans hx431_1
                   replace hx431_2 := (HB.out.cell (World.block_lt_of_cell? w _ hx431_2)).trans hx431_2
                   replace hx431_3 := (HB.out.cell (World.block_lt_of_cell? w _ hx431_3)).trans hx431_3
                   replace p431 := eq_true p431
                   replace q431 := eq_true q431
                   go_wp2
                   go_ret
                   exact ⟨by first | rfl | (simp [errW_none, errW_some] <;> rfl) | (simp [*, errW_none, errW_some] <;> rfl), by repeat (first | (with_reducible first | exact HB.out | apply lA1_ | apply lN_ | apply lD_ | refine lS1_ ?_ a1.out) | exact HB.out)⟩
                 ·rw [if_neg c51] at H
                  exact absurd H (by simp)
                ·rw [if_neg c50] at H
                 exact absurd H (by simp)
               ·rw [if_neg c49] at H
                have c49b0 : decide (1 < a1_2) = false := decide_eq_false c49
                clear c49
                obtain rfl := Option.some.inj H
                obtain ⟨b8, b9, eo57⟩ := Kd.R_slice a2.out
                subst eo57
                obtain ⟨_, _, _, _, _, _, _, _, _, _, _, _, _, _, _, _, _, _, _, _, _, _, _, _, _, _, _, _, _, _, _, _, _, _, _, _, _, _, _, _⟩ := bc20 a0.out
                have p430 : 0 ≤ (a1_7 : Int) := of_decide_eq_true (by first | (with_reducible assumption) | assumption)
                have q430 : a1_7 < (l0.length : Int) := of_decide_eq_true (by first | (with_reducible assumption) | assumption)
                obtain ⟨ad430, e430, hx430_0, hx430_1, hx430_2, hx430_3⟩ := at_T68 a5.out a1_7 p430 q430
                cases e430
                replace hx430_0 := (HB.out.cell (World.block_lt_of_cell? w _ hx430_0)).trans hx430_0
                replace hx430_1 := (HB.out.cell (World.block_lt_of_cell? w _ hx430_1)).trans hx430_1
                replace hx430_2 := (HB.out.cell (World.block_lt_of_cell? w _ hx430_2)).trans hx430_2
                replace hx430_3 := (HB.out.cell (World.block_lt_of_cell? w _ hx430_3)).trans hx430_3
                replace p430 := eq_true p430
                replace q430 := eq_true q430
                go_wp2
                go_ret
                exact ⟨by first | rfl | (simp [errW_none, errW_some] <;> rfl) | (simp [*, errW_none, errW_some] <;> rfl), by repeat (first | (with_reducible first | exact HB.out | apply lA1_ | apply lN_ | apply lD_ | refine lS1_ ?_ a1.out) | exact HB.out)⟩
              ·rw [if_neg c48] at H
               have c48b0 : (((rd_T68 l0 a1_7).f0) == 2) = false := beq_eq_false_iff_ne.mpr c48
               have c48b1 : (((rd_T68 l0 a1_7).f0) != 2) = true := bne_iff_ne.mpr c48
               obtain rfl := Option.some.inj H
               obtain ⟨ba, bb, eo59⟩ := Kd.R_slice a2.out
               subst eo59
               obtain ⟨_, _, _, _, _, _, _, _, _, _, _, _, _, _, _, _, _, _, _, _, _, _, _, _, _, _, _, _, _, _, _, _, _, _, _, _, _, _, _, _⟩ := bc20 a0.out
               have p430 : 0 ≤ (a1_7 : Int) := of_decide_eq_true (by first | (with_reducible assumption) | assumption)
               have q430 : a1_7 < (l0.length : Int) := of_decide_eq_true (by first | (with_reducible assumption) | assumption)
               obtain ⟨ad430, e430, hx430_0, hx430_1, hx430_2, hx430_3⟩ := at_T68 a5.out a1_7 p430 q430
               cases e430
               replace hx430_0 := (HB.out.cell (World.block_lt_of_cell? w _ hx430_0)).trans hx430_0
               replace hx430_1 := (HB.out.cell (World.block_lt_of_cell? w _ hx430_1)).trans hx430_1
               replace hx430_2 := (HB.out.cell (World.block_lt_of_cell? w _ hx430_2)).trans hx430_2
               replace hx430_3 := (HB.out.cell (World.block_lt_of_cell? w _ hx430_3)).trans hx430_3
               replace p430 := eq_true p430
               replace q430 := eq_true q430
               go_wp2
               go_ret
               exact ⟨by first | rfl | (simp [errW_none, errW_some] <;> rfl) | (simp [*, errW_none, errW_some] <;> rfl), by repeat (first | (with_reducible first | exact HB.out | apply lA1_ | apply lN_ | apply lD_ | refine lS1_ ?_ a1.out) | exact HB.out)⟩
             ·rw [if_neg c47] at H
              exact absurd H (by simp)
            ·rw [if_neg c46] at H
             exact absurd H (by simp)
     ·replace c26 := Bool.eq_false_iff.mpr c26
      subst c26
      rw [if_neg (show ¬ (false = true) by decide)] at H
      obtain rfl := Option.some.inj H
      obtain ⟨_, _, _, _, _, _, _, _, _, _, _, _, _, _, _, _, _, _, _, _, _, _, _, _, _, _, _, _, _, _, _, _, _, _, _, _, _, _, _, _⟩ := bc20 a0.out
      go_wp2_with (first | ((with_reducible refine gate_load_ (t := 58) rfl ?_); refine load_row_ (by rfl) (by rfl) (by rfl) (rowAt_block (t := 58) (cs := [.int .i64 a1_0, .int .i64 a1_1, .int .i64 a1_2, .int .i64 a1_3, .int .i64 a1_4, .int .i64 a1_5, .int .i64 a1_6, .int .i64 a1_7, .int .i64 a1_8, .int .i64 a1_9, .int .i64 a1_10, .int .i64 a1_11, .int .i64 a1_12, .int .i64 a1_13, .int .i64 a1_14, .int .i64 a1_15, .int .i64 a1_16, .int .i64 a1_17, .int .i64 a1_18, .int .i64 a1_19]) (by (with_reducible repeat first | apply bN_ | apply bD_ | apply bA_); exact a0.out)) Try.underlying58 rfl size58_ ?_) | ((with_reducible refine gate_callee (f := 64) rfl ?_); refine goesA_ (some 46) rfl rfl Try.func64 (by kernel_rfl) rfl #[.agg #[.int .i64 a1_18, .int .i64 a1_19]] rfl ?_; (with_reducible refine (spec_WindowFault.calls kj2 a1_18 a1_19 t419 _ ac.out).mono ?_); rintro e w62 ⟨rfl, hb⟩; refine ⟨_, rfl, ?_⟩; have n0_ := Aside0.mk (bB_ (g := a3) (o := .cells #[.int .i64 a1_0, .int .i64 a1_1, .int .i64 a1_2, .int .i64 a1_3, .int .i64 a1_4, .int .i64 a1_5, .int .i64 a1_6, .int .i64 a1_7, .int .i64 a1_8, .int .i64 a1_9, .int .i64 a1_10, .int .i64 a1_11, .int .i64 a1_12, .int .i64 a1_13, .int .i64 a1_14, .int .i64 a1_15, .int .i64 a1_16, .int .i64 a1_17, .int .i64 a1_18, .int .i64 a1_19] 58 (0, 0)) (by (with_reducible repeat first | apply bN_ | apply bD_ | apply bA_); exact a0.out) hb); have n1_ := Aside0.mk (lP_ (by repeat (first | (with_reducible first | exact HB.out | apply lA1_ | apply lN_ | apply lD_ | refine lS1_ ?_ a1.out) | exact HB.out)) hb); clear a0 HB; have a0 := n0_; have HB := n1_; clear n0_ n1_; (try clear hb); (try clear hb2); (try clear hk); (try clear hi); obtain ⟨_, _, _, _, _, _, _, _, _, _, _, _, _, _, _, _, _, _, _, _, _, _, _, _, _, _, _, _, _, _, _, _, _, _, _, _, _, _, _, _⟩ := bc20 a0.out) | ((with_reducible refine gate_callee (f := 65) rfl ?_); refine goesA_ (some 51) rfl rfl Try.func65 (by kernel_rfl) rfl #[.agg #[.int .i64 a1_0, .int .i64 a1_1, .int .i64 a1_2, .int .i64 a1_3, .int .i64 a1_4, .int .i64 a1_5, .int .i64 a1_6, .int .i64 a1_7, .int .i64 a1_8, .int .i64 a1_9, .int .i64 a1_10, .int .i64 a1_11, .int .i64 a1_12, .int .i64 a1_13, .int .i64 a1_14, .int .i64 a1_15, .int .i64 a1_16, .int .i64 a1_17, .int .i64 a1_18, .int .i64 a1_19]] rfl ?_; (with_reducible refine (spec_l11Shape.calls kj2 a1_0 a1_1 a1_2 a1_3 a1_4 a1_5 a1_6 a1_7 a1_8 a1_9 a1_10 a1_11 a1_12 a1_13 a1_14 a1_15 a1_16 a1_17 a1_18 a1_19 false _ an.out).mono ?_); rintro e w64 ⟨rfl, hb⟩; refine ⟨_, rfl, ?_⟩; have n1_ := Aside0.mk (lP_ (by repeat (first | (with_reducible first | exact HB.out | refine lS1_ ?_ a1.out) | exact HB.out)) hb); clear HB; have HB := n1_; clear n1_; (try clear hb); (try clear hb2); (try clear hk); (try clear hi)))
      go_ret
      exact ⟨by first | rfl | (simp [errW_none, errW_some] <;> rfl) | (simp [*, errW_none, errW_some] <;> rfl), by repeat (first | (with_reducible first | exact HB.out | apply lA1_ | apply lN_ | apply lD_ | refine lS1_ ?_ a1.out) | exact HB.out)⟩
    ·rw [if_neg c24] at H
     have c24b0 : (t419 == 0) = false := beq_eq_false_iff_ne.mpr c24
     have c24b1 : (t419 != 0) = true := bne_iff_ne.mpr c24
     obtain rfl := Option.some.inj H
     obtain ⟨_, _, _, _, _, _, _, _, _, _, _, _, _, _, _, _, _, _, _, _, _, _, _, _, _, _, _, _, _, _, _, _, _, _, _, _, _, _, _, _⟩ := bc20 a0.out
     go_wp2_with (first | ((with_reducible refine gate_load_ (t := 58) rfl ?_); refine load_row_ (by rfl) (by rfl) (by rfl) (rowAt_block (t := 58) (cs := [.int .i64 a1_0, .int .i64 a1_1, .int .i64 a1_2, .int .i64 a1_3, .int .i64 a1_4, .int .i64 a1_5, .int .i64 a1_6, .int .i64 a1_7, .int .i64 a1_8, .int .i64 a1_9, .int .i64 a1_10, .int .i64 a1_11, .int .i64 a1_12, .int .i64 a1_13, .int .i64 a1_14, .int .i64 a1_15, .int .i64 a1_16, .int .i64 a1_17, .int .i64 a1_18, .int .i64 a1_19]) (by (with_reducible repeat first | apply bN_ | apply bD_ | apply bA_); exact a0.out)) Try.underlying58 rfl size58_ ?_) | ((with_reducible refine gate_callee (f := 64) rfl ?_); refine goesA_ (some 46) rfl rfl Try.func64 (by kernel_rfl) rfl #[.agg #[.int .i64 a1_18, .int .i64 a1_19]] rfl ?_; (with_reducible refine (spec_WindowFault.calls kj2 a1_18 a1_19 t419 _ ac.out).mono ?_); rintro e w66 ⟨rfl, hb⟩; refine ⟨_, rfl, ?_⟩; have n1_ := Aside0.mk (lP_ (by repeat (first | (with_reducible first | exact HB.out | apply lA1_ | apply lN_ | apply lD_ | refine lS1_ ?_ a1.out) | exact HB.out)) hb); clear HB; have HB := n1_; clear n1_; (try clear hb); (try clear hb2); (try clear hk); (try clear hi)))
     go_ret
     exact ⟨by first | rfl | (simp [errW_none, errW_some] <;> rfl) | (simp [*, errW_none, errW_some] <;> rfl), by repeat (first | (with_reducible first | exact HB.out | apply lA1_ | apply lN_ | apply lD_ | refine lS1_ ?_ a1.out) | exact HB.out)⟩
end Go.Proofs.Ytaniedjfkiklmaa.G
