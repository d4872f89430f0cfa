/- Part 4 of the proof of FnExactGateFault: what the functions on its road do, and the plain laws. -/
import Derived.Test.YtaniedjfkiklmaaCFnExactGateFault3
import Derived.Shelf.Abstract
import Derived.Maps.OwnOps
import Derived.DeepKeys4
import Derived.Maps.Views
namespace Go.Proofs.Ytaniedjfkiklmaa.G
open Go.RowKit Go.Proofs.YtaniedjfkiklmaaW.PrintWords Go.Proofs.YtaniedjfkiklmaaW.PrintLast Go.Proofs.YtaniedjfkiklmaaW.PrintMore
attribute [local go_sem] max2_int min2_int max_two min_two max_three min_three max_four min_four   -- for this text's walks alone
set_option linter.unusedVariables false
set_option linter.unusedSimpArgs false
mutual
def spec_l11Gate.j0 : Nat → List (S68) → Bool → Int → Int → List (S58) → Option (Int)
 | 0, _, _, _, _, _ => none
 | k + 1, x0, x16, x433000, x433001, x433002 => if x16 = true then (some 3) else (if (x433002.length : Int) > 12 then (some 2) else (spec_l11Gate.l0 k x0 0 x433000 x433001 x433002))
def spec_l11Gate.l0 : Nat → List (S68) → Int → Int → Int → List (S58) → Option (Int)
 | 0, _, _, _, _, _ => none
 | k + 1, x0, x5, x433000, x433001, x433002 => if x5 < (x433002.length : Int) then (if 0 ≤ x5 then ((spec_l11Talk.f k x0 ((rd_T58 x433002 x5).f0) ((rd_T58 x433002 x5).f1) ((rd_T58 x433002 x5).f2) ((rd_T58 x433002 x5).f3) ((rd_T58 x433002 x5).f4) ((rd_T58 x433002 x5).f5) ((rd_T58 x433002 x5).f6) ((rd_T58 x433002 x5).f7) ((rd_T58 x433002 x5).f8) ((rd_T58 x433002 x5).f9) ((rd_T58 x433002 x5).f10) ((rd_T58 x433002 x5).f11.f0) ((rd_T58 x433002 x5).f11.f1) ((rd_T58 x433002 x5).f11.f2) ((rd_T58 x433002 x5).f11.f3) ((rd_T58 x433002 x5).f12) ((rd_T58 x433002 x5).f13) ((rd_T58 x433002 x5).f14) ((rd_T58 x433002 x5).f15.f0) ((rd_T58 x433002 x5).f15.f1)).bind fun t436 => (if t436 = 0 then (spec_l11Gate.l0 k x0 (wrap64 (x5 + 1)) x433000 x433001 x433002) else (some t436))) else (none)) else (some 0)
end
def spec_l11Gate.f (k : Nat) (l0 : List (S68)) (a1_0 : Int) (a1_1 : Int) (l1_2 : List (S58)) : Option (Int) := (spec_l1In.f a1_0 1 9).bind fun t433 => (if t433 = true then ((spec_l1In.f a1_1 0 90).bind fun t434 => (spec_l11Gate.j0 k l0 (!t434) a1_0 a1_1 l1_2)) else (spec_l11Gate.j0 k l0 true a1_0 a1_1 l1_2))
set_option maxHeartbeats 8000000 in
set_option maxRecDepth 100000 in
theorem spec_l11Gate.calls (k : Nat) (A0 : Option Addr) (c0 : Nat) (l0 : List (S68)) (a1_0 : Int) (a1_1 : Int) (A1_2 : Option Addr) (c1_2 : Nat) (l1_2 : List (S58)) (r : Int) (w : World) (hr0 : Kd.C k68 w A0 l0.length l0) (hc0 : l0.length ≤ c0) (hr1_2 : Kd.C k58 w A1_2 l1_2.length l1_2) (hc1_2 : l1_2.length ≤ c1_2) (h : spec_l11Gate.f k l0 a1_0 a1_1 l1_2 = some r) :
  Calls Try.prog 38 #[.slice A0 l0.length c0, .agg #[.int .i64 a1_0, .int .i64 a1_1, .slice A1_2 l1_2.length c1_2]] w fun e w' => e = .returned (.int .i64 r) ∧ Below w.heap.size w w' := by
 have hu32 := Try.underlying32
 have hu58 := Try.underlying58
 have a5 := Aside0.mk hr0
 have a6 := Aside0.mk hc0
 clear hr0 hc0
 have HR1_2 := Aside0.mk hr1_2
 have HC1_2 := Aside0.mk hc1_2
 clear hr1_2 hc1_2
 have HB := Aside0.mk (Below.refl w.heap.size w)
 have H : ((spec_l1In.f a1_0 1 9).bind fun t433 => (if t433 = true then ((spec_l1In.f a1_1 0 90).bind fun t434 => (spec_l11Gate.j0 k l0 (!t434) a1_0 a1_1 l1_2)) else (spec_l11Gate.j0 k l0 true a1_0 a1_1 l1_2))) = some r := h
 clear h
 have a3 := Aside0.mk H
 clear H
 go_enter Try.func38, Try.ntmps38
 go_upto_region 1 with (first | ((with_reducible refine gate_dst (N := 3) rfl ?_); refine box_event ?hg (N := 3) ?hd (cs := #[.int .i64 a1_0, .int .i64 a1_1, .slice A1_2 l1_2.length c1_2]) (t := 32) ?hr ?_; (case hd => rfl); (case hg => rfl); (case hr => first | (go_simp; done) | (go_simp; rfl)); intro a2 hg w4 hbox hb; have n0_ := Aside0.mk (lP_ (by repeat (first | (with_reducible first | exact HB.out | apply lA1_ | apply lN_ | apply lD_) | exact HB.out)) hb); have n1_ := Aside0.mk (hbox); have n2_ := Aside0.mk ((by rw [hg]; exact (below_size (by repeat (first | (with_reducible first | exact HB.out | apply lA1_ | apply lN_ | apply lD_) | exact HB.out))) : w.heap.size ≤ a2)); have n3_ := Aside0.mk ((by rw [hg]; exact (below_size (by repeat (first | (with_reducible first | exact HB.out | apply lA1_ | apply lN_ | apply lD_) | exact HB.out))) : w.heap.size ≤ a2)); clear HB; have HB := n0_; have a0 := n1_; have aa := n2_; have a1 := n3_; clear n0_ n1_ n2_ n3_ hb hbox hg))
 (try simp only [Act.put, lA_, lZ_, lS_])
 go_cut [16] (fun v16 wc => ∃ (kq : Nat) (x16_2 : Bool), v16 = .bool x16_2 ∧ Aside0 (spec_l11Gate.j0 kq l0 x16_2 a1_0 a1_1 l1_2 = some r) ∧ Aside0 (kq ≤ k) ∧ Aside0 (wc.heap[a2]? = some (.cells #[.int .i64 a1_0, .int .i64 a1_1, (.slice A1_2 l1_2.length c1_2)] 32 (0, 0))) ∧ Aside0 (Below w.heap.size w wc))
 case first =>
  have H := a3.out
  clear a3
  replace H := Option.bind_eq_some_iff.mp H
  obtain ⟨t433, a7, H⟩ := H
  try dsimp only at H
  have A5 := Aside0.mk a7
  clear a7
  by_cases c6 : t433 = true
  ·subst c6
   rw [if_pos rfl] at H
   replace H := Option.bind_eq_some_iff.mp H
   obtain ⟨t434, a8, H⟩ := H
   try dsimp only at H
   have A7 := Aside0.mk a8
   clear a8
   have H' := Aside0.mk H
   clear H
   obtain ⟨_, _, _, _, _, _⟩ := bc3 a0.out
   go_wp2_with (first | ((with_reducible refine gate_callee (f := 32) rfl ?_); refine goesA_ (some 9) rfl rfl Try.func32 (by kernel_rfl) rfl #[.int .i64 a1_0, .int .i64 1, .int .i64 9] rfl ?_; (with_reducible refine (spec_l1In.calls a1_0 1 9 true _ A5.out).mono ?_); rintro e w' ⟨rfl, ⟨nd, rfl⟩⟩; refine ⟨_, rfl, ?_⟩) | (go_at_call 32; (with_reducible refine (spec_l1In.calls a1_1 0 90 t434 _ A7.out).mono ?_); rintro e w' ⟨rfl, ⟨nd, rfl⟩⟩))
   go_meet
   case rel => exact ⟨_, (!t434), (by first | rfl | (simp; done) | (simp [*]; done)), H', ⟨by first | omega | exact Nat.le_refl _⟩, ⟨by (with_reducible repeat first | apply bN_ | apply bD_ | apply bA_); exact a0.out⟩, ⟨by repeat (first | (with_reducible first | exact HB.out | apply lA1_ | apply lN_ | apply lD_ | refine lS1_ ?_ a1.out) | exact HB.out)⟩⟩
  ·replace c6 := Bool.eq_false_iff.mpr c6
   subst c6
   rw [if_neg (show ¬ (false = true) by decide)] at H
   have H' := Aside0.mk H
   clear H
   obtain ⟨_, _, _, _, _, _⟩ := bc3 a0.out
   go_wp2_with (first | ((with_reducible refine gate_callee (f := 32) rfl ?_); refine goesA_ (some 9) rfl rfl Try.func32 (by kernel_rfl) rfl #[.int .i64 a1_0, .int .i64 1, .int .i64 9] rfl ?_; (with_reducible refine (spec_l1In.calls a1_0 1 9 false _ A5.out).mono ?_); rintro e w' ⟨rfl, ⟨nd, rfl⟩⟩; refine ⟨_, rfl, ?_⟩))
   go_meet
   case rel => exact ⟨_, (true), (by first | rfl | (simp; done) | (simp [*]; done)), H', ⟨by first | omega | exact Nat.le_refl _⟩, ⟨by (with_reducible repeat first | apply bN_ | apply bD_ | apply bA_); exact a0.out⟩, ⟨by repeat (first | (with_reducible first | exact HB.out | apply lA1_ | apply lN_ | apply lD_ | refine lS1_ ?_ a1.out) | exact HB.out)⟩⟩
 case rest =>
  clear a3
  try clear c1
  try clear p2
  try clear c3
  try clear c6
  try clear hcz8_0
  try clear hcz8_1
  try clear hcz8_2
  try clear hcz9_0
  try clear hcz9_1
  try clear hcz9_2
  try clear hfz8_0
  try clear hfz8_1
  try clear hfz8_2
  try clear hfz9_0
  try clear hfz9_1
  try clear hfz9_2
  obtain ⟨kq, x16_2, rfl, HA, HJ2, a0, HB⟩ := hcut
  cases kq with
  | zero => exact absurd HA.out (by simp [spec_l11Gate.j0])
  | succ kj2 =>
   have H := HA.out
   clear HA
   simp only [spec_l11Gate.j0] at H
   by_cases c10 : x16_2 = true
   ·subst c10
    rw [if_pos rfl] at H
    obtain rfl := Option.some.inj H
    go_wp2
    go_ret
    exact ⟨by first | rfl | (simp [errW_none, errW_some] <;> rfl) | (simp [*, errW_none, errW_some] <;> rfl), by repeat (first | (with_reducible first | exact HB.out | apply lA1_ | apply lN_ | apply lD_ | refine lS1_ ?_ a1.out) | exact HB.out)⟩
   ·replace c10 := Bool.eq_false_iff.mpr c10
    subst c10
    rw [if_neg (show ¬ (false = true) by decide)] at H
    by_cases c11 : (l1_2.length : Int) > 12
    ·rw [if_pos c11] at H
     have c11b0 : decide (12 < (l1_2.length : Int)) = true := decide_eq_true c11
     have c11b1 : decide (12 < l1_2.length) = true := decide_eq_true (by omega)
     clear c11
     obtain rfl := Option.some.inj H
     obtain ⟨_, _, _, _, _, _⟩ := bc3 a0.out
     go_wp2
     go_ret
     exact ⟨by first | rfl | (simp [errW_none, errW_some] <;> rfl) | (simp [*, errW_none, errW_some] <;> rfl), by repeat (first | (with_reducible first | exact HB.out | apply lA1_ | apply lN_ | apply lD_ | refine lS1_ ?_ a1.out) | exact HB.out)⟩
    ·rw [if_neg c11] at H
     have c11b0 : decide (12 < (l1_2.length : Int)) = false := decide_eq_false c11
     have c11b1 : decide (12 < l1_2.length) = false := decide_eq_false (by omega)
     clear c11
     have H' := Aside0.mk H
     clear H
     obtain ⟨_, _, _, _, _, _⟩ := bc3 a0.out
     go_wp2
     go_loopg [5] kj2 (fun kq v5 w' => ∃ (x5_2 : Int), v5 = .int .i64 x5_2 ∧ Aside0 (spec_l11Gate.l0 kq l0 x5_2 a1_0 a1_1 l1_2 = some r) ∧ Aside0 (kq ≤ kj2) ∧ Aside0 (w'.heap[a2]? = some (.cells #[.int .i64 a1_0, .int .i64 a1_1, (.slice A1_2 l1_2.length c1_2)] 32 (0, 0))) ∧ Aside0 (Below w.heap.size w w'))
     case atStart => exact ⟨(0), (by first | rfl | (simp; done) | (simp [*]; done)), H', ⟨Nat.le_refl _⟩, ⟨by (with_reducible repeat first | apply bN_ | apply bD_ | apply bA_); exact a0.out⟩, ⟨by repeat (first | (with_reducible first | exact HB.out | apply lA1_ | apply lN_ | apply lD_ | refine lS1_ ?_ a1.out) | exact HB.out)⟩⟩
     case round =>
      clear H'
      try clear c1
      try clear p2
      try clear c3
      try clear c6
      try clear c10
      try clear c11
      try clear c11b0
      try clear c11b1
      try clear hcz12_0
      try clear hcz12_1
      try clear hcz12_2
      try clear hcz13_0
      try clear hcz13_1
      try clear hcz13_2
      try clear hcz8_0
      try clear hcz8_1
      try clear hcz8_2
      try clear hcz9_0
      try clear hcz9_1
      try clear hcz9_2
      try clear hfz12_0
      try clear hfz12_1
      try clear hfz12_2
      try clear hfz13_0
      try clear hfz13_1
      try clear hfz13_2
      try clear hfz8_0
      try clear hfz8_1
      try clear hfz8_2
      try clear hfz9_0
      try clear hfz9_1
      try clear hfz9_2
      try clear p2
      obtain ⟨x5_2, rfl, HA, HK2, a0, HB⟩ := hrel
      cases gk with
      | zero => exact absurd HA.out (by simp [spec_l11Gate.l0])
      | succ k2 =>
       have H := HA.out
       clear HA
       simp only [spec_l11Gate.l0] at H
       by_cases c14 : x5_2 < (l1_2.length : Int)
       ·rw [if_pos c14] at H
        have c14b0 : decide (x5_2 < (l1_2.length : Int)) = true := decide_eq_true c14
        clear c14
        by_cases c15 : 0 ≤ x5_2
        ·rw [if_pos c15] at H
         have c15b0 : decide (0 ≤ x5_2) = true := decide_eq_true c15
         clear c15
         replace H := Option.bind_eq_some_iff.mp H
         obtain ⟨t436, a4, H⟩ := H
         try dsimp only at H
         have a9 := Aside0.mk a4
         clear a4
         by_cases c17 : t436 = 0
         ·rw [if_pos c17] at H
          have c17b0 : (t436 == 0) = true := beq_iff_eq.mpr c17
          have c17b1 : (t436 != 0) = false := bne_eq_false_iff_eq.mpr c17
          clear c17
          have H' := Aside0.mk H
          clear H
          obtain ⟨_, _, _, _, _, _⟩ := bc3 a0.out
          have p435 : 0 ≤ (x5_2 : Int) := of_decide_eq_true (by first | (with_reducible assumption) | assumption)
          have q435 : x5_2 < (l1_2.length : Int) := of_decide_eq_true (by first | (with_reducible assumption) | assumption)
          obtain ⟨ad435, e435, hL435⟩ := at_L58 HR1_2.out x5_2 p435 q435
          cases e435
          replace hL435 := RowAt.below (B := 0) hL435 HB.out
          replace p435 := eq_true p435
          replace q435 := eq_true q435
          go_wp2_with (first | ((with_reducible refine gate_load_ (t := 58) rfl ?_); refine load_row_ (by rfl) (by rfl) (by rfl) hL435 Try.underlying58 rfl size58_ ?_) | ((with_reducible refine gate_callee (f := 49) rfl ?_); refine goesA_ (some 34) rfl rfl Try.func49 (by kernel_rfl) rfl #[.slice A0 l0.length c0, .agg #[.int .i64 ((rd_T58 l1_2 x5_2).f0), .int .i64 ((rd_T58 l1_2 x5_2).f1), .int .i64 ((rd_T58 l1_2 x5_2).f2), .int .i64 ((rd_T58 l1_2 x5_2).f3), .int .i64 ((rd_T58 l1_2 x5_2).f4), .int .i64 ((rd_T58 l1_2 x5_2).f5), .int .i64 ((rd_T58 l1_2 x5_2).f6), .int .i64 ((rd_T58 l1_2 x5_2).f7), .int .i64 ((rd_T58 l1_2 x5_2).f8), .int .i64 ((rd_T58 l1_2 x5_2).f9), .int .i64 ((rd_T58 l1_2 x5_2).f10), .int .i64 ((rd_T58 l1_2 x5_2).f11.f0), .int .i64 ((rd_T58 l1_2 x5_2).f11.f1), .int .i64 ((rd_T58 l1_2 x5_2).f11.f2), .int .i64 ((rd_T58 l1_2 x5_2).f11.f3), .int .i64 ((rd_T58 l1_2 x5_2).f12), .int .i64 ((rd_T58 l1_2 x5_2).f13), .int .i64 ((rd_T58 l1_2 x5_2).f14), .int .i64 ((rd_T58 l1_2 x5_2).f15.f0), .int .i64 ((rd_T58 l1_2 x5_2).f15.f1)]] rfl ?_; (with_reducible refine (spec_l11Talk.calls k2 _ _ l0 ((rd_T58 l1_2 x5_2).f0) ((rd_T58 l1_2 x5_2).f1) ((rd_T58 l1_2 x5_2).f2) ((rd_T58 l1_2 x5_2).f3) ((rd_T58 l1_2 x5_2).f4) ((rd_T58 l1_2 x5_2).f5) ((rd_T58 l1_2 x5_2).f6) ((rd_T58 l1_2 x5_2).f7) ((rd_T58 l1_2 x5_2).f8) ((rd_T58 l1_2 x5_2).f9) ((rd_T58 l1_2 x5_2).f10) ((rd_T58 l1_2 x5_2).f11.f0) ((rd_T58 l1_2 x5_2).f11.f1) ((rd_T58 l1_2 x5_2).f11.f2) ((rd_T58 l1_2 x5_2).f11.f3) ((rd_T58 l1_2 x5_2).f12) ((rd_T58 l1_2 x5_2).f13) ((rd_T58 l1_2 x5_2).f14) ((rd_T58 l1_2 x5_2).f15.f0) ((rd_T58 l1_2 x5_2).f15.f1) t436 _ ?side1 ?side2 a9.out).mono ?_); (case side1 => repeat (first | exact (Kd.C_below a5.out HB.out) | (with_reducible refine Kd.C_alloc ?_ _) | (with_reducible refine Kd.C_drewN ?_ _) | (with_reducible refine Kd.C_drew ?_))); (case side2 => exact a6.out); rintro e w19 ⟨rfl, hb⟩; refine ⟨_, rfl, ?_⟩; have n0_ := Aside0.mk (bB_ a0.out hb); have n1_ := Aside0.mk (lP_ HB.out hb); clear a0 HB; have a0 := n0_; have HB := n1_; clear n0_ n1_; (try clear hb); (try clear hb2); (try clear hk); (try clear hi)))
          go_roundg k2
          case measure => have := HJ2.out; have := HK2.out; omega
          case rel => exact ⟨(wrap64 (x5_2 + 1)), (by first | rfl | (simp; done) | (simp [*]; done)), H', ⟨by have := HJ2.out; have := HK2.out; omega⟩, ⟨by (with_reducible repeat first | apply bN_ | apply bD_ | apply bA_); exact a0.out⟩, ⟨by repeat (first | (with_reducible first | exact HB.out | apply lA1_ | apply lN_ | apply lD_ | refine lS1_ ?_ a1.out) | exact HB.out)⟩⟩
         ·rw [if_neg c17] at H
          have c17b0 : (t436 == 0) = false := beq_eq_false_iff_ne.mpr c17
          have c17b1 : (t436 != 0) = true := bne_iff_ne.mpr c17
          obtain rfl := Option.some.inj H
          obtain ⟨_, _, _, _, _, _⟩ := bc3 a0.out
          have p435 : 0 ≤ (x5_2 : Int) := of_decide_eq_true (by first | (with_reducible assumption) | assumption)
          have q435 : x5_2 < (l1_2.length : Int) := of_decide_eq_true (by first | (with_reducible assumption) | assumption)
          obtain ⟨ad435, e435, hL435⟩ := at_L58 HR1_2.out x5_2 p435 q435
          cases e435
          replace hL435 := RowAt.below (B := 0) hL435 HB.out
          replace p435 := eq_true p435
          replace q435 := eq_true q435
          go_wp2_with (first | ((with_reducible refine gate_load_ (t := 58) rfl ?_); refine load_row_ (by rfl) (by rfl) (by rfl) hL435 Try.underlying58 rfl size58_ ?_) | ((with_reducible refine gate_callee (f := 49) rfl ?_); refine goesA_ (some 34) rfl rfl Try.func49 (by kernel_rfl) rfl #[.slice A0 l0.length c0, .agg #[.int .i64 ((rd_T58 l1_2 x5_2).f0), .int .i64 ((rd_T58 l1_2 x5_2).f1), .int .i64 ((rd_T58 l1_2 x5_2).f2), .int .i64 ((rd_T58 l1_2 x5_2).f3), .int .i64 ((rd_T58 l1_2 x5_2).f4), .int .i64 ((rd_T58 l1_2 x5_2).f5), .int .i64 ((rd_T58 l1_2 x5_2).f6), .int .i64 ((rd_T58 l1_2 x5_2).f7), .int .i64 ((rd_T58 l1_2 x5_2).f8), .int .i64 ((rd_T58 l1_2 x5_2).f9), .int .i64 ((rd_T58 l1_2 x5_2).f10), .int .i64 ((rd_T58 l1_2 x5_2).f11.f0), .int .i64 ((rd_T58 l1_2 x5_2).f11.f1), .int .i64 ((rd_T58 l1_2 x5_2).f11.f2), .int .i64 ((rd_T58 l1_2 x5_2).f11.f3), .int .i64 ((rd_T58 l1_2 x5_2).f12), .int .i64 ((rd_T58 l1_2 x5_2).f13), .int .i64 ((rd_T58 l1_2 x5_2).f14), .int .i64 ((rd_T58 l1_2 x5_2).f15.f0), .int .i64 ((rd_T58 l1_2 x5_2).f15.f1)]] rfl ?_; (with_reducible refine (spec_l11Talk.calls k2 _ _ l0 ((rd_T58 l1_2 x5_2).f0) ((rd_T58 l1_2 x5_2).f1) ((rd_T58 l1_2 x5_2).f2) ((rd_T58 l1_2 x5_2).f3) ((rd_T58 l1_2 x5_2).f4) ((rd_T58 l1_2 x5_2).f5) ((rd_T58 l1_2 x5_2).f6) ((rd_T58 l1_2 x5_2).f7) ((rd_T58 l1_2 x5_2).f8) ((rd_T58 l1_2 x5_2).f9) ((rd_T58 l1_2 x5_2).f10) ((rd_T58 l1_2 x5_2).f11.f0) ((rd_T58 l1_2 x5_2).f11.f1) ((rd_T58 l1_2 x5_2).f11.f2) ((rd_T58 l1_2 x5_2).f11.f3) ((rd_T58 l1_2 x5_2).f12) ((rd_T58 l1_2 x5_2).f13) ((rd_T58 l1_2 x5_2).f14) ((rd_T58 l1_2 x5_2).f15.f0) ((rd_T58 l1_2 x5_2).f15.f1) t436 _ ?side1 ?side2 a9.out).mono ?_); (case side1 => repeat (first | exact (Kd.C_below a5.out HB.out) | (with_reducible refine Kd.C_alloc ?_ _) | (with_reducible refine Kd.C_drewN ?_ _) | (with_reducible refine Kd.C_drew ?_))); (case side2 => exact a6.out); rintro e w21 ⟨rfl, hb⟩; refine ⟨_, rfl, ?_⟩; have n1_ := Aside0.mk (lP_ (by repeat (first | (with_reducible first | exact HB.out | apply lA1_ | apply lN_ | apply lD_ | refine lS1_ ?_ a1.out) | exact HB.out)) hb); clear HB; have HB := n1_; clear n1_; (try clear hb); (try clear hb2); (try clear hk); (try clear hi)))
          go_ret
          exact ⟨by first | rfl | (simp [errW_none, errW_some] <;> rfl) | (simp [*, errW_none, errW_some] <;> rfl), by repeat (first | (with_reducible first | exact HB.out | apply lA1_ | apply lN_ | apply lD_ | refine lS1_ ?_ a1.out) | exact HB.out)⟩
        ·rw [if_neg c15] at H
         exact absurd H (by simp)
       ·rw [if_neg c14] at H
        have c14b0 : decide (x5_2 < (l1_2.length : Int)) = false := decide_eq_false c14
        clear c14
        obtain rfl := Option.some.inj H
        obtain ⟨_, _, _, _, _, _⟩ := bc3 a0.out
        go_wp2
        go_ret
        exact ⟨by first | rfl | (simp [errW_none, errW_some] <;> rfl) | (simp [*, errW_none, errW_some] <;> rfl), by repeat (first | (with_reducible first | exact HB.out | apply lA1_ | apply lN_ | apply lD_ | refine lS1_ ?_ a1.out) | exact HB.out)⟩
def spec_GateFault.f (k : Nat) (l0 : List (S68)) (a1_0 : Int) (a1_1 : Int) (l1_2 : List (S58)) : Option (Int) := (spec_TermsFault.f k l0).bind fun t438 => (if t438 = 0 then ((spec_l11Gate.f k l0 a1_0 a1_1 l1_2).bind fun t439 => (some t439)) else (some t438))
set_option maxHeartbeats 8000000 in
set_option maxRecDepth 100000 in
theorem spec_GateFault.calls (k : Nat) (A0 : Option Addr) (c0 : Nat) (l0 : List (S68)) (a1_0 : Int) (a1_1 : Int) (A1_2 : Option Addr) (c1_2 : Nat) (l1_2 : List (S58)) (r : Int) (w : World) (hr0 : Kd.C k68 w A0 l0.length l0) (hc0 : l0.length ≤ c0) (hr1_2 : Kd.C k58 w A1_2 l1_2.length l1_2) (hc1_2 : l1_2.length ≤ c1_2) (h : spec_GateFault.f k l0 a1_0 a1_1 l1_2 = some r) :
  Calls Try.prog 21 #[.slice A0 l0.length c0, .agg #[.int .i64 a1_0, .int .i64 a1_1, .slice A1_2 l1_2.length c1_2]] w fun e w' => e = .returned (.int .i64 r) ∧ Below w.heap.size w w' := by
 have hu32 := Try.underlying32
 have a3 := Aside0.mk hr0
 have a4 := Aside0.mk hc0
 clear hr0 hc0
 have HR1_2 := Aside0.mk hr1_2
 have HC1_2 := Aside0.mk hc1_2
 clear hr1_2 hc1_2
 have HB := Aside0.mk (Below.refl w.heap.size w)
 have H : ((spec_TermsFault.f k l0).bind fun t438 => (if t438 = 0 then ((spec_l11Gate.f k l0 a1_0 a1_1 l1_2).bind fun t439 => (some t439)) else (some t438))) = some r := h
 clear h
 replace H := Option.bind_eq_some_iff.mp H
 obtain ⟨t438, a5, H⟩ := H
 try dsimp only at H
 have A3 := Aside0.mk a5
 clear a5
 by_cases c4 : t438 = 0
 ·rw [if_pos c4] at H
  have c4b0 : (t438 == 0) = true := beq_iff_eq.mpr c4
  have c4b1 : (t438 != 0) = false := bne_eq_false_iff_eq.mpr c4
  clear c4
  replace H := Option.bind_eq_some_iff.mp H
  obtain ⟨t439, a6, H⟩ := H
  try dsimp only at H
  have A5 := Aside0.mk a6
  clear a6
  obtain rfl := Option.some.inj H
  go_enter Try.func21, Try.ntmps21
  go_wp2_with (first | ((with_reducible refine gate_dst (N := 3) rfl ?_); refine box_event ?hg (N := 3) ?hd (cs := #[.int .i64 a1_0, .int .i64 a1_1, .slice A1_2 l1_2.length c1_2]) (t := 32) ?hr ?_; (case hd => rfl); (case hg => rfl); (case hr => first | (go_simp; done) | (go_simp; rfl)); intro a2 hg w6 hbox hb; have n0_ := Aside0.mk (lP_ HB.out hb); have n1_ := Aside0.mk (hbox); have n3_ := Aside0.mk ((by rw [hg]; exact (below_size HB.out) : w.heap.size ≤ a2)); clear HB; have HB := n0_; have a1 := n1_; have a0 := n3_; clear n0_ n1_ n3_ hb hbox hg) | ((with_reducible refine gate_callee (f := 37) rfl ?_); refine goesA_ (some 7) rfl rfl Try.func37 (by kernel_rfl) rfl #[.slice A0 l0.length c0] rfl ?_; (with_reducible refine (spec_TermsFault.calls k _ _ l0 t438 _ ?side1 ?side2 A3.out).mono ?_); (case side1 => repeat (first | exact (Kd.C_below a3.out HB.out) | (with_reducible refine Kd.C_alloc ?_ _) | (with_reducible refine Kd.C_drewN ?_ _) | (with_reducible refine Kd.C_drew ?_))); (case side2 => exact a4.out); rintro e w7 ⟨rfl, hb⟩; refine ⟨_, rfl, ?_⟩; have n0_ := Aside0.mk (bB_ a1.out hb); have n1_ := Aside0.mk (lP_ HB.out hb); clear a1 HB; have a1 := n0_; have HB := n1_; clear n0_ n1_; (try clear hb); (try clear hb2); (try clear hk); (try clear hi); obtain ⟨_, _, _, _, _, _⟩ := bc3 a1.out) | ((with_reducible refine gate_callee (f := 38) rfl ?_); refine goesA_ (some 13) rfl rfl Try.func38 (by kernel_rfl) rfl #[.slice A0 l0.length c0, .agg #[.int .i64 a1_0, .int .i64 a1_1, .slice A1_2 l1_2.length c1_2]] rfl ?_; (with_reducible refine (spec_l11Gate.calls k _ _ l0 a1_0 a1_1 _ _ l1_2 t439 _ ?side1 ?side2 ?side3 ?side4 A5.out).mono ?_); (case side1 => repeat (first | exact (Kd.C_below a3.out HB.out) | (with_reducible refine Kd.C_alloc ?_ _) | (with_reducible refine Kd.C_drewN ?_ _) | (with_reducible refine Kd.C_drew ?_))); (case side2 => exact a4.out); (case side3 => repeat (first | exact (Kd.C_below HR1_2.out HB.out) | (with_reducible refine Kd.C_alloc ?_ _) | (with_reducible refine Kd.C_drewN ?_ _) | (with_reducible refine Kd.C_drew ?_))); (case side4 => exact HC1_2.out); rintro e w9 ⟨rfl, hb⟩; refine ⟨_, rfl, ?_⟩; have n1_ := Aside0.mk (lP_ (by repeat (first | (with_reducible first | exact HB.out | refine lS1_ ?_ a0.out) | exact HB.out)) hb); clear HB; have HB := n1_; clear n1_; (try clear hb); (try clear hb2); (try clear hk); (try clear hi)))
  go_ret
  exact ⟨by first | rfl | (simp [errW_none, errW_some] <;> rfl) | (simp [*, errW_none, errW_some] <;> rfl), by repeat (first | (with_reducible first | exact HB.out | apply lA1_ | apply lN_ | apply lD_ | refine lS1_ ?_ a0.out) | exact HB.out)⟩
 ·rw [if_neg c4] at H
  have c4b0 : (t438 == 0) = false := beq_eq_false_iff_ne.mpr c4
  have c4b1 : (t438 != 0) = true := bne_iff_ne.mpr c4
  obtain rfl := Option.some.inj H
  go_enter Try.func21, Try.ntmps21
  go_wp2_with (first | ((with_reducible refine gate_dst (N := 3) rfl ?_); refine box_event ?hg (N := 3) ?hd (cs := #[.int .i64 a1_0, .int .i64 a1_1, .slice A1_2 l1_2.length c1_2]) (t := 32) ?hr ?_; (case hd => rfl); (case hg => rfl); (case hr => first | (go_simp; done) | (go_simp; rfl)); intro a2 hg w10 hbox hb; have n0_ := Aside0.mk (lP_ (by repeat (first | (with_reducible first | exact HB.out | apply lA1_ | apply lN_ | apply lD_) | exact HB.out)) hb); have n3_ := Aside0.mk ((by rw [hg]; exact (below_size (by repeat (first | (with_reducible first | exact HB.out | apply lA1_ | apply lN_ | apply lD_) | exact HB.out))) : w.heap.size ≤ a2)); clear HB; have HB := n0_; have a0 := n3_; clear n0_ n3_ hb hbox hg) | ((with_reducible refine gate_callee (f := 37) rfl ?_); refine goesA_ (some 7) rfl rfl Try.func37 (by kernel_rfl) rfl #[.slice A0 l0.length c0] rfl ?_; (with_reducible refine (spec_TermsFault.calls k _ _ l0 t438 _ ?side1 ?side2 A3.out).mono ?_); (case side1 => repeat (first | exact (Kd.C_below a3.out HB.out) | (with_reducible refine Kd.C_alloc ?_ _) | (with_reducible refine Kd.C_drewN ?_ _) | (with_reducible refine Kd.C_drew ?_))); (case side2 => exact a4.out); rintro e w11 ⟨rfl, hb⟩; refine ⟨_, rfl, ?_⟩; have n1_ := Aside0.mk (lP_ (by repeat (first | (with_reducible first | exact HB.out | refine lS1_ ?_ a0.out) | exact HB.out)) hb); clear HB; have HB := n1_; clear n1_; (try clear hb); (try clear hb2); (try clear hk); (try clear hi)))
  go_ret
  exact ⟨by first | rfl | (simp [errW_none, errW_some] <;> rfl) | (simp [*, errW_none, errW_some] <;> rfl), by repeat (first | (with_reducible first | exact HB.out | apply lA1_ | apply lN_ | apply lD_ | refine lS1_ ?_ a0.out) | exact HB.out)⟩
def laws_toTerm.f (a0_0 : Int) (a0_1 : Int) (a0_2 : Int) (a0_3 : Int) : Option (Int × Int × Int × Int) := some (a0_0, a0_1, a0_2, a0_3)
set_option maxHeartbeats 8000000 in
set_option maxRecDepth 100000 in
theorem laws_toTerm.calls (a0_0 : Int) (a0_1 : Int) (a0_2 : Int) (a0_3 : Int) (r1 : Int) (r2 : Int) (r3 : Int) (r4 : Int) (w : World) (h : laws_toTerm.f a0_0 a0_1 a0_2 a0_3 = some (r1, r2, r3, r4)) :
  Calls Try.prog 39 #[.agg #[.int .i64 a0_0, .int .i64 a0_1, .int .i64 a0_2, .int .i64 a0_3]] w fun e w' => e = .returned (.agg #[.int .i64 r1, .int .i64 r2, .int .i64 r3, .int .i64 r4]) ∧ Below w.heap.size w w' := by
 have hu70 := Try.underlying70
 have hu68 := Try.underlying68
 have HB := Aside0.mk (Below.refl w.heap.size w)
 have H : (some (a0_0, a0_1, a0_2, a0_3)) = some (r1, r2, r3, r4) := h
 clear h
 simp only [Option.some.injEq, Prod.mk.injEq] at H
 obtain ⟨rfl, rfl, rfl, rfl⟩ := H
 go_enter Try.func39, Try.ntmps39
 go_wp2_with (first | ((with_reducible refine gate_dst (N := 1) rfl ?_); refine box_event ?hg (N := 1) ?hd (cs := #[.int .i64 a0_0, .int .i64 a0_1, .int .i64 a0_2, .int .i64 a0_3]) (t := 70) ?hr ?_; (case hd => rfl); (case hg => rfl); (case hr => first | (go_simp; done) | (go_simp; rfl)); intro gb440 hg w2 hbox hb; have n0_ := Aside0.mk (lP_ HB.out hb); have n1_ := Aside0.mk (hbox); have n3_ := Aside0.mk ((by rw [hg]; exact (below_size HB.out) : w.heap.size ≤ gb440)); clear HB; have HB := n0_; have BK440 := n1_; have GE440 := n3_; clear n0_ n1_ n3_ hb hbox hg) | ((with_reducible refine gate_dst (N := 2) rfl ?_); refine box_event ?hg (N := 2) ?hd (cs := #[.int .i64 0, .int .i64 0, .int .i64 0, .int .i64 0]) (t := 68) ?hr ?_; (case hd => rfl); (case hg => rfl); (case hr => first | (go_simp; done) | (go_simp; rfl)); intro gb441 hg w3 hbox hb; have n0_ := Aside0.mk (bB_ BK440.out hb); have n1_ := Aside0.mk (lP_ HB.out hb); have n2_ := Aside0.mk (hbox); have n4_ := Aside0.mk ((by rw [hg]; exact (below_size HB.out) : w.heap.size ≤ gb441)); have n5_ := Aside0.mk ((by rw [hg]; exact Nat.ne_of_lt (blk_lt BK440.out) : gb440 ≠ gb441)); have n6_ := Aside0.mk n5_.out.symm; clear BK440 HB; have BK440 := n0_; have HB := n1_; have BK441 := n2_; have GE441 := n4_; have NB440_441 := n5_; have NB441_440 := n6_; clear n0_ n1_ n2_ n4_ n5_ n6_ hb hbox hg) | ((with_reducible refine gate_dst (N := 3) rfl ?_); refine box_event ?hg (N := 3) ?hd (cs := #[.int .i64 0, .int .i64 0, .int .i64 0, .int .i64 0]) (t := 68) ?hr ?_; (case hd => rfl); (case hg => rfl); (case hr => first | (go_simp; done) | (go_simp; rfl)); intro gb442 hg w4 hbox hb; have n0_ := Aside0.mk (bB_ BK440.out hb); have n1_ := Aside0.mk (bB_ BK441.out hb); have n2_ := Aside0.mk (lP_ HB.out hb); have n3_ := Aside0.mk (hbox); have n5_ := Aside0.mk ((by rw [hg]; exact (below_size HB.out) : w.heap.size ≤ gb442)); have n6_ := Aside0.mk ((by rw [hg]; exact Nat.ne_of_lt (blk_lt BK440.out) : gb440 ≠ gb442)); have n7_ := Aside0.mk n6_.out.symm; have n8_ := Aside0.mk ((by rw [hg]; exact Nat.ne_of_lt (blk_lt BK441.out) : gb441 ≠ gb442)); have n9_ := Aside0.mk n8_.out.symm; clear BK440 BK441 HB; have BK440 := n0_; have BK441 := n1_; have HB := n2_; have BK442 := n3_; have GE442 := n5_; have NB440_442 := n6_; have NB442_440 := n7_; have NB441_442 := n8_; have NB442_441 := n9_; clear n0_ n1_ n2_ n3_ n5_ n6_ n7_ n8_ n9_ hb hbox hg; have hnb5 := NB440_441.out; have hnc5 := NB441_440.out; have hnb6 := NB440_442.out; have hnc6 := NB442_440.out; obtain ⟨_, _, _, _, _, _, _, _⟩ := bc4 BK440.out; have hnb8 := NB442_441.out; have hnc8 := NB441_442.out; obtain ⟨_, _, _, _, _, _, _, _⟩ := bc4 BK442.out; obtain ⟨_, _, _, _, _, _, _, _⟩ := bc4 BK441.out))
 refine bodyPost_ret (results_cell_row rfl _ _ gb441 68 #[.int .i64 a0_0, .int .i64 a0_1, .int .i64 a0_2, .int .i64 a0_3] (0, 0) _ rfl (by (with_reducible repeat first | apply bN_ | apply bD_ | apply bA_); apply fill4; (iterate 4 ((with_reducible repeat first | apply bN_ | apply bD_ | apply bA_); refine bF_ ?_ NB441_442.out _)); (with_reducible repeat first | apply bN_ | apply bD_ | apply bA_); exact BK441.out) Try.underlying68 rfl (by kernel_rfl)) rfl ?_
 exact ⟨by first | rfl | (simp [errW_none, errW_some] <;> rfl) | (simp [*, errW_none, errW_some] <;> rfl), by repeat (first | (with_reducible first | exact HB.out | apply lA1_ | apply lN_ | apply lD_ | refine lS1_ ?_ GE440.out | refine lS1_ ?_ GE441.out | refine lS1_ ?_ GE442.out) | exact HB.out)⟩
def laws_toTermS.l0 : Nat → List (S70) → List (S68) → Int → Option ((List (S68)))
 | 0, _, _, _ => none
 | k + 1, x0, x3, x4 => if x4 < (x0.length : Int) then (if 0 ≤ x4 then ((laws_toTerm.f ((rd_T70 x0 x4).f0) ((rd_T70 x0 x4).f1) ((rd_T70 x0 x4).f2) ((rd_T70 x0 x4).f3)).bind fun bt447 => (if x4 < (x3.length : Int) then (laws_toTermS.l0 k x0 (x3.set (x4 : Int).toNat (⟨bt447.1, bt447.2.1, bt447.2.2.1, bt447.2.2.2⟩ : S68)) (wrap64 (x4 + 1))) else (none))) else (none)) else (some x3)
def laws_toTermS.f (k : Nat) (l0 : List (S70)) : Option ((List (S68))) := if 0 ≤ (l0.length : Int) then (if ((l0.length : Int) : Int).toNat ≤ 8796093022208 then (laws_toTermS.l0 k l0 (List.replicate ((l0.length : Int) : Int).toNat z68) 0) else (none)) else (none)
set_option maxHeartbeats 8000000 in
set_option maxRecDepth 100000 in
theorem laws_toTermS.calls (k : Nat) (A0 : Option Addr) (c0 : Nat) (l0 : List (S70)) (r : List (S68)) (w : World) (hr0 : Kd.C k70 w A0 l0.length l0) (hc0 : l0.length ≤ c0) (h : laws_toTermS.f k l0 = some r) :
  Calls Try.prog 22 #[.slice A0 l0.length c0] w fun e w' => ∃ v0_ : Value, e = .returned (v0_) ∧ Kd.R k68 68 w' w.heap.size (fun _ => True) v0_ r ∧ Below w.heap.size w w' := by
 have hu70 := Try.underlying70
 have hu68 := Try.underlying68
 have a8 := Aside0.mk hr0
 have a9 := Aside0.mk hc0
 clear hr0 hc0
 have HB := Aside0.mk (Below.refl w.heap.size w)
 have H : (if 0 ≤ (l0.length : Int) then (if ((l0.length : Int) : Int).toNat ≤ 8796093022208 then (laws_toTermS.l0 k l0 (List.replicate ((l0.length : Int) : Int).toNat z68) 0) else (none)) else (none)) = some r := h
 clear h
 by_cases c2 : 0 ≤ (l0.length : Int)
 ·rw [if_pos c2] at H
  have c2b0 := eq_true c2
  have c2b1 : decide (0 ≤ (l0.length : Int)) = true := decide_eq_true c2
  clear c2
  by_cases c3 : ((l0.length : Int) : Int).toNat ≤ 8796093022208
  ·rw [if_pos c3] at H
   have c3b0 := eq_true c3
   have c3b1 : decide (((l0.length : Int) : Int).toNat ≤ 8796093022208) = true := decide_eq_true c3
   clear c3
   obtain ⟨y443, hy443⟩ : ∃ y_ : List (S68), y_ = (List.replicate ((l0.length : Int) : Int).toNat z68) := ⟨_, rfl⟩
   replace H : (laws_toTermS.l0 k l0 y443 0) = some r := by first | (rw [hy443]; with_reducible exact H) | (have H2_ := (Option.bind_some _ _).symm.trans H; rw [hy443]; with_reducible exact H2_) | (have H2_ := (Option.bind_some _ _).symm.trans H; with_reducible exact H2_) | with_reducible exact H | (rw [hy443]; exact H) | exact H
   have a2 := Aside0.mk hy443
   clear hy443
   have H' := Aside0.mk H
   clear H
   go_enter Try.func22, Try.ntmps22
   go_wp2_with (first | ((with_reducible refine gate_dst (N := 7) rfl ?_); refine Kd.R_make k68 _ 68 rfl (N := 7) rfl 39 _ _ rfl (l0.length : Int) rfl rfl Try.underlying39 (.agg #[(.int .i64 0), (.int .i64 0), (.int .i64 0), (.int .i64 0)]) 32 info68 rfl (by decide) (by omega) z68 (ok := fun _ => True) (okp := fun _ => True) (k68_mkM _ _ _ z68 ) (fun _ hk => hk) trivial (of_decide_eq_true (by first | (with_reducible assumption) | assumption)) (Nat.le_trans (Nat.mul_le_mul_right _ (of_decide_eq_true (by first | (with_reducible assumption) | assumption) : (l0.length : Int).toNat ≤ 8796093022208)) (by omega)) (Below.refl _ _) (Nat.le_refl _) ?_; intro v444 w4 ho5 hb hg_ hnew_; clear hg_ hnew_; (first | rw [← a2.out] at ho5 | (simp only [Int.reduceToNat] at ho5; rw [← a2.out] at ho5)); have n0_ := Aside0.mk (Kd.R_lower ho5 (below_size HB.out)); have n1_ := Aside0.mk (lP_ HB.out hb); clear HB; have a5 := n0_; have HB := n1_; clear n0_ n1_ hb ho5))
   go_loopg [4] k (fun kq v4 w' => ∃ (x3_1 : List (S68)) (x4_1 : Int), v4 = .int .i64 x4_1 ∧ Aside0 (laws_toTermS.l0 kq l0 x3_1 x4_1 = some r) ∧ Aside0 (kq ≤ k) ∧ Aside0 (Kd.R k68 68 w' w.heap.size (fun _ => True) v444 x3_1) ∧ Aside0 (Below w.heap.size w w'))
   case atStart => exact ⟨(y443), (0), (by first | rfl | (simp; done) | (simp [*]; done)), H', ⟨Nat.le_refl _⟩, ⟨by (with_reducible repeat first | apply rA_ | apply rN_ | apply rD_); exact a5.out⟩, ⟨by repeat (first | (with_reducible first | exact HB.out | apply lA1_ | apply lN_ | apply lD_) | exact HB.out)⟩⟩
   case round =>
    clear H'
    try clear c2
    try clear c2b0
    try clear c2b1
    try clear p2
    try clear c3
    try clear c3b0
    try clear c3b1
    obtain ⟨x3_1, x4_1, rfl, HA, HK1, a0, HB⟩ := hrel
    cases gk with
    | zero => exact absurd HA.out (by simp [laws_toTermS.l0])
    | succ k1 =>
     have H := HA.out
     clear HA
     simp only [laws_toTermS.l0] at H
     by_cases c6 : x4_1 < (l0.length : Int)
     ·rw [if_pos c6] at H
      have c6b0 : decide (x4_1 < (l0.length : Int)) = true := decide_eq_true c6
      clear c6
      by_cases c7 : 0 ≤ x4_1
      ·rw [if_pos c7] at H
       have c7b0 : decide (0 ≤ x4_1) = true := decide_eq_true c7
       clear c7
       replace H := Option.bind_eq_some_iff.mp H
       obtain ⟨⟨t447, t448, t449, t450⟩, a7, H⟩ := H
       try dsimp only at H
       have A8 := Aside0.mk a7
       clear a7
       by_cases c9 : x4_1 < (x3_1.length : Int)
       ·rw [if_pos c9] at H
        have c9b0 : decide (x4_1 < (x3_1.length : Int)) = true := decide_eq_true c9
        clear c9
        obtain ⟨y451, hy451⟩ : ∃ y_ : List (S68), y_ = (x3_1.set (x4_1 : Int).toNat (⟨t447, t448, t449, t450⟩ : S68)) := ⟨_, rfl⟩
        replace H : (laws_toTermS.l0 k1 l0 y451 (wrap64 (x4_1 + 1))) = some r := by first | (rw [hy451]; with_reducible exact H) | (have H2_ := (Option.bind_some _ _).symm.trans H; rw [hy451]; with_reducible exact H2_) | (have H2_ := (Option.bind_some _ _).symm.trans H; with_reducible exact H2_) | with_reducible exact H | (rw [hy451]; exact H) | exact H
        have a6 := Aside0.mk hy451
        clear hy451
        have H' := Aside0.mk H
        clear H
        have p446 : 0 ≤ (x4_1 : Int) := of_decide_eq_true (by first | (with_reducible assumption) | assumption)
        have q446 : x4_1 < (l0.length : Int) := of_decide_eq_true (by first | (with_reducible assumption) | assumption)
        obtain ⟨ad446, e446, hx446_0, hx446_1, hx446_2, hx446_3⟩ := at_T70 a8.out x4_1 p446 q446
        cases e446
        replace hx446_0 := (HB.out.cell (World.block_lt_of_cell? w _ hx446_0)).trans hx446_0
        replace hx446_1 := (HB.out.cell (World.block_lt_of_cell? w _ hx446_1)).trans hx446_1
        replace hx446_2 := (HB.out.cell (World.block_lt_of_cell? w _ hx446_2)).trans hx446_2
        replace hx446_3 := (HB.out.cell (World.block_lt_of_cell? w _ hx446_3)).trans hx446_3
        replace p446 := eq_true p446
        replace q446 := eq_true q446
        go_wp2_with (first | ((with_reducible refine gate_callee (f := 39) rfl ?_); refine goesA_ (some 20) rfl rfl Try.func39 (by kernel_rfl) rfl #[.agg #[.int .i64 ((rd_T70 l0 x4_1).f0), .int .i64 ((rd_T70 l0 x4_1).f1), .int .i64 ((rd_T70 l0 x4_1).f2), .int .i64 ((rd_T70 l0 x4_1).f3)]] rfl ?_; (with_reducible refine (laws_toTerm.calls ((rd_T70 l0 x4_1).f0) ((rd_T70 l0 x4_1).f1) ((rd_T70 l0 x4_1).f2) ((rd_T70 l0 x4_1).f3) t447 t448 t449 t450 _ A8.out).mono ?_); rintro e w11 ⟨rfl, hb⟩; refine ⟨_, rfl, ?_⟩; have n0_ := Aside0.mk (Kd.R_below a0.out hb); have n1_ := Aside0.mk (lP_ HB.out hb); clear a0 HB; have a0 := n0_; have HB := n1_; clear n0_ n1_; (try clear hb); (try clear hb2); (try clear hk); (try clear hi); have p10 : 0 ≤ (x4_1 : Int) := of_decide_eq_true (by first | (with_reducible assumption) | assumption); have q10 : (x4_1 : Int) < ((x3_1.length : Int) : Int) := of_decide_eq_true (by first | (with_reducible assumption) | assumption); obtain ⟨go10, a3, eo10, a4, gl10, cl10, HG10⟩ := Kd.R_form a0.out (by omega); (first | cases eo10 | (injection eo10 with ea_ en_ ec_; (first | subst ea_ | (injection ea_ with ea_; subst ea_)); subst ec_; clear en_)); have a1 := Aside0.mk a4; have GG10 := Aside0.mk HG10; clear a4 gl10 HG10; obtain ⟨ce10, hcl10, hM10, hcc10, hfr10⟩ := Kd.R_elem a0.out z68 (x4_1 : Int) p10 q10; obtain rfl := k68_openM hM10; have hx10_0 : w11.cell? ⟨go10, (x4_1 : Int).toNat * 4, none⟩ = some (.int .i64 ((rd_T68 x3_1 x4_1).f0)) := hcc10 0 _ rfl; have hx10_1 : w11.cell? ⟨go10, (x4_1 : Int).toNat * 4 + 1, none⟩ = some (.int .i64 ((rd_T68 x3_1 x4_1).f1)) := hcc10 1 _ rfl; have hx10_2 : w11.cell? ⟨go10, (x4_1 : Int).toNat * 4 + 2, none⟩ = some (.int .i64 ((rd_T68 x3_1 x4_1).f2)) := hcc10 2 _ rfl; have hx10_3 : w11.cell? ⟨go10, (x4_1 : Int).toNat * 4 + 3, none⟩ = some (.int .i64 ((rd_T68 x3_1 x4_1).f3)) := hcc10 3 _ rfl; have hf10_0 : w11.frozen? ⟨go10, (x4_1 : Int).toNat * 4, none⟩ = false := hfr10 0; have hf10_1 : w11.frozen? ⟨go10, (x4_1 : Int).toNat * 4 + 1, none⟩ = false := hfr10 1; have hf10_2 : w11.frozen? ⟨go10, (x4_1 : Int).toNat * 4 + 2, none⟩ = false := hfr10 2; have hf10_3 : w11.frozen? ⟨go10, (x4_1 : Int).toNat * 4 + 3, none⟩ = false := hfr10 3; clear hcl10 hcc10 hfr10 hM10; replace p10 := eq_true p10; replace q10 := eq_true q10; have HX12 := Aside0.mk (show Kd.R k68 68 w11 w.heap.size (fun _ => True) (.slice (some ⟨go10, 0, none⟩) x3_1.length a3) x3_1 from a0.out); obtain ⟨ce12, hcl12, hM12, hcc12, hfr12⟩ := Kd.R_elem HX12.out z68 (x4_1 : Int) (of_decide_eq_true (by first | (with_reducible assumption) | assumption)) (by have h_ : (x4_1 : Int) < ((x3_1.length : Int) : Int) := of_decide_eq_true (by first | (with_reducible assumption) | assumption); first | exact h_ | (have e_ := (Kd.R_reads' a0.out).1; omega) | simpa using h_); obtain rfl := k68_openM hM12; have HP12 := Kd.R_seg HX12.out (x4_1 : Int) (of_decide_eq_true (by first | (with_reducible assumption) | assumption)) (by have h_ : (x4_1 : Int) < ((x3_1.length : Int) : Int) := of_decide_eq_true (by first | (with_reducible assumption) | assumption); first | exact h_ | (have e_ := (Kd.R_reads' a0.out).1; omega) | simpa using h_) (seg := [.int .i64 t447, .int .i64 t448, .int .i64 t449, .int .i64 t450]) (j := 0) hcl12 hcc12 (show 4 ≤ 4 from by decide) (x' := (⟨t447, t448, t449, t450⟩ : S68)) (k68_mkM _ _ _ (⟨t447, t448, t449, t450⟩ : S68) ) (fun _ hk => hk); have hx12_0 := hcc12 0 _ rfl; (try simp only [show (k68).sz = 4 from rfl, Nat.mul_one, Nat.add_zero] at hx12_0); have hf12_0 := hfr12 0; (try simp only [show (k68).sz = 4 from rfl, Nat.mul_one, Nat.add_zero] at hf12_0); have hx12_1 := hcc12 1 _ rfl; (try simp only [show (k68).sz = 4 from rfl, Nat.mul_one, Nat.add_zero] at hx12_1); have hf12_1 := hfr12 1; (try simp only [show (k68).sz = 4 from rfl, Nat.mul_one, Nat.add_zero] at hf12_1); have hx12_2 := hcc12 2 _ rfl; (try simp only [show (k68).sz = 4 from rfl, Nat.mul_one, Nat.add_zero] at hx12_2); have hf12_2 := hfr12 2; (try simp only [show (k68).sz = 4 from rfl, Nat.mul_one, Nat.add_zero] at hf12_2); have hx12_3 := hcc12 3 _ rfl; (try simp only [show (k68).sz = 4 from rfl, Nat.mul_one, Nat.add_zero] at hx12_3); have hf12_3 := hfr12 3; (try simp only [show (k68).sz = 4 from rfl, Nat.mul_one, Nat.add_zero] at hf12_3); clear hcl12 hcc12 hfr12 hM12) | ((with_reducible refine gate_store (t := 68) (p := 21) rfl ?_); refine store_event (t := 68) (p := 21) (v := ?vo_w13) (w1 := ((((w11.setCell ⟨go10, (x4_1 : Int).toNat * 4, none⟩ (.int .i64 t447)).setCell ⟨go10, (x4_1 : Int).toNat * 4 + 1, none⟩ (.int .i64 t448)).setCell ⟨go10, (x4_1 : Int).toNat * 4 + 2, none⟩ (.int .i64 t449)).setCell ⟨go10, (x4_1 : Int).toNat * 4 + 3, none⟩ (.int .i64 t450))) ?hg ?ho ?hn ?hr ?_; (case ho => rfl); (case hg => rfl); (case hn => rfl); (case hr => first | (go_simp; done) | (go_simp; rfl)); intro w13 hw; have hg : w11.grownBy w13 (some go10) := (by rw [hw]; exact HP12.2); have hp_ : Kd.R k68 68 w13 w.heap.size (fun _ => True) (.slice (some ⟨go10, 0, none⟩) x3_1.length a3) y451 := (by rw [hw, a6.out]; exact HP12.1); clear HP12; have n0_ := Aside0.mk (hp_); have n1_ := Aside0.mk ((by rw [hw]; exact lS1_ (lS1_ (lS1_ (lS1_ (HB.out) a1.out) a1.out) a1.out) a1.out : Below w.heap.size w w13)); clear a0 HB; have a0 := n0_; have HB := n1_; clear n0_ n1_ hg hw hp_))
        go_roundg k1
        case measure => have := HK1.out; omega
        case rel => exact ⟨(y451), (wrap64 (x4_1 + 1)), (by first | rfl | (simp; done) | (simp [*]; done)), H', ⟨by have := HK1.out; omega⟩, ⟨by (with_reducible repeat first | apply rA_ | apply rN_ | apply rD_); exact a0.out⟩, ⟨by repeat (first | (with_reducible first | exact HB.out | apply lA1_ | apply lN_ | apply lD_) | exact HB.out)⟩⟩
       ·rw [if_neg c9] at H
        exact absurd H (by simp)
      ·rw [if_neg c7] at H
       exact absurd H (by simp)
     ·rw [if_neg c6] at H
      have c6b0 : decide (x4_1 < (l0.length : Int)) = false := decide_eq_false c6
      clear c6
      obtain rfl := Option.some.inj H
      go_wp2
      go_ret
      exact ⟨_, by first | rfl | (simp [errW_none, errW_some] <;> rfl) | (simp [*, errW_none, errW_some] <;> rfl), by (with_reducible repeat first | apply rA_ | apply rN_ | apply rD_); exact a0.out, by repeat (first | (with_reducible first | exact HB.out | apply lA1_ | apply lN_ | apply lD_) | exact HB.out)⟩
  ·rw [if_neg c3] at H
   exact absurd H (by simp)
 ·rw [if_neg c2] at H
  exact absurd H (by simp)
def impl_in.f (a0 : Int) (a1 : Int) (a2 : Int) : Option (Bool) := if a0 ≥ a1 then (some (decide (a0 ≤ a2))) else (some false)
set_option maxHeartbeats 8000000 in
set_option maxRecDepth 100000 in
theorem impl_in.calls (a0 : Int) (a1 : Int) (a2 : Int) (r : Bool) (w : World) (h : impl_in.f a0 a1 a2 = some r) :
  Calls Try.prog 41 #[.int .i64 a0, .int .i64 a1, .int .i64 a2] w fun e w' => e = .returned (.bool r) ∧ Drawn0 w w' := by
 have H : (if a0 ≥ a1 then (some (decide (a0 ≤ a2))) else (some false)) = some r := h
 clear h
 by_cases c4 : a0 ≥ a1
 ·rw [if_pos c4] at H
  have c4b0 : decide (a1 ≤ a0) = true := decide_eq_true c4
  clear c4
  obtain rfl := Option.some.inj H
  go_enter Try.func41, Try.ntmps41
  go_wp2
  go_ret
  exact ⟨by first | rfl | (simp; done) | (simp [*]; done), by repeat (first | exact Drawn0.refl _ | apply Drawn0.step)⟩
 ·rw [if_neg c4] at H
  have c4b0 : decide (a1 ≤ a0) = false := decide_eq_false c4
  clear c4
  obtain rfl := Option.some.inj H
  go_enter Try.func41, Try.ntmps41
  go_wp2
  go_ret
  exact ⟨by first | rfl | (simp; done) | (simp [*]; done), by repeat (first | exact Drawn0.refl _ | apply Drawn0.step)⟩
def impl_isId.f (a0 : Int) : Option (Bool) := (impl_in.f a0 1 9).bind fun t265 => (some t265)
set_option maxHeartbeats 8000000 in
set_option maxRecDepth 100000 in
theorem impl_isId.calls (a0 : Int) (r : Bool) (w : World) (h : impl_isId.f a0 = some r) :
  Calls Try.prog 33 #[.int .i64 a0] w fun e w' => e = .returned (.bool r) ∧ Drawn0 w w' := by
 have H : ((impl_in.f a0 1 9).bind fun t265 => (some t265)) = some r := h
 clear h
 replace H := Option.bind_eq_some_iff.mp H
 obtain ⟨t265, A20, H⟩ := H
 try dsimp only at H
 have A2 := Aside0.mk A20
 clear A20
 obtain rfl := Option.some.inj H
 go_enter Try.func33, Try.ntmps33
 go_wp2_with (first | ((with_reducible refine gate_callee (f := 41) rfl ?_); refine goesA_ (some 4) rfl rfl Try.func41 (by kernel_rfl) rfl #[.int .i64 a0, .int .i64 1, .int .i64 9] rfl ?_; (with_reducible refine (impl_in.calls a0 1 9 t265 _ A2.out).mono ?_); rintro e w' ⟨rfl, ⟨nd, rfl⟩⟩; refine ⟨_, rfl, ?_⟩))
 go_ret
 exact ⟨by first | rfl | (simp; done) | (simp [*]; done), by repeat (first | exact Drawn0.refl _ | apply Drawn0.step)⟩
set_option maxHeartbeats 4000000 in
set_option maxRecDepth 100000 in
theorem slices_IndexFunc_int64_int64.calls (g : Nat) (lb : Array Value) (p : Int → Bool) (A0 : Option Addr) (c0 : Nat) (l0 : List Int) (w : World) (eg : ∀ args w, (callFunc g args).run Try.prog w = .ok (.enter g args) w)
    (hp : ∀ (W : World) (x : Int), x ∈ l0 → Below w.heap.size w W → Calls Try.prog g (#[.int .i64 x] ++ lb) W fun e w' => e = .returned (.bool (p x)) ∧ Below w.heap.size w w')
    (hr0 : Kd.C (Kd.int .i64) w A0 l0.length l0) (hl : l0.length ≤ 9223372036854775807) :
    Calls Try.prog 73 #[.slice A0 l0.length c0, .func (.func g) #[] lb] w fun e w' => ∃ v : Int, e = .returned (.int .i64 v) ∧ Aside0 (decide (0 ≤ v) = l0.any p) ∧ Below w.heap.size w w' := by
  have HR := Aside0.mk hr0
  clear hr0
  go_enter Try.func73, Try.ntmps73
  go_wp2
  go_loopg [5, 8] l0.length (fun gg _ s8 wr => ∃ kk : Nat, kk ≤ l0.length ∧ l0.length - kk ≤ gg ∧ s8 = .int .i64 kk ∧ Aside0 (Below w.heap.size w wr) ∧ Aside0 (∀ j : Nat, j < kk → p (rd l0 j) = false))
  case atStart => exact ⟨0, Nat.zero_le _, by omega, rfl, Aside0.mk (Below.refl _ w), Aside0.mk (fun j hj => absurd hj (Nat.not_lt_zero _))⟩
  case round =>
    obtain ⟨kk, hkk, hg, rfl, BW, HA⟩ := hrel
    by_cases hlt : kk < l0.length
    · have hltz : (kk : Int) < (l0.length : Int) := by omega
      obtain ⟨ad, e, hx⟩ := Kd.at_int (Kd.C_below HR.out BW.out) (kk : Int) (by omega) (by omega)
      rw [Int.toNat_natCast] at hx
      subst e
      have hm : rd l0 (kk : Int) ∈ l0 := by
        have : rd l0 (kk : Int) = l0[kk] := by simp [rd, List.getD, List.getElem?_eq_getElem hlt]
        rw [this]; exact List.getElem_mem hlt
      have HM := Aside0.mk hm
      have hcall := hp wr (rd l0 (kk : Int)) hm BW.out
      clear hp hm
      generalize hy : rd l0 (kk : Int) = y at hx hcall
      have HY := Aside0.mk hy
      clear hy
      cases hq : p y with
      | true =>
        rw [hq] at hcall
        go_wp2_with (go_at_fn g; refine hcall.mono ?_; rintro e w' ⟨rfl, hb'⟩)
        go_ret
        refine ⟨_, rfl, Aside0.mk ?_, hb'⟩
        rw [decide_eq_true (show (0 : Int) ≤ (kk : Int) by omega)]
        symm
        exact List.any_eq_true.2 ⟨_, HM.out, by rw [HY.out]; exact hq⟩
      | false =>
        rw [hq] at hcall
        go_wp2_with (go_at_fn g; refine hcall.mono ?_; rintro e w' ⟨rfl, hb'⟩)
        go_roundg (l0.length - (kk + 1))
        case measure => omega
        case rel =>
          refine ⟨kk + 1, by omega, by omega, by go_num, Aside0.mk hb', Aside0.mk (fun j hj => ?_)⟩
          by_cases e : j = kk
          · subst e
            rw [HY.out]; exact hq
          · exact HA.out j (by omega)
    · have hltz : ¬ (kk : Int) < (l0.length : Int) := by omega
      obtain rfl : kk = l0.length := by omega
      go_wp2
      go_ret
      refine ⟨_, rfl, Aside0.mk ?_, BW.out⟩
      rw [decide_eq_false (show ¬ (0 : Int) ≤ -1 by omega)]
      symm
      rw [List.any_eq_false]
      intro x hx
      obtain ⟨j, hj, rfl⟩ := List.getElem_of_mem hx
      have := HA.out j hj
      have e : rd l0 (j : Int) = l0[j] := by simp [rd, List.getD, List.getElem?_eq_getElem hj]
      rw [e] at this
      simp [this]
set_option maxHeartbeats 4000000 in
set_option maxRecDepth 100000 in
theorem slices_ContainsFunc_int64_int64.calls (g : Nat) (lb : Array Value) (p : Int → Bool) (A0 : Option Addr) (c0 : Nat) (l0 : List Int) (w : World) (eg : ∀ args w, (callFunc g args).run Try.prog w = .ok (.enter g args) w)
    (hp : ∀ (W : World) (x : Int), x ∈ l0 → Below w.heap.size w W → Calls Try.prog g (#[.int .i64 x] ++ lb) W fun e w' => e = .returned (.bool (p x)) ∧ Below w.heap.size w w')
    (hr0 : Kd.C (Kd.int .i64) w A0 l0.length l0) (hl : l0.length ≤ 9223372036854775807) :
    Calls Try.prog 55 #[.slice A0 l0.length c0, .func (.func g) #[] lb] w fun e w' => e = .returned (.bool (l0.any p)) ∧ Below w.heap.size w w' := by
  have hC := slices_IndexFunc_int64_int64.calls g lb p A0 c0 l0 w eg hp hr0 hl
  clear hp hr0
  go_enter Try.func55, Try.ntmps55
  go_wp2_with (go_at_call 73; refine hC.mono ?_; rintro e w' ⟨v, rfl, hv, hb⟩)
  go_ret
  exact ⟨congrArg (fun b => Ending.returned (Value.bool b)) hv.out, hb⟩
def impl_namesOf.j0 : Nat → Int → Bool → Option (Bool × Bool × Bool)
 | 0, _, _ => none
 | k + 1, x3, x4 => if x4 = true then (some (false, false, true)) else (if x3 = 6 then (some (true, false, false)) else (some (true, true, false)))
def impl_namesOf.f (k : Nat) (a0 : Int) : Option (Bool × Bool × Bool) := if a0 = 1 then (impl_namesOf.j0 k a0 (a0 == 1)) else (impl_namesOf.j0 k a0 (a0 == 2))
set_option maxHeartbeats 8000000 in
set_option maxRecDepth 100000 in
theorem impl_namesOf.calls (k : Nat) (a0 : Int) (r1 : Bool) (r2 : Bool) (r3 : Bool) (w : World) (h : impl_namesOf.f k a0 = some (r1, r2, r3)) :
  Calls Try.prog 68 #[.int .i64 a0] w fun e w' => e = .returned (.agg #[.bool r1, .bool r2, .bool r3]) ∧ Below w.heap.size w w' := by
 have hu96 := Try.underlying96
 have HB := Aside0.mk (Below.refl w.heap.size w)
 have H : (if a0 = 1 then (impl_namesOf.j0 k a0 (a0 == 1)) else (impl_namesOf.j0 k a0 (a0 == 2))) = some (r1, r2, r3) := h
 clear h
 have a4 := Aside0.mk H
 clear H
 go_enter Try.func68, Try.ntmps68
 go_upto_if 4 with (first | ((with_reducible refine gate_dst (N := 2) rfl ?_); refine box_event ?hg (N := 2) ?hd (cs := #[.bool false, .bool false, .bool false]) (t := 96) ?hr ?_; (case hd => rfl); (case hg => rfl); (case hr => first | (go_simp; done) | (go_simp; rfl)); intro a2 hg w3 hbox hb; have n0_ := Aside0.mk (lP_ (by repeat (first | (with_reducible first | exact HB.out | apply lA1_ | apply lN_ | apply lD_) | exact HB.out)) hb); have n1_ := Aside0.mk (hbox); have n2_ := Aside0.mk ((by rw [hg]; exact (below_size (by repeat (first | (with_reducible first | exact HB.out | apply lA1_ | apply lN_ | apply lD_) | exact HB.out))) : w.heap.size ≤ a2)); have n3_ := Aside0.mk ((by rw [hg]; exact (below_size (by repeat (first | (with_reducible first | exact HB.out | apply lA1_ | apply lN_ | apply lD_) | exact HB.out))) : w.heap.size ≤ a2)); clear HB; have HB := n0_; have a1 := n1_; have a5 := n2_; have a3 := n3_; clear n0_ n1_ n2_ n3_ hb hbox hg))
 (try simp only [Act.put, lA_, lZ_, lS_])
 go_cut [4] (fun v4 wc => ∃ (kq : Nat) (x4_1 : Bool), v4 = .bool x4_1 ∧ Aside0 (impl_namesOf.j0 kq a0 x4_1 = some (r1, r2, r3)) ∧ Aside0 (kq ≤ k) ∧ Aside0 (wc.heap[a2]? = some (.cells #[.bool false, .bool false, .bool false] 96 (0, 0))) ∧ Aside0 (Below w.heap.size w wc))
 case first =>
  have H := a4.out
  clear a4
  by_cases c4 : a0 = 1
  ·rw [if_pos c4] at H
   have c4b0 : (a0 == 1) = true := beq_iff_eq.mpr c4
   have c4b1 : (a0 != 1) = false := bne_eq_false_iff_eq.mpr c4
   clear c4
   (first | rw [c4b0] | (simp only [i64_w, i32_w]; rw [c4b0]) | skip)
   have H' := Aside0.mk H
   clear H
   go_wp2
   go_meet
   case rel => exact ⟨_, ((a0 == 1)), (by first | rfl | (simp; done) | (simp [*]; done)), H', ⟨by first | omega | exact Nat.le_refl _⟩, ⟨by (with_reducible repeat first | apply bN_ | apply bD_ | apply bA_); exact a1.out⟩, ⟨by repeat (first | (with_reducible first | exact HB.out | apply lA1_ | apply lN_ | apply lD_ | refine lS1_ ?_ a3.out) | exact HB.out)⟩⟩
  ·rw [if_neg c4] at H
   have c4b0 : (a0 == 1) = false := beq_eq_false_iff_ne.mpr c4
   have c4b1 : (a0 != 1) = true := bne_iff_ne.mpr c4
   (first | rw [c4b0] | (simp only [i64_w, i32_w]; rw [c4b0]) | skip)
   have H' := Aside0.mk H
   clear H
   go_wp2
   go_meet
   case rel => exact ⟨_, ((a0 == 2)), (by first | rfl | (simp; done) | (simp [*]; done)), H', ⟨by first | omega | exact Nat.le_refl _⟩, ⟨by (with_reducible repeat first | apply bN_ | apply bD_ | apply bA_); exact a1.out⟩, ⟨by repeat (first | (with_reducible first | exact HB.out | apply lA1_ | apply lN_ | apply lD_ | refine lS1_ ?_ a3.out) | exact HB.out)⟩⟩
 case rest =>
  clear a4
  try clear p2
  try clear c4
  try clear c4b0
  try clear c4b1
  obtain ⟨kq, x4_1, rfl, HA, HJ1, a1, HB⟩ := hcut
  cases kq with
  | zero => exact absurd HA.out (by simp [impl_namesOf.j0])
  | succ kj1 =>
   have H := HA.out
   clear HA
   simp only [impl_namesOf.j0] at H
   by_cases c5 : x4_1 = true
   ·subst c5
    rw [if_pos rfl] at H
    simp only [Option.some.injEq, Prod.mk.injEq] at H
    obtain ⟨rfl, rfl, rfl⟩ := H
    obtain ⟨_, _, _, _, _, _⟩ := bc3 a1.out
    go_wp2
    refine bodyPost_ret (results_cell_row rfl _ _ a2 96 #[.bool false, .bool false, .bool true] (0, 0) _ rfl (by (with_reducible repeat first | apply bN_ | apply bD_ | apply bA_); apply fill3; (with_reducible repeat first | apply bN_ | apply bD_ | apply bA_); exact a1.out) Try.underlying96 rfl (by kernel_rfl)) rfl ?_
    exact ⟨by first | rfl | (simp [errW_none, errW_some] <;> rfl) | (simp [*, errW_none, errW_some] <;> rfl), by repeat (first | (with_reducible first | exact HB.out | apply lA1_ | apply lN_ | apply lD_ | refine lS1_ ?_ a3.out) | exact HB.out)⟩
   ·replace c5 := Bool.eq_false_iff.mpr c5
    subst c5
    rw [if_neg (show ¬ (false = true) by decide)] at H
    by_cases c7 : a0 = 6
    ·rw [if_pos c7] at H
     have c7b0 : (a0 == 6) = true := beq_iff_eq.mpr c7
     have c7b1 : (a0 != 6) = false := bne_eq_false_iff_eq.mpr c7
     clear c7
     simp only [Option.some.injEq, Prod.mk.injEq] at H
     obtain ⟨rfl, rfl, rfl⟩ := H
     obtain ⟨_, _, _, _, _, _⟩ := bc3 a1.out
     go_wp2
     refine bodyPost_ret (results_cell_row rfl _ _ a2 96 #[.bool true, .bool false, .bool false] (0, 0) _ rfl (by (with_reducible repeat first | apply bN_ | apply bD_ | apply bA_); apply fill3; (with_reducible repeat first | apply bN_ | apply bD_ | apply bA_); exact a1.out) Try.underlying96 rfl (by kernel_rfl)) rfl ?_
     exact ⟨by first | rfl | (simp [errW_none, errW_some] <;> rfl) | (simp [*, errW_none, errW_some] <;> rfl), by repeat (first | (with_reducible first | exact HB.out | apply lA1_ | apply lN_ | apply lD_ | refine lS1_ ?_ a3.out) | exact HB.out)⟩
    ·rw [if_neg c7] at H
     have c7b0 : (a0 == 6) = false := beq_eq_false_iff_ne.mpr c7
     have c7b1 : (a0 != 6) = true := bne_iff_ne.mpr c7
     simp only [Option.some.injEq, Prod.mk.injEq] at H
     obtain ⟨rfl, rfl, rfl⟩ := H
     obtain ⟨_, _, _, _, _, _⟩ := bc3 a1.out
     go_wp2
     refine bodyPost_ret (results_cell_row rfl _ _ a2 96 #[.bool true, .bool true, .bool false] (0, 0) _ rfl (by (with_reducible repeat first | apply bN_ | apply bD_ | apply bA_); apply fill3; (with_reducible repeat first | apply bN_ | apply bD_ | apply bA_); exact a1.out) Try.underlying96 rfl (by kernel_rfl)) rfl ?_
     exact ⟨by first | rfl | (simp [errW_none, errW_some] <;> rfl) | (simp [*, errW_none, errW_some] <;> rfl), by repeat (first | (with_reducible first | exact HB.out | apply lA1_ | apply lN_ | apply lD_ | refine lS1_ ?_ a3.out) | exact HB.out)⟩
def impl_Term_parts.f (k : Nat) (a0_0 : Int) (a0_1 : Int) (a0_2 : Int) (a0_3 : Int) : Option (List Int) := (impl_namesOf.f k a0_0).bind fun bt454 => (if bt454.2.2 = true then (some ([] : List Int)) else (if bt454.2.1 = true then (some (([a0_1, a0_2] : List Int))) else (some (([a0_1] : List Int)))))
set_option maxHeartbeats 8000000 in
set_option maxRecDepth 100000 in
theorem impl_Term_parts.calls (k : Nat) (a0_0 : Int) (a0_1 : Int) (a0_2 : Int) (a0_3 : Int) (r : List Int) (w : World) (h : impl_Term_parts.f k a0_0 a0_1 a0_2 a0_3 = some r) :
  Calls Try.prog 69 #[.agg #[.int .i64 a0_0, .int .i64 a0_1, .int .i64 a0_2, .int .i64 a0_3]] w fun e w' => ∃ v0_ : Value, e = .returned (v0_) ∧ Kd.R (Kd.int .i64) 2 w' w.heap.size (fun _ => True) v0_ r ∧ Below w.heap.size w w' := by
 have hu68 := Try.underlying68
 have hu96 := Try.underlying96
 have HB := Aside0.mk (Below.refl w.heap.size w)
 have H : ((impl_namesOf.f k a0_0).bind fun bt454 => (if bt454.2.2 = true then (some ([] : List Int)) else (if bt454.2.1 = true then (some (([a0_1, a0_2] : List Int))) else (some (([a0_1] : List Int)))))) = some r := h
 clear h
 replace H := Option.bind_eq_some_iff.mp H
 obtain ⟨⟨t454, t455, t456⟩, ac, H⟩ := H
 try dsimp only at H
 have A2 := Aside0.mk ac
 clear ac
 by_cases c3 : t456 = true
 ·subst c3
  rw [if_pos rfl] at H
  obtain rfl := Option.some.inj H
  go_enter Try.func69, Try.ntmps69
  go_wp2_with (first | ((with_reducible refine gate_dst (N := 1) rfl ?_); refine box_event ?hg (N := 1) ?hd (cs := #[.int .i64 a0_0, .int .i64 a0_1, .int .i64 a0_2, .int .i64 a0_3]) (t := 68) ?hr ?_; (case hd => rfl); (case hg => rfl); (case hr => first | (go_simp; done) | (go_simp; rfl)); intro a4 hg w4 hbox hb; have n0_ := Aside0.mk (lP_ HB.out hb); have n1_ := Aside0.mk (hbox); have n3_ := Aside0.mk ((by rw [hg]; exact (below_size HB.out) : w.heap.size ≤ a4)); clear HB; have HB := n0_; have a0 := n1_; have a1 := n3_; clear n0_ n1_ n3_ hb hbox hg; obtain ⟨_, _, _, _, _, _, _, _⟩ := bc4 a0.out) | ((with_reducible refine gate_callee (f := 68) rfl ?_); refine goesA_ (some 6) rfl rfl Try.func68 (by kernel_rfl) rfl #[.int .i64 a0_0] rfl ?_; (with_reducible refine (impl_namesOf.calls k a0_0 t454 t455 true _ A2.out).mono ?_); rintro e w6 ⟨rfl, hb⟩; refine ⟨_, rfl, ?_⟩; have n0_ := Aside0.mk (bB_ a0.out hb); have n1_ := Aside0.mk (lP_ HB.out hb); clear a0 HB; have a0 := n0_; have HB := n1_; clear n0_ n1_; (try clear hb); (try clear hb2); (try clear hk); (try clear hi)) | ((with_reducible refine gate_dst (N := 3) rfl ?_); refine box_event ?hg (N := 3) ?hd (cs := #[.bool false, .bool false, .bool false]) (t := 96) ?hr ?_; (case hd => rfl); (case hg => rfl); (case hr => first | (go_simp; done) | (go_simp; rfl)); intro a6 hg w7 hbox hb; have n1_ := Aside0.mk (lP_ (by repeat (first | (with_reducible first | exact HB.out | refine lS1_ ?_ a1.out) | exact HB.out)) hb); have n2_ := Aside0.mk (hbox); have n4_ := Aside0.mk ((by rw [hg]; exact (below_size (by repeat (first | (with_reducible first | exact HB.out | refine lS1_ ?_ a1.out) | exact HB.out))) : w.heap.size ≤ a6)); have n5_ := Aside0.mk ((by rw [hg]; exact Nat.ne_of_lt (blk_lt (g := a4) (o := .cells #[.int .i64 a0_0, .int .i64 a0_1, .int .i64 a0_2, .int .i64 a0_3] 68 (0, 0)) a0.out) : a4 ≠ a6)); have n6_ := Aside0.mk n5_.out.symm; clear HB; have HB := n1_; have a7 := n2_; have a5 := n4_; have a2 := n5_; have a3 := n6_; clear n1_ n2_ n4_ n5_ n6_ hb hbox hg; have ah := a3.out; have ai := a2.out; obtain ⟨_, _, _, _, _, _⟩ := bc3 a7.out))
  go_ret
  exact ⟨_, by first | rfl | (simp [errW_none, errW_some] <;> rfl) | (simp [*, errW_none, errW_some] <;> rfl), by first | exact Kd.R_nil _ _ _ _ _ | exact Kd.N_nil _ _ _ _ _ | exact Kd.V_nil _ _ _ _ _ | exact Kd.Q_nil _ _ _ _ _ | exact Kd.S_nil _ _ _ _ _, by repeat (first | (with_reducible first | exact HB.out | apply lA1_ | apply lN_ | apply lD_ | refine lS1_ ?_ a1.out | refine lS1_ ?_ a5.out) | exact HB.out)⟩
 ·replace c3 := Bool.eq_false_iff.mpr c3
  subst c3
  rw [if_neg (show ¬ (false = true) by decide)] at H
  by_cases c10 : t455 = true
  ·subst c10
   rw [if_pos rfl] at H
   obtain ⟨y458, hy458⟩ : ∃ y_ : List Int, y_ = (([a0_1, a0_2] : List Int)) := ⟨_, rfl⟩
   replace H : (some y458) = some r := by first | (rw [hy458]; with_reducible exact H) | (have H2_ := (Option.bind_some _ _).symm.trans H; rw [hy458]; with_reducible exact H2_) | (have H2_ := (Option.bind_some _ _).symm.trans H; with_reducible exact H2_) | with_reducible exact H | (rw [hy458]; exact H) | exact H
   have a8 := Aside0.mk hy458
   clear hy458
   obtain rfl := Option.some.inj H
   go_enter Try.func69, Try.ntmps69
   go_wp2_with (first | ((with_reducible refine gate_dst (N := 1) rfl ?_); refine box_event ?hg (N := 1) ?hd (cs := #[.int .i64 a0_0, .int .i64 a0_1, .int .i64 a0_2, .int .i64 a0_3]) (t := 68) ?hr ?_; (case hd => rfl); (case hg => rfl); (case hr => first | (go_simp; done) | (go_simp; rfl)); intro a4 hg w11 hbox hb; have n0_ := Aside0.mk (lP_ (by repeat (first | (with_reducible first | exact HB.out | apply lA1_ | apply lN_ | apply lD_) | exact HB.out)) hb); have n1_ := Aside0.mk (hbox); have n3_ := Aside0.mk ((by rw [hg]; exact (below_size (by repeat (first | (with_reducible first | exact HB.out | apply lA1_ | apply lN_ | apply lD_) | exact HB.out))) : w.heap.size ≤ a4)); clear HB; have HB := n0_; have a0 := n1_; have a1 := n3_; clear n0_ n1_ n3_ hb hbox hg; obtain ⟨_, _, _, _, _, _, _, _⟩ := bc4 a0.out) | ((with_reducible refine gate_callee (f := 68) rfl ?_); refine goesA_ (some 6) rfl rfl Try.func68 (by kernel_rfl) rfl #[.int .i64 a0_0] rfl ?_; (with_reducible refine (impl_namesOf.calls k a0_0 t454 true false _ A2.out).mono ?_); rintro e w13 ⟨rfl, hb⟩; refine ⟨_, rfl, ?_⟩; have n0_ := Aside0.mk (bB_ a0.out hb); have n1_ := Aside0.mk (lP_ HB.out hb); clear a0 HB; have a0 := n0_; have HB := n1_; clear n0_ n1_; (try clear hb); (try clear hb2); (try clear hk); (try clear hi)) | ((with_reducible refine gate_dst (N := 3) rfl ?_); refine box_event ?hg (N := 3) ?hd (cs := #[.bool false, .bool false, .bool false]) (t := 96) ?hr ?_; (case hd => rfl); (case hg => rfl); (case hr => first | (go_simp; done) | (go_simp; rfl)); intro a6 hg w14 hbox hb; have n0_ := Aside0.mk (bB_ a0.out hb); have n1_ := Aside0.mk (lP_ HB.out hb); have n2_ := Aside0.mk (hbox); have n4_ := Aside0.mk ((by rw [hg]; exact (below_size HB.out) : w.heap.size ≤ a6)); have n5_ := Aside0.mk ((by rw [hg]; exact Nat.ne_of_lt (blk_lt a0.out) : a4 ≠ a6)); have n6_ := Aside0.mk n5_.out.symm; clear a0 HB; have a0 := n0_; have HB := n1_; have a7 := n2_; have a5 := n4_; have a2 := n5_; have a3 := n6_; clear n0_ n1_ n2_ n4_ n5_ n6_ hb hbox hg; have ad := a3.out; have ae := a2.out; obtain ⟨_, _, _, _, _, _⟩ := bc3 a7.out; obtain ⟨_, _, _, _, _, _, _, _⟩ := bc4 a0.out) | ((with_reducible refine gate_dst (N := 21) rfl ?_); refine Kd.R_lit (Kd.int .i64) _ 2 ?hg (N := 21) ?hd (xs := ([a0_1, a0_2] : List Int)) (inner := [.int .i64 a0_1, .int .i64 a0_2]) (ok := fun _ => True) (okp := fun _ => True) ?hr ?hp (fun _ hk => hk) trivial (Below.refl _ _) (Nat.le_refl _) (by simp) ?_; (case hd => rfl); (case hg => rfl); (case hr => first | (go_simp; done) | (go_simp; rfl)); (case hp => exact (Reps.one (show Kd.M (Kd.int .i64) _ _ _ a0_1 [.int .i64 a0_1] from rfl) (Reps.one (show Kd.M (Kd.int .i64) _ _ _ a0_2 [.int .i64 a0_2] from rfl) (Reps.none _ _)))); intro v459 w18 ho19 hb hg_ hnew_; clear hg_ hnew_; (first | rw [← a8.out] at ho19 | (simp only [Int.reduceToNat] at ho19; rw [← a8.out] at ho19)); have n0_ := Aside0.mk (Kd.R_lower ho19 (below_size (by repeat (first | (with_reducible first | exact HB.out | refine lS1_ ?_ a1.out | refine lS1_ ?_ a5.out) | exact HB.out)))); have n3_ := Aside0.mk (lP_ (by repeat (first | (with_reducible first | exact HB.out | refine lS1_ ?_ a1.out | refine lS1_ ?_ a5.out) | exact HB.out)) hb); clear HB; have aa := n0_; have HB := n3_; clear n0_ n3_ hb ho19))
   go_ret
   exact ⟨_, by first | rfl | (simp [errW_none, errW_some] <;> rfl) | (simp [*, errW_none, errW_some] <;> rfl), by (with_reducible repeat first | apply rA_ | apply rN_ | apply rD_); exact aa.out, by repeat (first | (with_reducible first | exact HB.out | apply lA1_ | apply lN_ | apply lD_ | refine lS1_ ?_ a1.out | refine lS1_ ?_ a5.out) | exact HB.out)⟩
  ·replace c10 := Bool.eq_false_iff.mpr c10
   subst c10
   rw [if_neg (show ¬ (false = true) by decide)] at H
   obtain ⟨y461, hy461⟩ : ∃ y_ : List Int, y_ = (([a0_1] : List Int)) := ⟨_, rfl⟩
   replace H : (some y461) = some r := by first | (rw [hy461]; with_reducible exact H) | (have H2_ := (Option.bind_some _ _).symm.trans H; rw [hy461]; with_reducible exact H2_) | (have H2_ := (Option.bind_some _ _).symm.trans H; with_reducible exact H2_) | with_reducible exact H | (rw [hy461]; exact H) | exact H
   have a9 := Aside0.mk hy461
   clear hy461
   obtain rfl := Option.some.inj H
   go_enter Try.func69, Try.ntmps69
   go_wp2_with (first | ((with_reducible refine gate_dst (N := 1) rfl ?_); refine box_event ?hg (N := 1) ?hd (cs := #[.int .i64 a0_0, .int .i64 a0_1, .int .i64 a0_2, .int .i64 a0_3]) (t := 68) ?hr ?_; (case hd => rfl); (case hg => rfl); (case hr => first | (go_simp; done) | (go_simp; rfl)); intro a4 hg w20 hbox hb; have n0_ := Aside0.mk (lP_ (by repeat (first | (with_reducible first | exact HB.out | apply lA1_ | apply lN_ | apply lD_) | exact HB.out)) hb); have n1_ := Aside0.mk (hbox); have n3_ := Aside0.mk ((by rw [hg]; exact (below_size (by repeat (first | (with_reducible first | exact HB.out | apply lA1_ | apply lN_ | apply lD_) | exact HB.out))) : w.heap.size ≤ a4)); clear HB; have HB := n0_; have a0 := n1_; have a1 := n3_; clear n0_ n1_ n3_ hb hbox hg; obtain ⟨_, _, _, _, _, _, _, _⟩ := bc4 a0.out) | ((with_reducible refine gate_callee (f := 68) rfl ?_); refine goesA_ (some 6) rfl rfl Try.func68 (by kernel_rfl) rfl #[.int .i64 a0_0] rfl ?_; (with_reducible refine (impl_namesOf.calls k a0_0 t454 false false _ A2.out).mono ?_); rintro e w22 ⟨rfl, hb⟩; refine ⟨_, rfl, ?_⟩; have n0_ := Aside0.mk (bB_ a0.out hb); have n1_ := Aside0.mk (lP_ HB.out hb); clear a0 HB; have a0 := n0_; have HB := n1_; clear n0_ n1_; (try clear hb); (try clear hb2); (try clear hk); (try clear hi)) | ((with_reducible refine gate_dst (N := 3) rfl ?_); refine box_event ?hg (N := 3) ?hd (cs := #[.bool false, .bool false, .bool false]) (t := 96) ?hr ?_; (case hd => rfl); (case hg => rfl); (case hr => first | (go_simp; done) | (go_simp; rfl)); intro a6 hg w23 hbox hb; have n0_ := Aside0.mk (bB_ a0.out hb); have n1_ := Aside0.mk (lP_ HB.out hb); have n2_ := Aside0.mk (hbox); have n4_ := Aside0.mk ((by rw [hg]; exact (below_size HB.out) : w.heap.size ≤ a6)); have n5_ := Aside0.mk ((by rw [hg]; exact Nat.ne_of_lt (blk_lt a0.out) : a4 ≠ a6)); have n6_ := Aside0.mk n5_.out.symm; clear a0 HB; have a0 := n0_; have HB := n1_; have a7 := n2_; have a5 := n4_; have a2 := n5_; have a3 := n6_; clear n0_ n1_ n2_ n4_ n5_ n6_ hb hbox hg; have af := a3.out; have ag := a2.out; obtain ⟨_, _, _, _, _, _⟩ := bc3 a7.out; obtain ⟨_, _, _, _, _, _, _, _⟩ := bc4 a0.out) | ((with_reducible refine gate_dst (N := 16) rfl ?_); refine Kd.R_lit (Kd.int .i64) _ 2 ?hg (N := 16) ?hd (xs := ([a0_1] : List Int)) (inner := [.int .i64 a0_1]) (ok := fun _ => True) (okp := fun _ => True) ?hr ?hp (fun _ hk => hk) trivial (Below.refl _ _) (Nat.le_refl _) (by simp) ?_; (case hd => rfl); (case hg => rfl); (case hr => first | (go_simp; done) | (go_simp; rfl)); (case hp => exact (Reps.one (show Kd.M (Kd.int .i64) _ _ _ a0_1 [.int .i64 a0_1] from rfl) (Reps.none _ _))); intro v462 w27 ho28 hb hg_ hnew_; clear hg_ hnew_; (first | rw [← a9.out] at ho28 | (simp only [Int.reduceToNat] at ho28; rw [← a9.out] at ho28)); have n0_ := Aside0.mk (Kd.R_lower ho28 (below_size (by repeat (first | (with_reducible first | exact HB.out | refine lS1_ ?_ a1.out | refine lS1_ ?_ a5.out) | exact HB.out)))); have n3_ := Aside0.mk (lP_ (by repeat (first | (with_reducible first | exact HB.out | refine lS1_ ?_ a1.out | refine lS1_ ?_ a5.out) | exact HB.out)) hb); clear HB; have ab := n0_; have HB := n3_; clear n0_ n3_ hb ho28))
   go_ret
   exact ⟨_, by first | rfl | (simp [errW_none, errW_some] <;> rfl) | (simp [*, errW_none, errW_some] <;> rfl), by (with_reducible repeat first | apply rA_ | apply rN_ | apply rD_); exact ab.out, by repeat (first | (with_reducible first | exact HB.out | apply lA1_ | apply lN_ | apply lD_ | refine lS1_ ?_ a1.out | refine lS1_ ?_ a5.out) | exact HB.out)⟩
theorem impl_in_eq (a b c : Int) : impl_in.f a b c = some (decide (b ≤ a ∧ a ≤ c)) := by
  unfold impl_in.f; split
  · congr 1; simp; omega
  · congr 1; simp; omega
set_option maxHeartbeats 4000000 in
set_option maxRecDepth 100000 in
theorem impl_isPlace.callsF (A0 : Option Addr) (n c0 : Nat) (x : Int) (hn : n ≤ 9223372036854775807) (w : World) :
    Calls Try.prog 57 #[.slice A0 n c0, .int .i64 x] w fun e w' => e = .returned (.bool (decide (0 ≤ x ∧ x ≤ (n : Int) - 1))) ∧ Below w.heap.size w w' := by
  have HI := Aside0.mk (impl_in_eq x 0 ((n : Int) - 1))
  obtain ⟨r, hr⟩ : ∃ r, r = decide (0 ≤ x ∧ x ≤ (n : Int) - 1) := ⟨_, rfl⟩
  rw [← hr] at HI ⊢
  clear hr
  have e1 : wrap64 ((n : Int) - 1) = (n : Int) - 1 := by unfold wrap64; omega
  go_enter Try.func57, Try.ntmps57
  go_wp2_with (go_at_call 41; refine (impl_in.calls _ _ _ _ _ HI.out).mono ?_; rintro e w' ⟨rfl, ⟨nd, rfl⟩⟩)
  go_ret
  exact ⟨rfl, lN_ (Below.refl _ _) _⟩
set_option maxHeartbeats 4000000 in
set_option maxRecDepth 100000 in
theorem impl_fault_1.calls (A0 : Option Addr) (n c0 B : Nat) (x : Int) (hn : n ≤ 9223372036854775807) (W : World) (hc : W.cell? ⟨B, 0, none⟩ = some (.slice A0 n c0)) :
    Calls Try.prog 70 (#[.int .i64 x] ++ #[.pointer (some ⟨B, 0, none⟩)]) W fun e w' => e = .returned (.bool (!decide (0 ≤ x ∧ x ≤ (n : Int) - 1))) ∧ Below W.heap.size W w' := by
  have hC := fun W' => impl_isPlace.callsF A0 n c0 x hn W'
  generalize decide (0 ≤ x ∧ x ≤ (n : Int) - 1) = r at hC ⊢
  go_enter Try.func70, Try.ntmps70
  go_wp2_with (go_at_call 57; refine (hC _).mono ?_; rintro e w' ⟨rfl, hb⟩)
  go_ret
  exact ⟨rfl, hb⟩
set_option maxHeartbeats 4000000 in
set_option maxRecDepth 100000 in
theorem impl_fault_2.calls (A0 : Option Addr) (l : List (S68)) (c0 B : Nat) (x : Int) (W : World) (hc : W.cell? ⟨B, 0, none⟩ = some (.slice A0 l.length c0)) (hr : Kd.C k68 W A0 l.length l) (h0 : 0 ≤ x) (h1 : x < (l.length : Int)) :
    Calls Try.prog 71 (#[.int .i64 x] ++ #[.pointer (some ⟨B, 0, none⟩)]) W fun e w' => e = .returned (.bool ((rd_T68 l x).f0 != 2)) ∧ Below W.heap.size W w' := by
  obtain ⟨ad, e, hx0, _⟩ := at_T68 hr x h0 h1
  clear hr
  subst e
  generalize (rd_T68 l x).f0 = y at hx0 ⊢
  obtain ⟨i, rfl⟩ := Int.eq_ofNat_of_zero_le h0
  rw [Int.toNat_natCast] at hx0
  have hlt : i < l.length := by omega
  go_enter Try.func71, Try.ntmps71
  go_wp2
  go_ret
  exact ⟨rfl, Below.refl _ _⟩
theorem fault_in (l1 : List S68) (ps : List Int) (hp : ps.any (fun x => !decide (0 ≤ x ∧ x ≤ (l1.length : Int) - 1)) = false) : ∀ x ∈ ps, 0 ≤ x ∧ x < (l1.length : Int) := by
  intro x hx
  have := List.any_eq_false.1 hp x hx
  simp at this
  omega
set_option maxHeartbeats 4000000 in
set_option maxRecDepth 100000 in
theorem fault_text (a0_0 a0_1 a0_2 a0_3 : Int) (A1 : Option Addr) (c1 : Nat) (l1 : List S68) (w : World) (hr1 : Kd.C k68 w A1 l1.length l1) (hl : l1.length ≤ 9223372036854775807) (hop : ¬ (1 ≤ a0_0 ∧ a0_0 ≤ 7)) :
    Calls Try.prog 50 #[.agg #[.int .i64 a0_0, .int .i64 a0_1, .int .i64 a0_2, .int .i64 a0_3], .slice A1 l1.length c1] w fun e w' => e = .returned (.int .i64 5) ∧ Below w.heap.size w w' := by
  have hmf : ∀ (fn : Fn) (first cap : Array Value) (w : World), (Instr.makeFunc fn first cap).run Try.prog w = .ok (.func fn first cap) w := fun _ _ _ _ => rfl
  have HB := Aside0.mk (Below.refl w.heap.size w)
  have HR := Aside0.mk hr1
  have HL := Aside0.mk hl
  clear hr1 hl
  have HI := Aside0.mk (show impl_in.f a0_0 1 7 = some false by rw [impl_in_eq, decide_eq_false hop])
  clear hop
  go_enter Try.func50, Try.ntmps50
  go_wp2_with (first
    | ((with_reducible refine gate_dst (N := 2) rfl ?_); refine box_event ?hg (N := 2) ?hd (cs := #[.int .i64 a0_0, .int .i64 a0_1, .int .i64 a0_2, .int .i64 a0_3]) (t := 68) ?hr ?_; (case hd => rfl); (case hg => rfl); (case hr => first | (go_simp; done) | (go_simp; rfl)); intro g2 hg w2 hbox hb; have n0_ := Aside0.mk (lP_ HB.out hb); have n1_ := Aside0.mk hbox; clear HB; have HB := n0_; have BK2 := n1_; clear n0_ n1_ hb hbox hg)
    | ((with_reducible refine gate_dst (N := 3) rfl ?_); refine box_event ?hg (N := 3) ?hd (cs := #[.slice A1 l1.length c1]) (t := 39) ?hr ?_; (case hd => rfl); (case hg => rfl); (case hr => first | (go_simp; done) | (go_simp; rfl)); intro g3 hg w3 hbox hb; have n0_ := Aside0.mk (lP_ HB.out hb); have n1_ := Aside0.mk (bB_ BK2.out hb); have n2_ := Aside0.mk hbox; clear HB BK2; have HB := n0_; have BK2 := n1_; have BK3 := n2_; clear n0_ n1_ n2_ hb hbox hg; have q0_ : w3.cell? ⟨g2, 0, none⟩ = some (.int .i64 a0_0) := (blk_cell BK2.out 0).trans rfl; have q1_ : w3.cell? ⟨g2, 1, none⟩ = some (.int .i64 a0_1) := (blk_cell BK2.out 1).trans rfl; have q2_ : w3.cell? ⟨g2, 2, none⟩ = some (.int .i64 a0_2) := (blk_cell BK2.out 2).trans rfl; have q3_ : w3.cell? ⟨g2, 3, none⟩ = some (.int .i64 a0_3) := (blk_cell BK2.out 3).trans rfl)
    | (go_at_call 41; with_reducible refine (impl_in.calls a0_0 1 7 _ _ HI.out).mono ?_; rintro e w4 ⟨rfl, hd⟩; have hb := hd.below; clear hd; have n0_ := Aside0.mk (lP_ HB.out hb); have n1_ := Aside0.mk (bB_ BK2.out hb); have n2_ := Aside0.mk (bB_ BK3.out hb); clear HB BK2 BK3 hb; have HB := n0_; have BK2 := n1_; have BK3 := n2_; clear n0_ n1_ n2_ q0_ q1_ q2_ q3_; have q0_ : w4.cell? ⟨g2, 0, none⟩ = some (.int .i64 a0_0) := (blk_cell BK2.out 0).trans rfl; have q1_ : w4.cell? ⟨g2, 1, none⟩ = some (.int .i64 a0_1) := (blk_cell BK2.out 1).trans rfl; have q2_ : w4.cell? ⟨g2, 2, none⟩ = some (.int .i64 a0_2) := (blk_cell BK2.out 2).trans rfl; have q3_ : w4.cell? ⟨g2, 3, none⟩ = some (.int .i64 a0_3) := (blk_cell BK2.out 3).trans rfl))
  go_ret
  exact ⟨rfl, HB.out⟩
set_option maxHeartbeats 4000000 in
set_option maxRecDepth 100000 in
theorem fault_n_a (a0_0 a0_1 a0_2 a0_3 : Int) (A1 : Option Addr) (c1 : Nat) (l1 : List S68) (w : World) (hr1 : Kd.C k68 w A1 l1.length l1) (hl : l1.length ≤ 9223372036854775807) (hI : impl_in.f a0_0 1 7 = some true) (hN : impl_namesOf.f 1 a0_0 = some (false, false, true)) (h : ¬ a0_1 = 0) :
    Calls Try.prog 50 #[.agg #[.int .i64 a0_0, .int .i64 a0_1, .int .i64 a0_2, .int .i64 a0_3], .slice A1 l1.length c1] w fun e w' => e = .returned (.int .i64 1) ∧ Below w.heap.size w w' := by
  have hmf : ∀ (fn : Fn) (first cap : Array Value) (w : World), (Instr.makeFunc fn first cap).run Try.prog w = .ok (.func fn first cap) w := fun _ _ _ _ => rfl
  have HB := Aside0.mk (Below.refl w.heap.size w)
  have HR := Aside0.mk hr1
  have HL := Aside0.mk hl
  clear hr1 hl
  have h0 : (a0_1 == 0) = false := by simpa using h
  have h1 : (a0_1 != 0) = true := by simpa using h
  have h2 : decide (a0_1 = 0) = false := decide_eq_false h
  clear h
  have HI := Aside0.mk hI
  have HN := Aside0.mk hN
  clear hI hN
  go_enter Try.func50, Try.ntmps50
  go_wp2_with (first
    | ((with_reducible refine gate_dst (N := 2) rfl ?_); refine box_event ?hg (N := 2) ?hd (cs := #[.int .i64 a0_0, .int .i64 a0_1, .int .i64 a0_2, .int .i64 a0_3]) (t := 68) ?hr ?_; (case hd => rfl); (case hg => rfl); (case hr => first | (go_simp; done) | (go_simp; rfl)); intro g2 hg w2 hbox hb; have n0_ := Aside0.mk (lP_ HB.out hb); have n1_ := Aside0.mk hbox; clear HB; have HB := n0_; have BK2 := n1_; clear n0_ n1_ hb hbox hg)
    | ((with_reducible refine gate_dst (N := 3) rfl ?_); refine box_event ?hg (N := 3) ?hd (cs := #[.slice A1 l1.length c1]) (t := 39) ?hr ?_; (case hd => rfl); (case hg => rfl); (case hr => first | (go_simp; done) | (go_simp; rfl)); intro g3 hg w3 hbox hb; have n0_ := Aside0.mk (lP_ HB.out hb); have n1_ := Aside0.mk (bB_ BK2.out hb); have n2_ := Aside0.mk hbox; clear HB BK2; have HB := n0_; have BK2 := n1_; have BK3 := n2_; clear n0_ n1_ n2_ hb hbox hg; have q0_ : w3.cell? ⟨g2, 0, none⟩ = some (.int .i64 a0_0) := (blk_cell BK2.out 0).trans rfl; have q1_ : w3.cell? ⟨g2, 1, none⟩ = some (.int .i64 a0_1) := (blk_cell BK2.out 1).trans rfl; have q2_ : w3.cell? ⟨g2, 2, none⟩ = some (.int .i64 a0_2) := (blk_cell BK2.out 2).trans rfl; have q3_ : w3.cell? ⟨g2, 3, none⟩ = some (.int .i64 a0_3) := (blk_cell BK2.out 3).trans rfl)
    | (go_at_call 41; with_reducible refine (impl_in.calls a0_0 1 7 _ _ HI.out).mono ?_; rintro e w4 ⟨rfl, hd⟩; have hb := hd.below; clear hd; have n0_ := Aside0.mk (lP_ HB.out hb); have n1_ := Aside0.mk (bB_ BK2.out hb); have n2_ := Aside0.mk (bB_ BK3.out hb); clear HB BK2 BK3 hb; have HB := n0_; have BK2 := n1_; have BK3 := n2_; clear n0_ n1_ n2_ q0_ q1_ q2_ q3_; have q0_ : w4.cell? ⟨g2, 0, none⟩ = some (.int .i64 a0_0) := (blk_cell BK2.out 0).trans rfl; have q1_ : w4.cell? ⟨g2, 1, none⟩ = some (.int .i64 a0_1) := (blk_cell BK2.out 1).trans rfl; have q2_ : w4.cell? ⟨g2, 2, none⟩ = some (.int .i64 a0_2) := (blk_cell BK2.out 2).trans rfl; have q3_ : w4.cell? ⟨g2, 3, none⟩ = some (.int .i64 a0_3) := (blk_cell BK2.out 3).trans rfl)
    | (go_at_call 68; with_reducible refine (impl_namesOf.calls 1 a0_0 false false true _ HN.out).mono ?_; rintro e w5 ⟨rfl, hb⟩; have n0_ := Aside0.mk (lP_ HB.out hb); have n1_ := Aside0.mk (bB_ BK2.out hb); have n2_ := Aside0.mk (bB_ BK3.out hb); clear HB BK2 BK3 hb; have HB := n0_; have BK2 := n1_; have BK3 := n2_; clear n0_ n1_ n2_ q0_ q1_ q2_ q3_)
    | ((with_reducible refine gate_dst (N := 5) rfl ?_); refine box_event ?hg (N := 5) ?hd (cs := #[.bool false, .bool false, .bool false]) (t := 96) ?hr ?_; (case hd => rfl); (case hg => rfl); (case hr => first | (go_simp; done) | (go_simp; rfl)); intro g5 hg w6 hbox hb; have n0_ := Aside0.mk (lP_ HB.out hb); have n1_ := Aside0.mk (bB_ BK2.out hb); have n2_ := Aside0.mk (bB_ BK3.out hb); have n3_ := Aside0.mk hbox; have n4_ := Aside0.mk (show w.heap.size ≤ g5 by rw [hg]; exact below_size HB.out); have n5_ := Aside0.mk (show g2 ≠ g5 by rw [hg]; exact Nat.ne_of_lt (blk_lt BK2.out)); have n6_ := Aside0.mk (show g3 ≠ g5 by rw [hg]; exact Nat.ne_of_lt (blk_lt BK3.out)); clear HB BK2 BK3; have HB := n0_; have BK2 := n1_; have BK3 := n2_; have BK5 := n3_; have GE5 := n4_; have NB25 := n5_; have NB35 := n6_; clear n0_ n1_ n2_ n3_ n4_ n5_ n6_ hb hbox hg; have hnb_ := NB25.out; have hnc_ := NB25.out.symm; have q0_ : w6.cell? ⟨g2, 0, none⟩ = some (.int .i64 a0_0) := (blk_cell BK2.out 0).trans rfl; have q1_ : w6.cell? ⟨g2, 1, none⟩ = some (.int .i64 a0_1) := (blk_cell BK2.out 1).trans rfl; have q2_ : w6.cell? ⟨g2, 2, none⟩ = some (.int .i64 a0_2) := (blk_cell BK2.out 2).trans rfl; have q3_ : w6.cell? ⟨g2, 3, none⟩ = some (.int .i64 a0_3) := (blk_cell BK2.out 3).trans rfl; have p0_ : w6.cell? ⟨g5, 0, none⟩ = some (.bool false) := (blk_cell BK5.out 0).trans rfl; have p1_ : w6.cell? ⟨g5, 1, none⟩ = some (.bool false) := (blk_cell BK5.out 1).trans rfl; have p2_ : w6.cell? ⟨g5, 2, none⟩ = some (.bool false) := (blk_cell BK5.out 2).trans rfl; have f0_ := blk_frozen BK5.out 0; have f1_ := blk_frozen BK5.out 1; have f2_ := blk_frozen BK5.out 2))
  go_ret
  exact ⟨rfl, (by repeat (first | exact HB.out | refine lS1_ ?_ GE5.out))⟩
set_option maxHeartbeats 4000000 in
set_option maxRecDepth 100000 in
theorem fault_n_b (a0_0 a0_2 a0_3 : Int) (A1 : Option Addr) (c1 : Nat) (l1 : List S68) (w : World) (hr1 : Kd.C k68 w A1 l1.length l1) (hl : l1.length ≤ 9223372036854775807) (hI : impl_in.f a0_0 1 7 = some true) (hN : impl_namesOf.f 1 a0_0 = some (false, false, true)) (h : ¬ a0_2 = 0) :
    Calls Try.prog 50 #[.agg #[.int .i64 a0_0, .int .i64 0, .int .i64 a0_2, .int .i64 a0_3], .slice A1 l1.length c1] w fun e w' => e = .returned (.int .i64 1) ∧ Below w.heap.size w w' := by
  have hmf : ∀ (fn : Fn) (first cap : Array Value) (w : World), (Instr.makeFunc fn first cap).run Try.prog w = .ok (.func fn first cap) w := fun _ _ _ _ => rfl
  have HB := Aside0.mk (Below.refl w.heap.size w)
  have HR := Aside0.mk hr1
  have HL := Aside0.mk hl
  clear hr1 hl
  have h0 : (a0_2 == 0) = false := by simpa using h
  have h1 : (a0_2 != 0) = true := by simpa using h
  have h2 : decide (a0_2 = 0) = false := decide_eq_false h
  clear h
  have HI := Aside0.mk hI
  have HN := Aside0.mk hN
  clear hI hN
  go_enter Try.func50, Try.ntmps50
  go_wp2_with (first
    | ((with_reducible refine gate_dst (N := 2) rfl ?_); refine box_event ?hg (N := 2) ?hd (cs := #[.int .i64 a0_0, .int .i64 0, .int .i64 a0_2, .int .i64 a0_3]) (t := 68) ?hr ?_; (case hd => rfl); (case hg => rfl); (case hr => first | (go_simp; done) | (go_simp; rfl)); intro g2 hg w2 hbox hb; have n0_ := Aside0.mk (lP_ HB.out hb); have n1_ := Aside0.mk hbox; clear HB; have HB := n0_; have BK2 := n1_; clear n0_ n1_ hb hbox hg)
    | ((with_reducible refine gate_dst (N := 3) rfl ?_); refine box_event ?hg (N := 3) ?hd (cs := #[.slice A1 l1.length c1]) (t := 39) ?hr ?_; (case hd => rfl); (case hg => rfl); (case hr => first | (go_simp; done) | (go_simp; rfl)); intro g3 hg w3 hbox hb; have n0_ := Aside0.mk (lP_ HB.out hb); have n1_ := Aside0.mk (bB_ BK2.out hb); have n2_ := Aside0.mk hbox; clear HB BK2; have HB := n0_; have BK2 := n1_; have BK3 := n2_; clear n0_ n1_ n2_ hb hbox hg; have q0_ : w3.cell? ⟨g2, 0, none⟩ = some (.int .i64 a0_0) := (blk_cell BK2.out 0).trans rfl; have q1_ : w3.cell? ⟨g2, 1, none⟩ = some (.int .i64 0) := (blk_cell BK2.out 1).trans rfl; have q2_ : w3.cell? ⟨g2, 2, none⟩ = some (.int .i64 a0_2) := (blk_cell BK2.out 2).trans rfl; have q3_ : w3.cell? ⟨g2, 3, none⟩ = some (.int .i64 a0_3) := (blk_cell BK2.out 3).trans rfl)
    | (go_at_call 41; with_reducible refine (impl_in.calls a0_0 1 7 _ _ HI.out).mono ?_; rintro e w4 ⟨rfl, hd⟩; have hb := hd.below; clear hd; have n0_ := Aside0.mk (lP_ HB.out hb); have n1_ := Aside0.mk (bB_ BK2.out hb); have n2_ := Aside0.mk (bB_ BK3.out hb); clear HB BK2 BK3 hb; have HB := n0_; have BK2 := n1_; have BK3 := n2_; clear n0_ n1_ n2_ q0_ q1_ q2_ q3_; have q0_ : w4.cell? ⟨g2, 0, none⟩ = some (.int .i64 a0_0) := (blk_cell BK2.out 0).trans rfl; have q1_ : w4.cell? ⟨g2, 1, none⟩ = some (.int .i64 0) := (blk_cell BK2.out 1).trans rfl; have q2_ : w4.cell? ⟨g2, 2, none⟩ = some (.int .i64 a0_2) := (blk_cell BK2.out 2).trans rfl; have q3_ : w4.cell? ⟨g2, 3, none⟩ = some (.int .i64 a0_3) := (blk_cell BK2.out 3).trans rfl)
    | (go_at_call 68; with_reducible refine (impl_namesOf.calls 1 a0_0 false false true _ HN.out).mono ?_; rintro e w5 ⟨rfl, hb⟩; have n0_ := Aside0.mk (lP_ HB.out hb); have n1_ := Aside0.mk (bB_ BK2.out hb); have n2_ := Aside0.mk (bB_ BK3.out hb); clear HB BK2 BK3 hb; have HB := n0_; have BK2 := n1_; have BK3 := n2_; clear n0_ n1_ n2_ q0_ q1_ q2_ q3_)
    | ((with_reducible refine gate_dst (N := 5) rfl ?_); refine box_event ?hg (N := 5) ?hd (cs := #[.bool false, .bool false, .bool false]) (t := 96) ?hr ?_; (case hd => rfl); (case hg => rfl); (case hr => first | (go_simp; done) | (go_simp; rfl)); intro g5 hg w6 hbox hb; have n0_ := Aside0.mk (lP_ HB.out hb); have n1_ := Aside0.mk (bB_ BK2.out hb); have n2_ := Aside0.mk (bB_ BK3.out hb); have n3_ := Aside0.mk hbox; have n4_ := Aside0.mk (show w.heap.size ≤ g5 by rw [hg]; exact below_size HB.out); have n5_ := Aside0.mk (show g2 ≠ g5 by rw [hg]; exact Nat.ne_of_lt (blk_lt BK2.out)); have n6_ := Aside0.mk (show g3 ≠ g5 by rw [hg]; exact Nat.ne_of_lt (blk_lt BK3.out)); clear HB BK2 BK3; have HB := n0_; have BK2 := n1_; have BK3 := n2_; have BK5 := n3_; have GE5 := n4_; have NB25 := n5_; have NB35 := n6_; clear n0_ n1_ n2_ n3_ n4_ n5_ n6_ hb hbox hg; have hnb_ := NB25.out; have hnc_ := NB25.out.symm; have q0_ : w6.cell? ⟨g2, 0, none⟩ = some (.int .i64 a0_0) := (blk_cell BK2.out 0).trans rfl; have q1_ : w6.cell? ⟨g2, 1, none⟩ = some (.int .i64 0) := (blk_cell BK2.out 1).trans rfl; have q2_ : w6.cell? ⟨g2, 2, none⟩ = some (.int .i64 a0_2) := (blk_cell BK2.out 2).trans rfl; have q3_ : w6.cell? ⟨g2, 3, none⟩ = some (.int .i64 a0_3) := (blk_cell BK2.out 3).trans rfl; have p0_ : w6.cell? ⟨g5, 0, none⟩ = some (.bool false) := (blk_cell BK5.out 0).trans rfl; have p1_ : w6.cell? ⟨g5, 1, none⟩ = some (.bool false) := (blk_cell BK5.out 1).trans rfl; have p2_ : w6.cell? ⟨g5, 2, none⟩ = some (.bool false) := (blk_cell BK5.out 2).trans rfl; have f0_ := blk_frozen BK5.out 0; have f1_ := blk_frozen BK5.out 1; have f2_ := blk_frozen BK5.out 2))
  go_ret
  exact ⟨rfl, (by repeat (first | exact HB.out | refine lS1_ ?_ GE5.out))⟩
set_option maxHeartbeats 4000000 in
set_option maxRecDepth 100000 in
theorem fault_n_n (a0_0 a0_3 : Int) (A1 : Option Addr) (c1 : Nat) (l1 : List S68) (w : World) (hr1 : Kd.C k68 w A1 l1.length l1) (hl : l1.length ≤ 9223372036854775807) (hI : impl_in.f a0_0 1 7 = some true) (hN : impl_namesOf.f 1 a0_0 = some (false, false, true)) (h : ¬ (0 ≤ a0_3 ∧ a0_3 ≤ 9999)) :
    Calls Try.prog 50 #[.agg #[.int .i64 a0_0, .int .i64 0, .int .i64 0, .int .i64 a0_3], .slice A1 l1.length c1] w fun e w' => e = .returned (.int .i64 3) ∧ Below w.heap.size w w' := by
  have hmf : ∀ (fn : Fn) (first cap : Array Value) (w : World), (Instr.makeFunc fn first cap).run Try.prog w = .ok (.func fn first cap) w := fun _ _ _ _ => rfl
  have HB := Aside0.mk (Below.refl w.heap.size w)
  have HR := Aside0.mk hr1
  have HL := Aside0.mk hl
  clear hr1 hl
  have HI := Aside0.mk hI
  have HN := Aside0.mk hN
  clear hI hN
  have HI2 := Aside0.mk (show impl_in.f a0_3 0 9999 = some false by rw [impl_in_eq]; rw [decide_eq_false h])
  clear h
  go_enter Try.func50, Try.ntmps50
  go_wp2_with (first
    | ((with_reducible refine gate_dst (N := 2) rfl ?_); refine box_event ?hg (N := 2) ?hd (cs := #[.int .i64 a0_0, .int .i64 0, .int .i64 0, .int .i64 a0_3]) (t := 68) ?hr ?_; (case hd => rfl); (case hg => rfl); (case hr => first | (go_simp; done) | (go_simp; rfl)); intro g2 hg w2 hbox hb; have n0_ := Aside0.mk (lP_ HB.out hb); have n1_ := Aside0.mk hbox; clear HB; have HB := n0_; have a0 := n1_; clear n0_ n1_ hb hbox hg)
    | ((with_reducible refine gate_dst (N := 3) rfl ?_); refine box_event ?hg (N := 3) ?hd (cs := #[.slice A1 l1.length c1]) (t := 39) ?hr ?_; (case hd => rfl); (case hg => rfl); (case hr => first | (go_simp; done) | (go_simp; rfl)); intro g3 hg w3 hbox hb; have n0_ := Aside0.mk (lP_ HB.out hb); have n1_ := Aside0.mk (bB_ a0.out hb); have n2_ := Aside0.mk hbox; clear HB a0; have HB := n0_; have a0 := n1_; have a1 := n2_; clear n0_ n1_ n2_ hb hbox hg; have q0_ : w3.cell? ⟨g2, 0, none⟩ = some (.int .i64 a0_0) := (blk_cell a0.out 0).trans rfl; have q1_ : w3.cell? ⟨g2, 1, none⟩ = some (.int .i64 0) := (blk_cell a0.out 1).trans rfl; have q2_ : w3.cell? ⟨g2, 2, none⟩ = some (.int .i64 0) := (blk_cell a0.out 2).trans rfl; have q3_ : w3.cell? ⟨g2, 3, none⟩ = some (.int .i64 a0_3) := (blk_cell a0.out 3).trans rfl)
    | (go_at_call 41; with_reducible refine (impl_in.calls a0_0 1 7 _ _ HI.out).mono ?_; rintro e w4 ⟨rfl, hd⟩; have hb := hd.below; clear hd; have n0_ := Aside0.mk (lP_ HB.out hb); have n1_ := Aside0.mk (bB_ a0.out hb); have n2_ := Aside0.mk (bB_ a1.out hb); clear HB a0 a1 hb; have HB := n0_; have a0 := n1_; have a1 := n2_; clear n0_ n1_ n2_ q0_ q1_ q2_ q3_; have q0_ : w4.cell? ⟨g2, 0, none⟩ = some (.int .i64 a0_0) := (blk_cell a0.out 0).trans rfl; have q1_ : w4.cell? ⟨g2, 1, none⟩ = some (.int .i64 0) := (blk_cell a0.out 1).trans rfl; have q2_ : w4.cell? ⟨g2, 2, none⟩ = some (.int .i64 0) := (blk_cell a0.out 2).trans rfl; have q3_ : w4.cell? ⟨g2, 3, none⟩ = some (.int .i64 a0_3) := (blk_cell a0.out 3).trans rfl)
    | (go_at_call 68; with_reducible refine (impl_namesOf.calls 1 a0_0 false false true _ HN.out).mono ?_; rintro e w5 ⟨rfl, hb⟩; have n0_ := Aside0.mk (lP_ HB.out hb); have n1_ := Aside0.mk (bB_ a0.out hb); have n2_ := Aside0.mk (bB_ a1.out hb); clear HB a0 a1 hb; have HB := n0_; have a0 := n1_; have a1 := n2_; clear n0_ n1_ n2_ q0_ q1_ q2_ q3_)
    | ((with_reducible refine gate_dst (N := 5) rfl ?_); refine box_event ?hg (N := 5) ?hd (cs := #[.bool false, .bool false, .bool false]) (t := 96) ?hr ?_; (case hd => rfl); (case hg => rfl); (case hr => first | (go_simp; done) | (go_simp; rfl)); intro g5 hg w6 hbox hb; have n0_ := Aside0.mk (lP_ HB.out hb); have n1_ := Aside0.mk (bB_ a0.out hb); have n2_ := Aside0.mk (bB_ a1.out hb); have n3_ := Aside0.mk hbox; have n4_ := Aside0.mk (show w.heap.size ≤ g5 by rw [hg]; exact below_size HB.out); have n5_ := Aside0.mk (show g2 ≠ g5 by rw [hg]; exact Nat.ne_of_lt (blk_lt a0.out)); have n6_ := Aside0.mk (show g3 ≠ g5 by rw [hg]; exact Nat.ne_of_lt (blk_lt a1.out)); clear HB a0 a1; have HB := n0_; have a0 := n1_; have a1 := n2_; have a2 := n3_; have a3 := n4_; have NB25 := n5_; have NB35 := n6_; clear n0_ n1_ n2_ n3_ n4_ n5_ n6_ hb hbox hg; have hnb_ := NB25.out; have hnc_ := NB25.out.symm; have q0_ : w6.cell? ⟨g2, 0, none⟩ = some (.int .i64 a0_0) := (blk_cell a0.out 0).trans rfl; have q1_ : w6.cell? ⟨g2, 1, none⟩ = some (.int .i64 0) := (blk_cell a0.out 1).trans rfl; have q2_ : w6.cell? ⟨g2, 2, none⟩ = some (.int .i64 0) := (blk_cell a0.out 2).trans rfl; have q3_ : w6.cell? ⟨g2, 3, none⟩ = some (.int .i64 a0_3) := (blk_cell a0.out 3).trans rfl; have p0_ : w6.cell? ⟨g5, 0, none⟩ = some (.bool false) := (blk_cell a2.out 0).trans rfl; have p1_ : w6.cell? ⟨g5, 1, none⟩ = some (.bool false) := (blk_cell a2.out 1).trans rfl; have p2_ : w6.cell? ⟨g5, 2, none⟩ = some (.bool false) := (blk_cell a2.out 2).trans rfl; have f0_ := blk_frozen a2.out 0; have f1_ := blk_frozen a2.out 1; have f2_ := blk_frozen a2.out 2)
    | (go_at_call 41; with_reducible refine (impl_in.calls a0_3 0 9999 _ _ HI2.out).mono ?_; rintro e w7 ⟨rfl, hd⟩; have hb := hd.below; clear hd; have n0_ := Aside0.mk (lP_ (by repeat (first | exact HB.out | refine lS1_ ?_ a3.out)) hb); have n1_ := Aside0.mk (bB_ (o := .cells #[.int .i64 a0_0, .int .i64 0, .int .i64 0, .int .i64 a0_3] 68 (0, 0)) (by repeat (first | exact a0.out | refine bF_ ?_ NB25.out _)) hb); have n2_ := Aside0.mk (bB_ (o := .cells #[.slice A1 l1.length c1] 39 (0, 0)) (by repeat (first | exact a1.out | refine bF_ ?_ NB35.out _)) hb); clear HB a0 a1 hb; have HB := n0_; have a0 := n1_; have a1 := n2_; clear n0_ n1_ n2_; (try clear q0_ q1_ q2_ q3_); have q0_ : w7.cell? ⟨g2, 0, none⟩ = some (.int .i64 a0_0) := (blk_cell a0.out 0).trans rfl; have q1_ : w7.cell? ⟨g2, 1, none⟩ = some (.int .i64 0) := (blk_cell a0.out 1).trans rfl; have q2_ : w7.cell? ⟨g2, 2, none⟩ = some (.int .i64 0) := (blk_cell a0.out 2).trans rfl; have q3_ : w7.cell? ⟨g2, 3, none⟩ = some (.int .i64 a0_3) := (blk_cell a0.out 3).trans rfl))
  go_ret
  exact ⟨rfl, (by repeat (first | exact HB.out | refine lS1_ ?_ a3.out))⟩
set_option maxHeartbeats 4000000 in
set_option maxRecDepth 100000 in
theorem fault_n_ok (a0_0 a0_3 : Int) (A1 : Option Addr) (c1 : Nat) (l1 : List S68) (w : World) (hr1 : Kd.C k68 w A1 l1.length l1) (hl : l1.length ≤ 9223372036854775807) (hI : impl_in.f a0_0 1 7 = some true) (hN : impl_namesOf.f 1 a0_0 = some (false, false, true)) (h6 : ¬ a0_0 = 6) (h7 : ¬ a0_0 = 7) (hP : impl_Term_parts.f 1 a0_0 0 0 a0_3 = some ([] : List Int)) (h : 0 ≤ a0_3 ∧ a0_3 ≤ 9999) :
    Calls Try.prog 50 #[.agg #[.int .i64 a0_0, .int .i64 0, .int .i64 0, .int .i64 a0_3], .slice A1 l1.length c1] w fun e w' => e = .returned (.int .i64 0) ∧ Below w.heap.size w w' := by
  have hmf : ∀ (fn : Fn) (first cap : Array Value) (w : World), (Instr.makeFunc fn first cap).run Try.prog w = .ok (.func fn first cap) w := fun _ _ _ _ => rfl
  have HB := Aside0.mk (Below.refl w.heap.size w)
  have HR := Aside0.mk hr1
  have HL := Aside0.mk hl
  clear hr1 hl
  have HI := Aside0.mk hI
  have HN := Aside0.mk hN
  clear hI hN
  have h60 : (a0_0 == 6) = false := by simpa using h6
  have h61 : (a0_0 != 6) = true := by simpa using h6
  have h62 : decide (a0_0 = 6) = false := decide_eq_false h6
  have h70 : (a0_0 == 7) = false := by simpa using h7
  have h71 : (a0_0 != 7) = true := by simpa using h7
  have h72 : decide (a0_0 = 7) = false := decide_eq_false h7
  clear h6 h7
  have HI2 := Aside0.mk (show impl_in.f a0_3 0 9999 = some true by rw [impl_in_eq]; rw [decide_eq_true h])
  clear h
  have HP := Aside0.mk hP
  clear hP
  have HANY := Aside0.mk (show ([] : List Int).any (fun x => !decide (0 ≤ x ∧ x ≤ (l1.length : Int) - 1)) = false from rfl)
  go_enter Try.func50, Try.ntmps50
  go_wp2_with (first
    | ((with_reducible refine gate_dst (N := 2) rfl ?_); refine box_event ?hg (N := 2) ?hd (cs := #[.int .i64 a0_0, .int .i64 0, .int .i64 0, .int .i64 a0_3]) (t := 68) ?hr ?_; (case hd => rfl); (case hg => rfl); (case hr => first | (go_simp; done) | (go_simp; rfl)); intro g2 hg w2 hbox hb; have n0_ := Aside0.mk (lP_ HB.out hb); have n1_ := Aside0.mk hbox; clear HB; have HB := n0_; have a0 := n1_; clear n0_ n1_ hb hbox hg)
    | ((with_reducible refine gate_dst (N := 3) rfl ?_); refine box_event ?hg (N := 3) ?hd (cs := #[.slice A1 l1.length c1]) (t := 39) ?hr ?_; (case hd => rfl); (case hg => rfl); (case hr => first | (go_simp; done) | (go_simp; rfl)); intro g3 hg w3 hbox hb; have n0_ := Aside0.mk (lP_ HB.out hb); have n1_ := Aside0.mk (bB_ a0.out hb); have n2_ := Aside0.mk hbox; clear HB a0; have HB := n0_; have a0 := n1_; have a1 := n2_; clear n0_ n1_ n2_ hb hbox hg; have q0_ : w3.cell? ⟨g2, 0, none⟩ = some (.int .i64 a0_0) := (blk_cell a0.out 0).trans rfl; have q1_ : w3.cell? ⟨g2, 1, none⟩ = some (.int .i64 0) := (blk_cell a0.out 1).trans rfl; have q2_ : w3.cell? ⟨g2, 2, none⟩ = some (.int .i64 0) := (blk_cell a0.out 2).trans rfl; have q3_ : w3.cell? ⟨g2, 3, none⟩ = some (.int .i64 a0_3) := (blk_cell a0.out 3).trans rfl)
    | (go_at_call 41; with_reducible refine (impl_in.calls a0_0 1 7 _ _ HI.out).mono ?_; rintro e w4 ⟨rfl, hd⟩; have hb := hd.below; clear hd; have n0_ := Aside0.mk (lP_ HB.out hb); have n1_ := Aside0.mk (bB_ a0.out hb); have n2_ := Aside0.mk (bB_ a1.out hb); clear HB a0 a1 hb; have HB := n0_; have a0 := n1_; have a1 := n2_; clear n0_ n1_ n2_ q0_ q1_ q2_ q3_; have q0_ : w4.cell? ⟨g2, 0, none⟩ = some (.int .i64 a0_0) := (blk_cell a0.out 0).trans rfl; have q1_ : w4.cell? ⟨g2, 1, none⟩ = some (.int .i64 0) := (blk_cell a0.out 1).trans rfl; have q2_ : w4.cell? ⟨g2, 2, none⟩ = some (.int .i64 0) := (blk_cell a0.out 2).trans rfl; have q3_ : w4.cell? ⟨g2, 3, none⟩ = some (.int .i64 a0_3) := (blk_cell a0.out 3).trans rfl)
    | (go_at_call 68; with_reducible refine (impl_namesOf.calls 1 a0_0 false false true _ HN.out).mono ?_; rintro e w5 ⟨rfl, hb⟩; have n0_ := Aside0.mk (lP_ HB.out hb); have n1_ := Aside0.mk (bB_ a0.out hb); have n2_ := Aside0.mk (bB_ a1.out hb); clear HB a0 a1 hb; have HB := n0_; have a0 := n1_; have a1 := n2_; clear n0_ n1_ n2_ q0_ q1_ q2_ q3_)
    | ((with_reducible refine gate_dst (N := 5) rfl ?_); refine box_event ?hg (N := 5) ?hd (cs := #[.bool false, .bool false, .bool false]) (t := 96) ?hr ?_; (case hd => rfl); (case hg => rfl); (case hr => first | (go_simp; done) | (go_simp; rfl)); intro g5 hg w6 hbox hb; have n0_ := Aside0.mk (lP_ HB.out hb); have n1_ := Aside0.mk (bB_ a0.out hb); have n2_ := Aside0.mk (bB_ a1.out hb); have n3_ := Aside0.mk hbox; have n4_ := Aside0.mk (show w.heap.size ≤ g5 by rw [hg]; exact below_size HB.out); have n5_ := Aside0.mk (show g2 ≠ g5 by rw [hg]; exact Nat.ne_of_lt (blk_lt a0.out)); have n6_ := Aside0.mk (show g3 ≠ g5 by rw [hg]; exact Nat.ne_of_lt (blk_lt a1.out)); clear HB a0 a1; have HB := n0_; have a0 := n1_; have a1 := n2_; have a2 := n3_; have a3 := n4_; have NB25 := n5_; have NB35 := n6_; clear n0_ n1_ n2_ n3_ n4_ n5_ n6_ hb hbox hg; have hnb_ := NB25.out; have hnc_ := NB25.out.symm; have q0_ : w6.cell? ⟨g2, 0, none⟩ = some (.int .i64 a0_0) := (blk_cell a0.out 0).trans rfl; have q1_ : w6.cell? ⟨g2, 1, none⟩ = some (.int .i64 0) := (blk_cell a0.out 1).trans rfl; have q2_ : w6.cell? ⟨g2, 2, none⟩ = some (.int .i64 0) := (blk_cell a0.out 2).trans rfl; have q3_ : w6.cell? ⟨g2, 3, none⟩ = some (.int .i64 a0_3) := (blk_cell a0.out 3).trans rfl; have p0_ : w6.cell? ⟨g5, 0, none⟩ = some (.bool false) := (blk_cell a2.out 0).trans rfl; have p1_ : w6.cell? ⟨g5, 1, none⟩ = some (.bool false) := (blk_cell a2.out 1).trans rfl; have p2_ : w6.cell? ⟨g5, 2, none⟩ = some (.bool false) := (blk_cell a2.out 2).trans rfl; have f0_ := blk_frozen a2.out 0; have f1_ := blk_frozen a2.out 1; have f2_ := blk_frozen a2.out 2)
    | (go_at_call 41; with_reducible refine (impl_in.calls a0_3 0 9999 _ _ HI2.out).mono ?_; rintro e w7 ⟨rfl, hd⟩; have hb := hd.below; clear hd; have n0_ := Aside0.mk (lP_ (by repeat (first | exact HB.out | refine lS1_ ?_ a3.out)) hb); have n1_ := Aside0.mk (bB_ (o := .cells #[.int .i64 a0_0, .int .i64 0, .int .i64 0, .int .i64 a0_3] 68 (0, 0)) (by repeat (first | exact a0.out | refine bF_ ?_ NB25.out _)) hb); have n2_ := Aside0.mk (bB_ (o := .cells #[.slice A1 l1.length c1] 39 (0, 0)) (by repeat (first | exact a1.out | refine bF_ ?_ NB35.out _)) hb); clear HB a0 a1 hb; have HB := n0_; have a0 := n1_; have a1 := n2_; clear n0_ n1_ n2_; (try clear q0_ q1_ q2_ q3_); have q0_ : w7.cell? ⟨g2, 0, none⟩ = some (.int .i64 a0_0) := (blk_cell a0.out 0).trans rfl; have q1_ : w7.cell? ⟨g2, 1, none⟩ = some (.int .i64 0) := (blk_cell a0.out 1).trans rfl; have q2_ : w7.cell? ⟨g2, 2, none⟩ = some (.int .i64 0) := (blk_cell a0.out 2).trans rfl; have q3_ : w7.cell? ⟨g2, 3, none⟩ = some (.int .i64 a0_3) := (blk_cell a0.out 3).trans rfl)
    | (go_at_call 69; (try clear HO); with_reducible refine (impl_Term_parts.calls 1 a0_0 0 0 a0_3 _ _ HP.out).mono ?_; rintro e w8 ⟨v8, rfl, ho, hb⟩; have HO := Aside0.mk ho; clear ho; obtain ⟨Ao, co, eo⟩ := Kd.R_slice HO.out; subst eo; have n0_ := Aside0.mk (lP_ (by repeat (first | exact HB.out | refine lS1_ ?_ a3.out)) hb); have n1_ := Aside0.mk (bB_ (o := .cells #[.int .i64 a0_0, .int .i64 0, .int .i64 0, .int .i64 a0_3] 68 (0, 0)) (by repeat (first | exact a0.out | refine bF_ ?_ NB25.out _)) hb); have n2_ := Aside0.mk (bB_ (o := .cells #[.slice A1 l1.length c1] 39 (0, 0)) (by repeat (first | exact a1.out | refine bF_ ?_ NB35.out _)) hb); clear HB a0 a1 hb; have HB := n0_; have a0 := n1_; have a1 := n2_; clear n0_ n1_ n2_; (try clear q0_ q1_ q2_ q3_); have q0_ : w8.cell? ⟨g2, 0, none⟩ = some (.int .i64 a0_0) := (blk_cell a0.out 0).trans rfl; have q1_ : w8.cell? ⟨g2, 1, none⟩ = some (.int .i64 0) := (blk_cell a0.out 1).trans rfl; have q2_ : w8.cell? ⟨g2, 2, none⟩ = some (.int .i64 0) := (blk_cell a0.out 2).trans rfl; have q3_ : w8.cell? ⟨g2, 3, none⟩ = some (.int .i64 a0_3) := (blk_cell a0.out 3).trans rfl)
    | (go_at_call 55; refine (slices_ContainsFunc_int64_int64.calls 70 #[.pointer (some ⟨g3, 0, none⟩)] (fun x => !decide (0 ≤ x ∧ x ≤ (l1.length : Int) - 1)) Ao co _ _ (enters_of Try.func70 (by kernel_rfl) rfl) (fun W x _ hB => (impl_fault_1.calls A1 l1.length c1 g3 x HL.out W ((hB.cell (p := ⟨g3, 0, none⟩) (blk_lt a1.out)).trans ((blk_cell a1.out 0).trans rfl))).mono (fun _ _ h => ⟨h.1, lP_ hB h.2⟩)) (Kd.R_reads' HO.out).2.2 (by simp)).mono ?_; rintro e w9 ⟨he, hb⟩; rw [HANY.out] at he; subst he; have n0_ := Aside0.mk (lP_ (by repeat (first | exact HB.out | refine lS1_ ?_ a3.out)) hb); have n1_ := Aside0.mk (bB_ (o := .cells #[.int .i64 a0_0, .int .i64 0, .int .i64 0, .int .i64 a0_3] 68 (0, 0)) (by repeat (first | exact a0.out | refine bF_ ?_ NB25.out _)) hb); have n2_ := Aside0.mk (bB_ (o := .cells #[.slice A1 l1.length c1] 39 (0, 0)) (by repeat (first | exact a1.out | refine bF_ ?_ NB35.out _)) hb); clear HB a0 a1 hb; have HB := n0_; have a0 := n1_; have a1 := n2_; clear n0_ n1_ n2_; (try clear q0_ q1_ q2_ q3_); have q0_ : w9.cell? ⟨g2, 0, none⟩ = some (.int .i64 a0_0) := (blk_cell a0.out 0).trans rfl; have q1_ : w9.cell? ⟨g2, 1, none⟩ = some (.int .i64 0) := (blk_cell a0.out 1).trans rfl; have q2_ : w9.cell? ⟨g2, 2, none⟩ = some (.int .i64 0) := (blk_cell a0.out 2).trans rfl; have q3_ : w9.cell? ⟨g2, 3, none⟩ = some (.int .i64 a0_3) := (blk_cell a0.out 3).trans rfl))
  go_ret
  exact ⟨rfl, (by repeat (first | exact HB.out | refine lS1_ ?_ a3.out))⟩
set_option maxHeartbeats 4000000 in
set_option maxRecDepth 100000 in
theorem fault_p_f (a0_0 a0_1 a0_2 a0_3 : Int) (A1 : Option Addr) (c1 : Nat) (l1 : List S68) (w : World) (hr1 : Kd.C k68 w A1 l1.length l1) (hl : l1.length ≤ 9223372036854775807) (hI : impl_in.f a0_0 1 7 = some true) (hN : impl_namesOf.f 1 a0_0 = some (true, true, false)) (h : ¬ a0_3 = 0) :
    Calls Try.prog 50 #[.agg #[.int .i64 a0_0, .int .i64 a0_1, .int .i64 a0_2, .int .i64 a0_3], .slice A1 l1.length c1] w fun e w' => e = .returned (.int .i64 1) ∧ Below w.heap.size w w' := by
  have hmf : ∀ (fn : Fn) (first cap : Array Value) (w : World), (Instr.makeFunc fn first cap).run Try.prog w = .ok (.func fn first cap) w := fun _ _ _ _ => rfl
  have HB := Aside0.mk (Below.refl w.heap.size w)
  have HR := Aside0.mk hr1
  have HL := Aside0.mk hl
  clear hr1 hl
  have h0 : (a0_3 == 0) = false := by simpa using h
  have h1 : (a0_3 != 0) = true := by simpa using h
  have h2 : decide (a0_3 = 0) = false := decide_eq_false h
  clear h
  have HI := Aside0.mk hI
  have HN := Aside0.mk hN
  clear hI hN
  go_enter Try.func50, Try.ntmps50
  go_wp2_with (first
    | ((with_reducible refine gate_dst (N := 2) rfl ?_); refine box_event ?hg (N := 2) ?hd (cs := #[.int .i64 a0_0, .int .i64 a0_1, .int .i64 a0_2, .int .i64 a0_3]) (t := 68) ?hr ?_; (case hd => rfl); (case hg => rfl); (case hr => first | (go_simp; done) | (go_simp; rfl)); intro g2 hg w2 hbox hb; have n0_ := Aside0.mk (lP_ HB.out hb); have n1_ := Aside0.mk hbox; clear HB; have HB := n0_; have BK2 := n1_; clear n0_ n1_ hb hbox hg)
    | ((with_reducible refine gate_dst (N := 3) rfl ?_); refine box_event ?hg (N := 3) ?hd (cs := #[.slice A1 l1.length c1]) (t := 39) ?hr ?_; (case hd => rfl); (case hg => rfl); (case hr => first | (go_simp; done) | (go_simp; rfl)); intro g3 hg w3 hbox hb; have n0_ := Aside0.mk (lP_ HB.out hb); have n1_ := Aside0.mk (bB_ BK2.out hb); have n2_ := Aside0.mk hbox; clear HB BK2; have HB := n0_; have BK2 := n1_; have BK3 := n2_; clear n0_ n1_ n2_ hb hbox hg; have q0_ : w3.cell? ⟨g2, 0, none⟩ = some (.int .i64 a0_0) := (blk_cell BK2.out 0).trans rfl; have q1_ : w3.cell? ⟨g2, 1, none⟩ = some (.int .i64 a0_1) := (blk_cell BK2.out 1).trans rfl; have q2_ : w3.cell? ⟨g2, 2, none⟩ = some (.int .i64 a0_2) := (blk_cell BK2.out 2).trans rfl; have q3_ : w3.cell? ⟨g2, 3, none⟩ = some (.int .i64 a0_3) := (blk_cell BK2.out 3).trans rfl)
    | (go_at_call 41; with_reducible refine (impl_in.calls a0_0 1 7 _ _ HI.out).mono ?_; rintro e w4 ⟨rfl, hd⟩; have hb := hd.below; clear hd; have n0_ := Aside0.mk (lP_ HB.out hb); have n1_ := Aside0.mk (bB_ BK2.out hb); have n2_ := Aside0.mk (bB_ BK3.out hb); clear HB BK2 BK3 hb; have HB := n0_; have BK2 := n1_; have BK3 := n2_; clear n0_ n1_ n2_ q0_ q1_ q2_ q3_; have q0_ : w4.cell? ⟨g2, 0, none⟩ = some (.int .i64 a0_0) := (blk_cell BK2.out 0).trans rfl; have q1_ : w4.cell? ⟨g2, 1, none⟩ = some (.int .i64 a0_1) := (blk_cell BK2.out 1).trans rfl; have q2_ : w4.cell? ⟨g2, 2, none⟩ = some (.int .i64 a0_2) := (blk_cell BK2.out 2).trans rfl; have q3_ : w4.cell? ⟨g2, 3, none⟩ = some (.int .i64 a0_3) := (blk_cell BK2.out 3).trans rfl)
    | (go_at_call 68; with_reducible refine (impl_namesOf.calls 1 a0_0 true true false _ HN.out).mono ?_; rintro e w5 ⟨rfl, hb⟩; have n0_ := Aside0.mk (lP_ HB.out hb); have n1_ := Aside0.mk (bB_ BK2.out hb); have n2_ := Aside0.mk (bB_ BK3.out hb); clear HB BK2 BK3 hb; have HB := n0_; have BK2 := n1_; have BK3 := n2_; clear n0_ n1_ n2_ q0_ q1_ q2_ q3_)
    | ((with_reducible refine gate_dst (N := 5) rfl ?_); refine box_event ?hg (N := 5) ?hd (cs := #[.bool false, .bool false, .bool false]) (t := 96) ?hr ?_; (case hd => rfl); (case hg => rfl); (case hr => first | (go_simp; done) | (go_simp; rfl)); intro g5 hg w6 hbox hb; have n0_ := Aside0.mk (lP_ HB.out hb); have n1_ := Aside0.mk (bB_ BK2.out hb); have n2_ := Aside0.mk (bB_ BK3.out hb); have n3_ := Aside0.mk hbox; have n4_ := Aside0.mk (show w.heap.size ≤ g5 by rw [hg]; exact below_size HB.out); have n5_ := Aside0.mk (show g2 ≠ g5 by rw [hg]; exact Nat.ne_of_lt (blk_lt BK2.out)); have n6_ := Aside0.mk (show g3 ≠ g5 by rw [hg]; exact Nat.ne_of_lt (blk_lt BK3.out)); clear HB BK2 BK3; have HB := n0_; have BK2 := n1_; have BK3 := n2_; have BK5 := n3_; have GE5 := n4_; have NB25 := n5_; have NB35 := n6_; clear n0_ n1_ n2_ n3_ n4_ n5_ n6_ hb hbox hg; have hnb_ := NB25.out; have hnc_ := NB25.out.symm; have q0_ : w6.cell? ⟨g2, 0, none⟩ = some (.int .i64 a0_0) := (blk_cell BK2.out 0).trans rfl; have q1_ : w6.cell? ⟨g2, 1, none⟩ = some (.int .i64 a0_1) := (blk_cell BK2.out 1).trans rfl; have q2_ : w6.cell? ⟨g2, 2, none⟩ = some (.int .i64 a0_2) := (blk_cell BK2.out 2).trans rfl; have q3_ : w6.cell? ⟨g2, 3, none⟩ = some (.int .i64 a0_3) := (blk_cell BK2.out 3).trans rfl; have p0_ : w6.cell? ⟨g5, 0, none⟩ = some (.bool false) := (blk_cell BK5.out 0).trans rfl; have p1_ : w6.cell? ⟨g5, 1, none⟩ = some (.bool false) := (blk_cell BK5.out 1).trans rfl; have p2_ : w6.cell? ⟨g5, 2, none⟩ = some (.bool false) := (blk_cell BK5.out 2).trans rfl; have f0_ := blk_frozen BK5.out 0; have f1_ := blk_frozen BK5.out 1; have f2_ := blk_frozen BK5.out 2))
  go_ret
  exact ⟨rfl, (by repeat (first | exact HB.out | refine lS1_ ?_ GE5.out))⟩
set_option maxHeartbeats 4000000 in
set_option maxRecDepth 100000 in
theorem fault_p_p (a0_0 a0_1 a0_2 : Int) (A1 : Option Addr) (c1 : Nat) (l1 : List S68) (w : World) (hr1 : Kd.C k68 w A1 l1.length l1) (hl : l1.length ≤ 9223372036854775807) (hI : impl_in.f a0_0 1 7 = some true) (hN : impl_namesOf.f 1 a0_0 = some (true, true, false)) (hP : impl_Term_parts.f 1 a0_0 a0_1 a0_2 0 = some ([a0_1, a0_2] : List Int)) (hp : ([a0_1, a0_2] : List Int).any (fun x => !decide (0 ≤ x ∧ x ≤ (l1.length : Int) - 1)) = true) :
    Calls Try.prog 50 #[.agg #[.int .i64 a0_0, .int .i64 a0_1, .int .i64 a0_2, .int .i64 0], .slice A1 l1.length c1] w fun e w' => e = .returned (.int .i64 3) ∧ Below w.heap.size w w' := by
  have hmf : ∀ (fn : Fn) (first cap : Array Value) (w : World), (Instr.makeFunc fn first cap).run Try.prog w = .ok (.func fn first cap) w := fun _ _ _ _ => rfl
  have HB := Aside0.mk (Below.refl w.heap.size w)
  have HR := Aside0.mk hr1
  have HL := Aside0.mk hl
  clear hr1 hl
  have HI := Aside0.mk hI
  have HN := Aside0.mk hN
  clear hI hN
  have HI2 := Aside0.mk (show impl_in.f 0 0 9999 = some true by rw [impl_in_eq]; rfl)
  have HP := Aside0.mk hP
  clear hP
  have HANY := Aside0.mk hp
  clear hp
  go_enter Try.func50, Try.ntmps50
  go_wp2_with (first
    | ((with_reducible refine gate_dst (N := 2) rfl ?_); refine box_event ?hg (N := 2) ?hd (cs := #[.int .i64 a0_0, .int .i64 a0_1, .int .i64 a0_2, .int .i64 0]) (t := 68) ?hr ?_; (case hd => rfl); (case hg => rfl); (case hr => first | (go_simp; done) | (go_simp; rfl)); intro g2 hg w2 hbox hb; have n0_ := Aside0.mk (lP_ HB.out hb); have n1_ := Aside0.mk hbox; clear HB; have HB := n0_; have a0 := n1_; clear n0_ n1_ hb hbox hg)
    | ((with_reducible refine gate_dst (N := 3) rfl ?_); refine box_event ?hg (N := 3) ?hd (cs := #[.slice A1 l1.length c1]) (t := 39) ?hr ?_; (case hd => rfl); (case hg => rfl); (case hr => first | (go_simp; done) | (go_simp; rfl)); intro g3 hg w3 hbox hb; have n0_ := Aside0.mk (lP_ HB.out hb); have n1_ := Aside0.mk (bB_ a0.out hb); have n2_ := Aside0.mk hbox; clear HB a0; have HB := n0_; have a0 := n1_; have a1 := n2_; clear n0_ n1_ n2_ hb hbox hg; have q0_ : w3.cell? ⟨g2, 0, none⟩ = some (.int .i64 a0_0) := (blk_cell a0.out 0).trans rfl; have q1_ : w3.cell? ⟨g2, 1, none⟩ = some (.int .i64 a0_1) := (blk_cell a0.out 1).trans rfl; have q2_ : w3.cell? ⟨g2, 2, none⟩ = some (.int .i64 a0_2) := (blk_cell a0.out 2).trans rfl; have q3_ : w3.cell? ⟨g2, 3, none⟩ = some (.int .i64 0) := (blk_cell a0.out 3).trans rfl)
    | (go_at_call 41; with_reducible refine (impl_in.calls a0_0 1 7 _ _ HI.out).mono ?_; rintro e w4 ⟨rfl, hd⟩; have hb := hd.below; clear hd; have n0_ := Aside0.mk (lP_ HB.out hb); have n1_ := Aside0.mk (bB_ a0.out hb); have n2_ := Aside0.mk (bB_ a1.out hb); clear HB a0 a1 hb; have HB := n0_; have a0 := n1_; have a1 := n2_; clear n0_ n1_ n2_ q0_ q1_ q2_ q3_; have q0_ : w4.cell? ⟨g2, 0, none⟩ = some (.int .i64 a0_0) := (blk_cell a0.out 0).trans rfl; have q1_ : w4.cell? ⟨g2, 1, none⟩ = some (.int .i64 a0_1) := (blk_cell a0.out 1).trans rfl; have q2_ : w4.cell? ⟨g2, 2, none⟩ = some (.int .i64 a0_2) := (blk_cell a0.out 2).trans rfl; have q3_ : w4.cell? ⟨g2, 3, none⟩ = some (.int .i64 0) := (blk_cell a0.out 3).trans rfl)
    | (go_at_call 68; with_reducible refine (impl_namesOf.calls 1 a0_0 true true false _ HN.out).mono ?_; rintro e w5 ⟨rfl, hb⟩; have n0_ := Aside0.mk (lP_ HB.out hb); have n1_ := Aside0.mk (bB_ a0.out hb); have n2_ := Aside0.mk (bB_ a1.out hb); clear HB a0 a1 hb; have HB := n0_; have a0 := n1_; have a1 := n2_; clear n0_ n1_ n2_ q0_ q1_ q2_ q3_)
    | ((with_reducible refine gate_dst (N := 5) rfl ?_); refine box_event ?hg (N := 5) ?hd (cs := #[.bool false, .bool false, .bool false]) (t := 96) ?hr ?_; (case hd => rfl); (case hg => rfl); (case hr => first | (go_simp; done) | (go_simp; rfl)); intro g5 hg w6 hbox hb; have n0_ := Aside0.mk (lP_ HB.out hb); have n1_ := Aside0.mk (bB_ a0.out hb); have n2_ := Aside0.mk (bB_ a1.out hb); have n3_ := Aside0.mk hbox; have n4_ := Aside0.mk (show w.heap.size ≤ g5 by rw [hg]; exact below_size HB.out); have n5_ := Aside0.mk (show g2 ≠ g5 by rw [hg]; exact Nat.ne_of_lt (blk_lt a0.out)); have n6_ := Aside0.mk (show g3 ≠ g5 by rw [hg]; exact Nat.ne_of_lt (blk_lt a1.out)); clear HB a0 a1; have HB := n0_; have a0 := n1_; have a1 := n2_; have a2 := n3_; have a3 := n4_; have NB25 := n5_; have NB35 := n6_; clear n0_ n1_ n2_ n3_ n4_ n5_ n6_ hb hbox hg; have hnb_ := NB25.out; have hnc_ := NB25.out.symm; have q0_ : w6.cell? ⟨g2, 0, none⟩ = some (.int .i64 a0_0) := (blk_cell a0.out 0).trans rfl; have q1_ : w6.cell? ⟨g2, 1, none⟩ = some (.int .i64 a0_1) := (blk_cell a0.out 1).trans rfl; have q2_ : w6.cell? ⟨g2, 2, none⟩ = some (.int .i64 a0_2) := (blk_cell a0.out 2).trans rfl; have q3_ : w6.cell? ⟨g2, 3, none⟩ = some (.int .i64 0) := (blk_cell a0.out 3).trans rfl; have p0_ : w6.cell? ⟨g5, 0, none⟩ = some (.bool false) := (blk_cell a2.out 0).trans rfl; have p1_ : w6.cell? ⟨g5, 1, none⟩ = some (.bool false) := (blk_cell a2.out 1).trans rfl; have p2_ : w6.cell? ⟨g5, 2, none⟩ = some (.bool false) := (blk_cell a2.out 2).trans rfl; have f0_ := blk_frozen a2.out 0; have f1_ := blk_frozen a2.out 1; have f2_ := blk_frozen a2.out 2)
    | (go_at_call 41; with_reducible refine (impl_in.calls 0 0 9999 _ _ HI2.out).mono ?_; rintro e w7 ⟨rfl, hd⟩; have hb := hd.below; clear hd; have n0_ := Aside0.mk (lP_ (by repeat (first | exact HB.out | refine lS1_ ?_ a3.out)) hb); have n1_ := Aside0.mk (bB_ (o := .cells #[.int .i64 a0_0, .int .i64 a0_1, .int .i64 a0_2, .int .i64 0] 68 (0, 0)) (by repeat (first | exact a0.out | refine bF_ ?_ NB25.out _)) hb); have n2_ := Aside0.mk (bB_ (o := .cells #[.slice A1 l1.length c1] 39 (0, 0)) (by repeat (first | exact a1.out | refine bF_ ?_ NB35.out _)) hb); clear HB a0 a1 hb; have HB := n0_; have a0 := n1_; have a1 := n2_; clear n0_ n1_ n2_; (try clear q0_ q1_ q2_ q3_); have q0_ : w7.cell? ⟨g2, 0, none⟩ = some (.int .i64 a0_0) := (blk_cell a0.out 0).trans rfl; have q1_ : w7.cell? ⟨g2, 1, none⟩ = some (.int .i64 a0_1) := (blk_cell a0.out 1).trans rfl; have q2_ : w7.cell? ⟨g2, 2, none⟩ = some (.int .i64 a0_2) := (blk_cell a0.out 2).trans rfl; have q3_ : w7.cell? ⟨g2, 3, none⟩ = some (.int .i64 0) := (blk_cell a0.out 3).trans rfl)
    | (go_at_call 69; (try clear HO); with_reducible refine (impl_Term_parts.calls 1 a0_0 a0_1 a0_2 0 _ _ HP.out).mono ?_; rintro e w8 ⟨v8, rfl, ho, hb⟩; have HO := Aside0.mk ho; clear ho; obtain ⟨Ao, co, eo⟩ := Kd.R_slice HO.out; subst eo; have n0_ := Aside0.mk (lP_ (by repeat (first | exact HB.out | refine lS1_ ?_ a3.out)) hb); have n1_ := Aside0.mk (bB_ (o := .cells #[.int .i64 a0_0, .int .i64 a0_1, .int .i64 a0_2, .int .i64 0] 68 (0, 0)) (by repeat (first | exact a0.out | refine bF_ ?_ NB25.out _)) hb); have n2_ := Aside0.mk (bB_ (o := .cells #[.slice A1 l1.length c1] 39 (0, 0)) (by repeat (first | exact a1.out | refine bF_ ?_ NB35.out _)) hb); clear HB a0 a1 hb; have HB := n0_; have a0 := n1_; have a1 := n2_; clear n0_ n1_ n2_; (try clear q0_ q1_ q2_ q3_); have q0_ : w8.cell? ⟨g2, 0, none⟩ = some (.int .i64 a0_0) := (blk_cell a0.out 0).trans rfl; have q1_ : w8.cell? ⟨g2, 1, none⟩ = some (.int .i64 a0_1) := (blk_cell a0.out 1).trans rfl; have q2_ : w8.cell? ⟨g2, 2, none⟩ = some (.int .i64 a0_2) := (blk_cell a0.out 2).trans rfl; have q3_ : w8.cell? ⟨g2, 3, none⟩ = some (.int .i64 0) := (blk_cell a0.out 3).trans rfl)
    | (go_at_call 55; refine (slices_ContainsFunc_int64_int64.calls 70 #[.pointer (some ⟨g3, 0, none⟩)] (fun x => !decide (0 ≤ x ∧ x ≤ (l1.length : Int) - 1)) Ao co _ _ (enters_of Try.func70 (by kernel_rfl) rfl) (fun W x _ hB => (impl_fault_1.calls A1 l1.length c1 g3 x HL.out W ((hB.cell (p := ⟨g3, 0, none⟩) (blk_lt a1.out)).trans ((blk_cell a1.out 0).trans rfl))).mono (fun _ _ h => ⟨h.1, lP_ hB h.2⟩)) (Kd.R_reads' HO.out).2.2 (by simp)).mono ?_; rintro e w9 ⟨he, hb⟩; rw [HANY.out] at he; subst he; have n0_ := Aside0.mk (lP_ (by repeat (first | exact HB.out | refine lS1_ ?_ a3.out)) hb); have n1_ := Aside0.mk (bB_ (o := .cells #[.int .i64 a0_0, .int .i64 a0_1, .int .i64 a0_2, .int .i64 0] 68 (0, 0)) (by repeat (first | exact a0.out | refine bF_ ?_ NB25.out _)) hb); have n2_ := Aside0.mk (bB_ (o := .cells #[.slice A1 l1.length c1] 39 (0, 0)) (by repeat (first | exact a1.out | refine bF_ ?_ NB35.out _)) hb); clear HB a0 a1 hb; have HB := n0_; have a0 := n1_; have a1 := n2_; clear n0_ n1_ n2_; (try clear q0_ q1_ q2_ q3_); have q0_ : w9.cell? ⟨g2, 0, none⟩ = some (.int .i64 a0_0) := (blk_cell a0.out 0).trans rfl; have q1_ : w9.cell? ⟨g2, 1, none⟩ = some (.int .i64 a0_1) := (blk_cell a0.out 1).trans rfl; have q2_ : w9.cell? ⟨g2, 2, none⟩ = some (.int .i64 a0_2) := (blk_cell a0.out 2).trans rfl; have q3_ : w9.cell? ⟨g2, 3, none⟩ = some (.int .i64 0) := (blk_cell a0.out 3).trans rfl))
  go_ret
  exact ⟨rfl, (by repeat (first | exact HB.out | refine lS1_ ?_ a3.out))⟩
set_option maxHeartbeats 4000000 in
set_option maxRecDepth 100000 in
theorem fault_p_ok (a0_0 a0_1 a0_2 : Int) (A1 : Option Addr) (c1 : Nat) (l1 : List S68) (w : World) (hr1 : Kd.C k68 w A1 l1.length l1) (hl : l1.length ≤ 9223372036854775807) (hI : impl_in.f a0_0 1 7 = some true) (hN : impl_namesOf.f 1 a0_0 = some (true, true, false)) (hP : impl_Term_parts.f 1 a0_0 a0_1 a0_2 0 = some ([a0_1, a0_2] : List Int)) (h6 : ¬ a0_0 = 6) (h7 : ¬ a0_0 = 7) (hp : ([a0_1, a0_2] : List Int).any (fun x => !decide (0 ≤ x ∧ x ≤ (l1.length : Int) - 1)) = false) :
    Calls Try.prog 50 #[.agg #[.int .i64 a0_0, .int .i64 a0_1, .int .i64 a0_2, .int .i64 0], .slice A1 l1.length c1] w fun e w' => e = .returned (.int .i64 0) ∧ Below w.heap.size w w' := by
  have hmf : ∀ (fn : Fn) (first cap : Array Value) (w : World), (Instr.makeFunc fn first cap).run Try.prog w = .ok (.func fn first cap) w := fun _ _ _ _ => rfl
  have HB := Aside0.mk (Below.refl w.heap.size w)
  have HR := Aside0.mk hr1
  have HL := Aside0.mk hl
  clear hr1 hl
  have HI := Aside0.mk hI
  have HN := Aside0.mk hN
  clear hI hN
  have HI2 := Aside0.mk (show impl_in.f 0 0 9999 = some true by rw [impl_in_eq]; rfl)
  have HP := Aside0.mk hP
  clear hP
  have h60 : (a0_0 == 6) = false := by simpa using h6
  have h61 : (a0_0 != 6) = true := by simpa using h6
  have h62 : decide (a0_0 = 6) = false := decide_eq_false h6
  have h70 : (a0_0 == 7) = false := by simpa using h7
  have h71 : (a0_0 != 7) = true := by simpa using h7
  have h72 : decide (a0_0 = 7) = false := decide_eq_false h7
  clear h6 h7
  have HANY := Aside0.mk hp
  clear hp
  go_enter Try.func50, Try.ntmps50
  go_wp2_with (first
    | ((with_reducible refine gate_dst (N := 2) rfl ?_); refine box_event ?hg (N := 2) ?hd (cs := #[.int .i64 a0_0, .int .i64 a0_1, .int .i64 a0_2, .int .i64 0]) (t := 68) ?hr ?_; (case hd => rfl); (case hg => rfl); (case hr => first | (go_simp; done) | (go_simp; rfl)); intro g2 hg w2 hbox hb; have n0_ := Aside0.mk (lP_ HB.out hb); have n1_ := Aside0.mk hbox; clear HB; have HB := n0_; have a0 := n1_; clear n0_ n1_ hb hbox hg)
    | ((with_reducible refine gate_dst (N := 3) rfl ?_); refine box_event ?hg (N := 3) ?hd (cs := #[.slice A1 l1.length c1]) (t := 39) ?hr ?_; (case hd => rfl); (case hg => rfl); (case hr => first | (go_simp; done) | (go_simp; rfl)); intro g3 hg w3 hbox hb; have n0_ := Aside0.mk (lP_ HB.out hb); have n1_ := Aside0.mk (bB_ a0.out hb); have n2_ := Aside0.mk hbox; clear HB a0; have HB := n0_; have a0 := n1_; have a1 := n2_; clear n0_ n1_ n2_ hb hbox hg; have q0_ : w3.cell? ⟨g2, 0, none⟩ = some (.int .i64 a0_0) := (blk_cell a0.out 0).trans rfl; have q1_ : w3.cell? ⟨g2, 1, none⟩ = some (.int .i64 a0_1) := (blk_cell a0.out 1).trans rfl; have q2_ : w3.cell? ⟨g2, 2, none⟩ = some (.int .i64 a0_2) := (blk_cell a0.out 2).trans rfl; have q3_ : w3.cell? ⟨g2, 3, none⟩ = some (.int .i64 0) := (blk_cell a0.out 3).trans rfl)
    | (go_at_call 41; with_reducible refine (impl_in.calls a0_0 1 7 _ _ HI.out).mono ?_; rintro e w4 ⟨rfl, hd⟩; have hb := hd.below; clear hd; have n0_ := Aside0.mk (lP_ HB.out hb); have n1_ := Aside0.mk (bB_ a0.out hb); have n2_ := Aside0.mk (bB_ a1.out hb); clear HB a0 a1 hb; have HB := n0_; have a0 := n1_; have a1 := n2_; clear n0_ n1_ n2_ q0_ q1_ q2_ q3_; have q0_ : w4.cell? ⟨g2, 0, none⟩ = some (.int .i64 a0_0) := (blk_cell a0.out 0).trans rfl; have q1_ : w4.cell? ⟨g2, 1, none⟩ = some (.int .i64 a0_1) := (blk_cell a0.out 1).trans rfl; have q2_ : w4.cell? ⟨g2, 2, none⟩ = some (.int .i64 a0_2) := (blk_cell a0.out 2).trans rfl; have q3_ : w4.cell? ⟨g2, 3, none⟩ = some (.int .i64 0) := (blk_cell a0.out 3).trans rfl)
    | (go_at_call 68; with_reducible refine (impl_namesOf.calls 1 a0_0 true true false _ HN.out).mono ?_; rintro e w5 ⟨rfl, hb⟩; have n0_ := Aside0.mk (lP_ HB.out hb); have n1_ := Aside0.mk (bB_ a0.out hb); have n2_ := Aside0.mk (bB_ a1.out hb); clear HB a0 a1 hb; have HB := n0_; have a0 := n1_; have a1 := n2_; clear n0_ n1_ n2_ q0_ q1_ q2_ q3_)
    | ((with_reducible refine gate_dst (N := 5) rfl ?_); refine box_event ?hg (N := 5) ?hd (cs := #[.bool false, .bool false, .bool false]) (t := 96) ?hr ?_; (case hd => rfl); (case hg => rfl); (case hr => first | (go_simp; done) | (go_simp; rfl)); intro g5 hg w6 hbox hb; have n0_ := Aside0.mk (lP_ HB.out hb); have n1_ := Aside0.mk (bB_ a0.out hb); have n2_ := Aside0.mk (bB_ a1.out hb); have n3_ := Aside0.mk hbox; have n4_ := Aside0.mk (show w.heap.size ≤ g5 by rw [hg]; exact below_size HB.out); have n5_ := Aside0.mk (show g2 ≠ g5 by rw [hg]; exact Nat.ne_of_lt (blk_lt a0.out)); have n6_ := Aside0.mk (show g3 ≠ g5 by rw [hg]; exact Nat.ne_of_lt (blk_lt a1.out)); clear HB a0 a1; have HB := n0_; have a0 := n1_; have a1 := n2_; have a2 := n3_; have a3 := n4_; have NB25 := n5_; have NB35 := n6_; clear n0_ n1_ n2_ n3_ n4_ n5_ n6_ hb hbox hg; have hnb_ := NB25.out; have hnc_ := NB25.out.symm; have q0_ : w6.cell? ⟨g2, 0, none⟩ = some (.int .i64 a0_0) := (blk_cell a0.out 0).trans rfl; have q1_ : w6.cell? ⟨g2, 1, none⟩ = some (.int .i64 a0_1) := (blk_cell a0.out 1).trans rfl; have q2_ : w6.cell? ⟨g2, 2, none⟩ = some (.int .i64 a0_2) := (blk_cell a0.out 2).trans rfl; have q3_ : w6.cell? ⟨g2, 3, none⟩ = some (.int .i64 0) := (blk_cell a0.out 3).trans rfl; have p0_ : w6.cell? ⟨g5, 0, none⟩ = some (.bool false) := (blk_cell a2.out 0).trans rfl; have p1_ : w6.cell? ⟨g5, 1, none⟩ = some (.bool false) := (blk_cell a2.out 1).trans rfl; have p2_ : w6.cell? ⟨g5, 2, none⟩ = some (.bool false) := (blk_cell a2.out 2).trans rfl; have f0_ := blk_frozen a2.out 0; have f1_ := blk_frozen a2.out 1; have f2_ := blk_frozen a2.out 2)
    | (go_at_call 41; with_reducible refine (impl_in.calls 0 0 9999 _ _ HI2.out).mono ?_; rintro e w7 ⟨rfl, hd⟩; have hb := hd.below; clear hd; have n0_ := Aside0.mk (lP_ (by repeat (first | exact HB.out | refine lS1_ ?_ a3.out)) hb); have n1_ := Aside0.mk (bB_ (o := .cells #[.int .i64 a0_0, .int .i64 a0_1, .int .i64 a0_2, .int .i64 0] 68 (0, 0)) (by repeat (first | exact a0.out | refine bF_ ?_ NB25.out _)) hb); have n2_ := Aside0.mk (bB_ (o := .cells #[.slice A1 l1.length c1] 39 (0, 0)) (by repeat (first | exact a1.out | refine bF_ ?_ NB35.out _)) hb); clear HB a0 a1 hb; have HB := n0_; have a0 := n1_; have a1 := n2_; clear n0_ n1_ n2_; (try clear q0_ q1_ q2_ q3_); have q0_ : w7.cell? ⟨g2, 0, none⟩ = some (.int .i64 a0_0) := (blk_cell a0.out 0).trans rfl; have q1_ : w7.cell? ⟨g2, 1, none⟩ = some (.int .i64 a0_1) := (blk_cell a0.out 1).trans rfl; have q2_ : w7.cell? ⟨g2, 2, none⟩ = some (.int .i64 a0_2) := (blk_cell a0.out 2).trans rfl; have q3_ : w7.cell? ⟨g2, 3, none⟩ = some (.int .i64 0) := (blk_cell a0.out 3).trans rfl)
    | (go_at_call 69; (try clear HO); with_reducible refine (impl_Term_parts.calls 1 a0_0 a0_1 a0_2 0 _ _ HP.out).mono ?_; rintro e w8 ⟨v8, rfl, ho, hb⟩; have HO := Aside0.mk ho; clear ho; obtain ⟨Ao, co, eo⟩ := Kd.R_slice HO.out; subst eo; have n0_ := Aside0.mk (lP_ (by repeat (first | exact HB.out | refine lS1_ ?_ a3.out)) hb); have n1_ := Aside0.mk (bB_ (o := .cells #[.int .i64 a0_0, .int .i64 a0_1, .int .i64 a0_2, .int .i64 0] 68 (0, 0)) (by repeat (first | exact a0.out | refine bF_ ?_ NB25.out _)) hb); have n2_ := Aside0.mk (bB_ (o := .cells #[.slice A1 l1.length c1] 39 (0, 0)) (by repeat (first | exact a1.out | refine bF_ ?_ NB35.out _)) hb); clear HB a0 a1 hb; have HB := n0_; have a0 := n1_; have a1 := n2_; clear n0_ n1_ n2_; (try clear q0_ q1_ q2_ q3_); have q0_ : w8.cell? ⟨g2, 0, none⟩ = some (.int .i64 a0_0) := (blk_cell a0.out 0).trans rfl; have q1_ : w8.cell? ⟨g2, 1, none⟩ = some (.int .i64 a0_1) := (blk_cell a0.out 1).trans rfl; have q2_ : w8.cell? ⟨g2, 2, none⟩ = some (.int .i64 a0_2) := (blk_cell a0.out 2).trans rfl; have q3_ : w8.cell? ⟨g2, 3, none⟩ = some (.int .i64 0) := (blk_cell a0.out 3).trans rfl)
    | (go_at_call 55; refine (slices_ContainsFunc_int64_int64.calls 70 #[.pointer (some ⟨g3, 0, none⟩)] (fun x => !decide (0 ≤ x ∧ x ≤ (l1.length : Int) - 1)) Ao co _ _ (enters_of Try.func70 (by kernel_rfl) rfl) (fun W x _ hB => (impl_fault_1.calls A1 l1.length c1 g3 x HL.out W ((hB.cell (p := ⟨g3, 0, none⟩) (blk_lt a1.out)).trans ((blk_cell a1.out 0).trans rfl))).mono (fun _ _ h => ⟨h.1, lP_ hB h.2⟩)) (Kd.R_reads' HO.out).2.2 (by simp)).mono ?_; rintro e w9 ⟨he, hb⟩; rw [HANY.out] at he; subst he; have n0_ := Aside0.mk (lP_ (by repeat (first | exact HB.out | refine lS1_ ?_ a3.out)) hb); have n1_ := Aside0.mk (bB_ (o := .cells #[.int .i64 a0_0, .int .i64 a0_1, .int .i64 a0_2, .int .i64 0] 68 (0, 0)) (by repeat (first | exact a0.out | refine bF_ ?_ NB25.out _)) hb); have n2_ := Aside0.mk (bB_ (o := .cells #[.slice A1 l1.length c1] 39 (0, 0)) (by repeat (first | exact a1.out | refine bF_ ?_ NB35.out _)) hb); clear HB a0 a1 hb; have HB := n0_; have a0 := n1_; have a1 := n2_; clear n0_ n1_ n2_; (try clear q0_ q1_ q2_ q3_); have q0_ : w9.cell? ⟨g2, 0, none⟩ = some (.int .i64 a0_0) := (blk_cell a0.out 0).trans rfl; have q1_ : w9.cell? ⟨g2, 1, none⟩ = some (.int .i64 a0_1) := (blk_cell a0.out 1).trans rfl; have q2_ : w9.cell? ⟨g2, 2, none⟩ = some (.int .i64 a0_2) := (blk_cell a0.out 2).trans rfl; have q3_ : w9.cell? ⟨g2, 3, none⟩ = some (.int .i64 0) := (blk_cell a0.out 3).trans rfl))
  go_ret
  exact ⟨rfl, (by repeat (first | exact HB.out | refine lS1_ ?_ a3.out))⟩
set_option maxHeartbeats 4000000 in
set_option maxRecDepth 100000 in
theorem fault_7_r (a0_1 a0_2 : Int) (A1 : Option Addr) (c1 : Nat) (l1 : List S68) (w : World) (hr1 : Kd.C k68 w A1 l1.length l1) (hl : l1.length ≤ 9223372036854775807) (hp : ([a0_1, a0_2] : List Int).any (fun x => !decide (0 ≤ x ∧ x ≤ (l1.length : Int) - 1)) = false) (hq : ([a0_1, a0_2] : List Int).any (fun x => (rd_T68 l1 x).f0 != 2) = true) :
    Calls Try.prog 50 #[.agg #[.int .i64 7, .int .i64 a0_1, .int .i64 a0_2, .int .i64 0], .slice A1 l1.length c1] w fun e w' => e = .returned (.int .i64 1) ∧ Below w.heap.size w w' := by
  have hmf : ∀ (fn : Fn) (first cap : Array Value) (w : World), (Instr.makeFunc fn first cap).run Try.prog w = .ok (.func fn first cap) w := fun _ _ _ _ => rfl
  have HB := Aside0.mk (Below.refl w.heap.size w)
  have HR := Aside0.mk hr1
  have HL := Aside0.mk hl
  clear hr1 hl
  have HI := Aside0.mk (show impl_in.f 7 1 7 = some true by rw [impl_in_eq]; rfl)
  have HN := Aside0.mk (show impl_namesOf.f 1 7 = some (true, true, false) by simp [impl_namesOf.f, impl_namesOf.j0])
  have HI2 := Aside0.mk (show impl_in.f 0 0 9999 = some true by rw [impl_in_eq]; rfl)
  have HP := Aside0.mk (show impl_Term_parts.f 1 7 a0_1 a0_2 0 = some ([a0_1, a0_2] : List Int) by simp [impl_Term_parts.f, impl_namesOf.f, impl_namesOf.j0])
  have HANY := Aside0.mk hp
  have HIN := Aside0.mk (fault_in l1 [a0_1, a0_2] hp)
  clear hp
  have HANY2 := Aside0.mk hq
  clear hq
  go_enter Try.func50, Try.ntmps50
  go_wp2_with (first
    | ((with_reducible refine gate_dst (N := 2) rfl ?_); refine box_event ?hg (N := 2) ?hd (cs := #[.int .i64 7, .int .i64 a0_1, .int .i64 a0_2, .int .i64 0]) (t := 68) ?hr ?_; (case hd => rfl); (case hg => rfl); (case hr => first | (go_simp; done) | (go_simp; rfl)); intro g2 hg w2 hbox hb; have n0_ := Aside0.mk (lP_ HB.out hb); have n1_ := Aside0.mk hbox; clear HB; have HB := n0_; have a0 := n1_; clear n0_ n1_ hb hbox hg)
    | ((with_reducible refine gate_dst (N := 3) rfl ?_); refine box_event ?hg (N := 3) ?hd (cs := #[.slice A1 l1.length c1]) (t := 39) ?hr ?_; (case hd => rfl); (case hg => rfl); (case hr => first | (go_simp; done) | (go_simp; rfl)); intro g3 hg w3 hbox hb; have n0_ := Aside0.mk (lP_ HB.out hb); have n1_ := Aside0.mk (bB_ a0.out hb); have n2_ := Aside0.mk hbox; clear HB a0; have HB := n0_; have a0 := n1_; have a1 := n2_; clear n0_ n1_ n2_ hb hbox hg; have q0_ : w3.cell? ⟨g2, 0, none⟩ = some (.int .i64 7) := (blk_cell a0.out 0).trans rfl; have q1_ : w3.cell? ⟨g2, 1, none⟩ = some (.int .i64 a0_1) := (blk_cell a0.out 1).trans rfl; have q2_ : w3.cell? ⟨g2, 2, none⟩ = some (.int .i64 a0_2) := (blk_cell a0.out 2).trans rfl; have q3_ : w3.cell? ⟨g2, 3, none⟩ = some (.int .i64 0) := (blk_cell a0.out 3).trans rfl)
    | (go_at_call 41; with_reducible refine (impl_in.calls 7 1 7 _ _ HI.out).mono ?_; rintro e w4 ⟨rfl, hd⟩; have hb := hd.below; clear hd; have n0_ := Aside0.mk (lP_ HB.out hb); have n1_ := Aside0.mk (bB_ a0.out hb); have n2_ := Aside0.mk (bB_ a1.out hb); clear HB a0 a1 hb; have HB := n0_; have a0 := n1_; have a1 := n2_; clear n0_ n1_ n2_ q0_ q1_ q2_ q3_; have q0_ : w4.cell? ⟨g2, 0, none⟩ = some (.int .i64 7) := (blk_cell a0.out 0).trans rfl; have q1_ : w4.cell? ⟨g2, 1, none⟩ = some (.int .i64 a0_1) := (blk_cell a0.out 1).trans rfl; have q2_ : w4.cell? ⟨g2, 2, none⟩ = some (.int .i64 a0_2) := (blk_cell a0.out 2).trans rfl; have q3_ : w4.cell? ⟨g2, 3, none⟩ = some (.int .i64 0) := (blk_cell a0.out 3).trans rfl)
    | (go_at_call 68; with_reducible refine (impl_namesOf.calls 1 7 true true false _ HN.out).mono ?_; rintro e w5 ⟨rfl, hb⟩; have n0_ := Aside0.mk (lP_ HB.out hb); have n1_ := Aside0.mk (bB_ a0.out hb); have n2_ := Aside0.mk (bB_ a1.out hb); clear HB a0 a1 hb; have HB := n0_; have a0 := n1_; have a1 := n2_; clear n0_ n1_ n2_ q0_ q1_ q2_ q3_)
    | ((with_reducible refine gate_dst (N := 5) rfl ?_); refine box_event ?hg (N := 5) ?hd (cs := #[.bool false, .bool false, .bool false]) (t := 96) ?hr ?_; (case hd => rfl); (case hg => rfl); (case hr => first | (go_simp; done) | (go_simp; rfl)); intro g5 hg w6 hbox hb; have n0_ := Aside0.mk (lP_ HB.out hb); have n1_ := Aside0.mk (bB_ a0.out hb); have n2_ := Aside0.mk (bB_ a1.out hb); have n3_ := Aside0.mk hbox; have n4_ := Aside0.mk (show w.heap.size ≤ g5 by rw [hg]; exact below_size HB.out); have n5_ := Aside0.mk (show g2 ≠ g5 by rw [hg]; exact Nat.ne_of_lt (blk_lt a0.out)); have n6_ := Aside0.mk (show g3 ≠ g5 by rw [hg]; exact Nat.ne_of_lt (blk_lt a1.out)); clear HB a0 a1; have HB := n0_; have a0 := n1_; have a1 := n2_; have a2 := n3_; have a3 := n4_; have NB25 := n5_; have NB35 := n6_; clear n0_ n1_ n2_ n3_ n4_ n5_ n6_ hb hbox hg; have hnb_ := NB25.out; have hnc_ := NB25.out.symm; have q0_ : w6.cell? ⟨g2, 0, none⟩ = some (.int .i64 7) := (blk_cell a0.out 0).trans rfl; have q1_ : w6.cell? ⟨g2, 1, none⟩ = some (.int .i64 a0_1) := (blk_cell a0.out 1).trans rfl; have q2_ : w6.cell? ⟨g2, 2, none⟩ = some (.int .i64 a0_2) := (blk_cell a0.out 2).trans rfl; have q3_ : w6.cell? ⟨g2, 3, none⟩ = some (.int .i64 0) := (blk_cell a0.out 3).trans rfl; have p0_ : w6.cell? ⟨g5, 0, none⟩ = some (.bool false) := (blk_cell a2.out 0).trans rfl; have p1_ : w6.cell? ⟨g5, 1, none⟩ = some (.bool false) := (blk_cell a2.out 1).trans rfl; have p2_ : w6.cell? ⟨g5, 2, none⟩ = some (.bool false) := (blk_cell a2.out 2).trans rfl; have f0_ := blk_frozen a2.out 0; have f1_ := blk_frozen a2.out 1; have f2_ := blk_frozen a2.out 2)
    | (go_at_call 41; with_reducible refine (impl_in.calls 0 0 9999 _ _ HI2.out).mono ?_; rintro e w7 ⟨rfl, hd⟩; have hb := hd.below; clear hd; have n0_ := Aside0.mk (lP_ (by repeat (first | exact HB.out | refine lS1_ ?_ a3.out)) hb); have n1_ := Aside0.mk (bB_ (o := .cells #[.int .i64 7, .int .i64 a0_1, .int .i64 a0_2, .int .i64 0] 68 (0, 0)) (by repeat (first | exact a0.out | refine bF_ ?_ NB25.out _)) hb); have n2_ := Aside0.mk (bB_ (o := .cells #[.slice A1 l1.length c1] 39 (0, 0)) (by repeat (first | exact a1.out | refine bF_ ?_ NB35.out _)) hb); clear HB a0 a1 hb; have HB := n0_; have a0 := n1_; have a1 := n2_; clear n0_ n1_ n2_; (try clear q0_ q1_ q2_ q3_); have q0_ : w7.cell? ⟨g2, 0, none⟩ = some (.int .i64 7) := (blk_cell a0.out 0).trans rfl; have q1_ : w7.cell? ⟨g2, 1, none⟩ = some (.int .i64 a0_1) := (blk_cell a0.out 1).trans rfl; have q2_ : w7.cell? ⟨g2, 2, none⟩ = some (.int .i64 a0_2) := (blk_cell a0.out 2).trans rfl; have q3_ : w7.cell? ⟨g2, 3, none⟩ = some (.int .i64 0) := (blk_cell a0.out 3).trans rfl)
    | (go_at_call 69; (try clear HO); with_reducible refine (impl_Term_parts.calls 1 7 a0_1 a0_2 0 _ _ HP.out).mono ?_; rintro e w8 ⟨v8, rfl, ho, hb⟩; have HO := Aside0.mk ho; clear ho; obtain ⟨Ao, co, eo⟩ := Kd.R_slice HO.out; subst eo; have n0_ := Aside0.mk (lP_ (by repeat (first | exact HB.out | refine lS1_ ?_ a3.out)) hb); have n1_ := Aside0.mk (bB_ (o := .cells #[.int .i64 7, .int .i64 a0_1, .int .i64 a0_2, .int .i64 0] 68 (0, 0)) (by repeat (first | exact a0.out | refine bF_ ?_ NB25.out _)) hb); have n2_ := Aside0.mk (bB_ (o := .cells #[.slice A1 l1.length c1] 39 (0, 0)) (by repeat (first | exact a1.out | refine bF_ ?_ NB35.out _)) hb); clear HB a0 a1 hb; have HB := n0_; have a0 := n1_; have a1 := n2_; clear n0_ n1_ n2_; (try clear q0_ q1_ q2_ q3_); have q0_ : w8.cell? ⟨g2, 0, none⟩ = some (.int .i64 7) := (blk_cell a0.out 0).trans rfl; have q1_ : w8.cell? ⟨g2, 1, none⟩ = some (.int .i64 a0_1) := (blk_cell a0.out 1).trans rfl; have q2_ : w8.cell? ⟨g2, 2, none⟩ = some (.int .i64 a0_2) := (blk_cell a0.out 2).trans rfl; have q3_ : w8.cell? ⟨g2, 3, none⟩ = some (.int .i64 0) := (blk_cell a0.out 3).trans rfl)
    | (go_at_call 55; refine (slices_ContainsFunc_int64_int64.calls 70 #[.pointer (some ⟨g3, 0, none⟩)] (fun x => !decide (0 ≤ x ∧ x ≤ (l1.length : Int) - 1)) Ao co _ _ (enters_of Try.func70 (by kernel_rfl) rfl) (fun W x _ hB => (impl_fault_1.calls A1 l1.length c1 g3 x HL.out W ((hB.cell (p := ⟨g3, 0, none⟩) (blk_lt a1.out)).trans ((blk_cell a1.out 0).trans rfl))).mono (fun _ _ h => ⟨h.1, lP_ hB h.2⟩)) (Kd.R_reads' HO.out).2.2 (by simp)).mono ?_; rintro e w9 ⟨he, hb⟩; rw [HANY.out] at he; subst he; have n0_ := Aside0.mk (lP_ (by repeat (first | exact HB.out | refine lS1_ ?_ a3.out)) hb); have n1_ := Aside0.mk (bB_ (o := .cells #[.int .i64 7, .int .i64 a0_1, .int .i64 a0_2, .int .i64 0] 68 (0, 0)) (by repeat (first | exact a0.out | refine bF_ ?_ NB25.out _)) hb); have n2_ := Aside0.mk (bB_ (o := .cells #[.slice A1 l1.length c1] 39 (0, 0)) (by repeat (first | exact a1.out | refine bF_ ?_ NB35.out _)) hb); clear HB a0 a1 hb; have HB := n0_; have a0 := n1_; have a1 := n2_; clear n0_ n1_ n2_; (try clear q0_ q1_ q2_ q3_); have q0_ : w9.cell? ⟨g2, 0, none⟩ = some (.int .i64 7) := (blk_cell a0.out 0).trans rfl; have q1_ : w9.cell? ⟨g2, 1, none⟩ = some (.int .i64 a0_1) := (blk_cell a0.out 1).trans rfl; have q2_ : w9.cell? ⟨g2, 2, none⟩ = some (.int .i64 a0_2) := (blk_cell a0.out 2).trans rfl; have q3_ : w9.cell? ⟨g2, 3, none⟩ = some (.int .i64 0) := (blk_cell a0.out 3).trans rfl)
    | (go_at_call 55; refine (slices_ContainsFunc_int64_int64.calls 71 #[.pointer (some ⟨g3, 0, none⟩)] (fun x => (rd_T68 l1 x).f0 != 2) Ao co _ _ (enters_of Try.func71 (by kernel_rfl) rfl) (fun W x hx hB => (impl_fault_2.calls A1 l1 c1 g3 x W ((hB.cell (p := ⟨g3, 0, none⟩) (blk_lt a1.out)).trans ((blk_cell a1.out 0).trans rfl)) (Kd.C_below HR.out (lP_ HB.out hB)) (HIN.out x hx).1 (HIN.out x hx).2).mono (fun _ _ h => ⟨h.1, lP_ hB h.2⟩)) (Kd.R_reads' HO.out).2.2 (by simp)).mono ?_; rintro e w10 ⟨he, hb⟩; rw [HANY2.out] at he; subst he; have n0_ := Aside0.mk (lP_ (by repeat (first | exact HB.out | refine lS1_ ?_ a3.out)) hb); have n1_ := Aside0.mk (bB_ (o := .cells #[.int .i64 7, .int .i64 a0_1, .int .i64 a0_2, .int .i64 0] 68 (0, 0)) (by repeat (first | exact a0.out | refine bF_ ?_ NB25.out _)) hb); have n2_ := Aside0.mk (bB_ (o := .cells #[.slice A1 l1.length c1] 39 (0, 0)) (by repeat (first | exact a1.out | refine bF_ ?_ NB35.out _)) hb); clear HB a0 a1 hb; have HB := n0_; have a0 := n1_; have a1 := n2_; clear n0_ n1_ n2_; (try clear q0_ q1_ q2_ q3_); have q0_ : w10.cell? ⟨g2, 0, none⟩ = some (.int .i64 7) := (blk_cell a0.out 0).trans rfl; have q1_ : w10.cell? ⟨g2, 1, none⟩ = some (.int .i64 a0_1) := (blk_cell a0.out 1).trans rfl; have q2_ : w10.cell? ⟨g2, 2, none⟩ = some (.int .i64 a0_2) := (blk_cell a0.out 2).trans rfl; have q3_ : w10.cell? ⟨g2, 3, none⟩ = some (.int .i64 0) := (blk_cell a0.out 3).trans rfl))
  go_ret
  exact ⟨rfl, (by repeat (first | exact HB.out | refine lS1_ ?_ a3.out))⟩
set_option maxHeartbeats 4000000 in
set_option maxRecDepth 100000 in
theorem fault_7_g (a0_1 a0_2 : Int) (A1 : Option Addr) (c1 : Nat) (l1 : List S68) (w : World) (hr1 : Kd.C k68 w A1 l1.length l1) (hl : l1.length ≤ 9223372036854775807) (hp : ([a0_1, a0_2] : List Int).any (fun x => !decide (0 ≤ x ∧ x ≤ (l1.length : Int) - 1)) = false) (hq : ([a0_1, a0_2] : List Int).any (fun x => (rd_T68 l1 x).f0 != 2) = false) (hg : a0_1 > a0_2) :
    Calls Try.prog 50 #[.agg #[.int .i64 7, .int .i64 a0_1, .int .i64 a0_2, .int .i64 0], .slice A1 l1.length c1] w fun e w' => e = .returned (.int .i64 1) ∧ Below w.heap.size w w' := by
  have hmf : ∀ (fn : Fn) (first cap : Array Value) (w : World), (Instr.makeFunc fn first cap).run Try.prog w = .ok (.func fn first cap) w := fun _ _ _ _ => rfl
  have HB := Aside0.mk (Below.refl w.heap.size w)
  have HR := Aside0.mk hr1
  have HL := Aside0.mk hl
  clear hr1 hl
  have HI := Aside0.mk (show impl_in.f 7 1 7 = some true by rw [impl_in_eq]; rfl)
  have HN := Aside0.mk (show impl_namesOf.f 1 7 = some (true, true, false) by simp [impl_namesOf.f, impl_namesOf.j0])
  have HI2 := Aside0.mk (show impl_in.f 0 0 9999 = some true by rw [impl_in_eq]; rfl)
  have HP := Aside0.mk (show impl_Term_parts.f 1 7 a0_1 a0_2 0 = some ([a0_1, a0_2] : List Int) by simp [impl_Term_parts.f, impl_namesOf.f, impl_namesOf.j0])
  have HANY := Aside0.mk hp
  have HIN := Aside0.mk (fault_in l1 [a0_1, a0_2] hp)
  clear hp
  have HANY2 := Aside0.mk hq
  clear hq
  have hg0 : decide (a0_1 > a0_2) = true := decide_eq_true hg
  have hg1 : decide (a0_2 < a0_1) = true := decide_eq_true hg
  clear hg
  go_enter Try.func50, Try.ntmps50
  go_wp2_with (first
    | ((with_reducible refine gate_dst (N := 2) rfl ?_); refine box_event ?hg (N := 2) ?hd (cs := #[.int .i64 7, .int .i64 a0_1, .int .i64 a0_2, .int .i64 0]) (t := 68) ?hr ?_; (case hd => rfl); (case hg => rfl); (case hr => first | (go_simp; done) | (go_simp; rfl)); intro g2 hg w2 hbox hb; have n0_ := Aside0.mk (lP_ HB.out hb); have n1_ := Aside0.mk hbox; clear HB; have HB := n0_; have a0 := n1_; clear n0_ n1_ hb hbox hg)
    | ((with_reducible refine gate_dst (N := 3) rfl ?_); refine box_event ?hg (N := 3) ?hd (cs := #[.slice A1 l1.length c1]) (t := 39) ?hr ?_; (case hd => rfl); (case hg => rfl); (case hr => first | (go_simp; done) | (go_simp; rfl)); intro g3 hg w3 hbox hb; have n0_ := Aside0.mk (lP_ HB.out hb); have n1_ := Aside0.mk (bB_ a0.out hb); have n2_ := Aside0.mk hbox; clear HB a0; have HB := n0_; have a0 := n1_; have a1 := n2_; clear n0_ n1_ n2_ hb hbox hg; have q0_ : w3.cell? ⟨g2, 0, none⟩ = some (.int .i64 7) := (blk_cell a0.out 0).trans rfl; have q1_ : w3.cell? ⟨g2, 1, none⟩ = some (.int .i64 a0_1) := (blk_cell a0.out 1).trans rfl; have q2_ : w3.cell? ⟨g2, 2, none⟩ = some (.int .i64 a0_2) := (blk_cell a0.out 2).trans rfl; have q3_ : w3.cell? ⟨g2, 3, none⟩ = some (.int .i64 0) := (blk_cell a0.out 3).trans rfl)
    | (go_at_call 41; with_reducible refine (impl_in.calls 7 1 7 _ _ HI.out).mono ?_; rintro e w4 ⟨rfl, hd⟩; have hb := hd.below; clear hd; have n0_ := Aside0.mk (lP_ HB.out hb); have n1_ := Aside0.mk (bB_ a0.out hb); have n2_ := Aside0.mk (bB_ a1.out hb); clear HB a0 a1 hb; have HB := n0_; have a0 := n1_; have a1 := n2_; clear n0_ n1_ n2_ q0_ q1_ q2_ q3_; have q0_ : w4.cell? ⟨g2, 0, none⟩ = some (.int .i64 7) := (blk_cell a0.out 0).trans rfl; have q1_ : w4.cell? ⟨g2, 1, none⟩ = some (.int .i64 a0_1) := (blk_cell a0.out 1).trans rfl; have q2_ : w4.cell? ⟨g2, 2, none⟩ = some (.int .i64 a0_2) := (blk_cell a0.out 2).trans rfl; have q3_ : w4.cell? ⟨g2, 3, none⟩ = some (.int .i64 0) := (blk_cell a0.out 3).trans rfl)
    | (go_at_call 68; with_reducible refine (impl_namesOf.calls 1 7 true true false _ HN.out).mono ?_; rintro e w5 ⟨rfl, hb⟩; have n0_ := Aside0.mk (lP_ HB.out hb); have n1_ := Aside0.mk (bB_ a0.out hb); have n2_ := Aside0.mk (bB_ a1.out hb); clear HB a0 a1 hb; have HB := n0_; have a0 := n1_; have a1 := n2_; clear n0_ n1_ n2_ q0_ q1_ q2_ q3_)
    | ((with_reducible refine gate_dst (N := 5) rfl ?_); refine box_event ?hg (N := 5) ?hd (cs := #[.bool false, .bool false, .bool false]) (t := 96) ?hr ?_; (case hd => rfl); (case hg => rfl); (case hr => first | (go_simp; done) | (go_simp; rfl)); intro g5 hg w6 hbox hb; have n0_ := Aside0.mk (lP_ HB.out hb); have n1_ := Aside0.mk (bB_ a0.out hb); have n2_ := Aside0.mk (bB_ a1.out hb); have n3_ := Aside0.mk hbox; have n4_ := Aside0.mk (show w.heap.size ≤ g5 by rw [hg]; exact below_size HB.out); have n5_ := Aside0.mk (show g2 ≠ g5 by rw [hg]; exact Nat.ne_of_lt (blk_lt a0.out)); have n6_ := Aside0.mk (show g3 ≠ g5 by rw [hg]; exact Nat.ne_of_lt (blk_lt a1.out)); clear HB a0 a1; have HB := n0_; have a0 := n1_; have a1 := n2_; have a2 := n3_; have a3 := n4_; have NB25 := n5_; have NB35 := n6_; clear n0_ n1_ n2_ n3_ n4_ n5_ n6_ hb hbox hg; have hnb_ := NB25.out; have hnc_ := NB25.out.symm; have q0_ : w6.cell? ⟨g2, 0, none⟩ = some (.int .i64 7) := (blk_cell a0.out 0).trans rfl; have q1_ : w6.cell? ⟨g2, 1, none⟩ = some (.int .i64 a0_1) := (blk_cell a0.out 1).trans rfl; have q2_ : w6.cell? ⟨g2, 2, none⟩ = some (.int .i64 a0_2) := (blk_cell a0.out 2).trans rfl; have q3_ : w6.cell? ⟨g2, 3, none⟩ = some (.int .i64 0) := (blk_cell a0.out 3).trans rfl; have p0_ : w6.cell? ⟨g5, 0, none⟩ = some (.bool false) := (blk_cell a2.out 0).trans rfl; have p1_ : w6.cell? ⟨g5, 1, none⟩ = some (.bool false) := (blk_cell a2.out 1).trans rfl; have p2_ : w6.cell? ⟨g5, 2, none⟩ = some (.bool false) := (blk_cell a2.out 2).trans rfl; have f0_ := blk_frozen a2.out 0; have f1_ := blk_frozen a2.out 1; have f2_ := blk_frozen a2.out 2)
    | (go_at_call 41; with_reducible refine (impl_in.calls 0 0 9999 _ _ HI2.out).mono ?_; rintro e w7 ⟨rfl, hd⟩; have hb := hd.below; clear hd; have n0_ := Aside0.mk (lP_ (by repeat (first | exact HB.out | refine lS1_ ?_ a3.out)) hb); have n1_ := Aside0.mk (bB_ (o := .cells #[.int .i64 7, .int .i64 a0_1, .int .i64 a0_2, .int .i64 0] 68 (0, 0)) (by repeat (first | exact a0.out | refine bF_ ?_ NB25.out _)) hb); have n2_ := Aside0.mk (bB_ (o := .cells #[.slice A1 l1.length c1] 39 (0, 0)) (by repeat (first | exact a1.out | refine bF_ ?_ NB35.out _)) hb); clear HB a0 a1 hb; have HB := n0_; have a0 := n1_; have a1 := n2_; clear n0_ n1_ n2_; (try clear q0_ q1_ q2_ q3_); have q0_ : w7.cell? ⟨g2, 0, none⟩ = some (.int .i64 7) := (blk_cell a0.out 0).trans rfl; have q1_ : w7.cell? ⟨g2, 1, none⟩ = some (.int .i64 a0_1) := (blk_cell a0.out 1).trans rfl; have q2_ : w7.cell? ⟨g2, 2, none⟩ = some (.int .i64 a0_2) := (blk_cell a0.out 2).trans rfl; have q3_ : w7.cell? ⟨g2, 3, none⟩ = some (.int .i64 0) := (blk_cell a0.out 3).trans rfl)
    | (go_at_call 69; (try clear HO); with_reducible refine (impl_Term_parts.calls 1 7 a0_1 a0_2 0 _ _ HP.out).mono ?_; rintro e w8 ⟨v8, rfl, ho, hb⟩; have HO := Aside0.mk ho; clear ho; obtain ⟨Ao, co, eo⟩ := Kd.R_slice HO.out; subst eo; have n0_ := Aside0.mk (lP_ (by repeat (first | exact HB.out | refine lS1_ ?_ a3.out)) hb); have n1_ := Aside0.mk (bB_ (o := .cells #[.int .i64 7, .int .i64 a0_1, .int .i64 a0_2, .int .i64 0] 68 (0, 0)) (by repeat (first | exact a0.out | refine bF_ ?_ NB25.out _)) hb); have n2_ := Aside0.mk (bB_ (o := .cells #[.slice A1 l1.length c1] 39 (0, 0)) (by repeat (first | exact a1.out | refine bF_ ?_ NB35.out _)) hb); clear HB a0 a1 hb; have HB := n0_; have a0 := n1_; have a1 := n2_; clear n0_ n1_ n2_; (try clear q0_ q1_ q2_ q3_); have q0_ : w8.cell? ⟨g2, 0, none⟩ = some (.int .i64 7) := (blk_cell a0.out 0).trans rfl; have q1_ : w8.cell? ⟨g2, 1, none⟩ = some (.int .i64 a0_1) := (blk_cell a0.out 1).trans rfl; have q2_ : w8.cell? ⟨g2, 2, none⟩ = some (.int .i64 a0_2) := (blk_cell a0.out 2).trans rfl; have q3_ : w8.cell? ⟨g2, 3, none⟩ = some (.int .i64 0) := (blk_cell a0.out 3).trans rfl)
    | (go_at_call 55; refine (slices_ContainsFunc_int64_int64.calls 70 #[.pointer (some ⟨g3, 0, none⟩)] (fun x => !decide (0 ≤ x ∧ x ≤ (l1.length : Int) - 1)) Ao co _ _ (enters_of Try.func70 (by kernel_rfl) rfl) (fun W x _ hB => (impl_fault_1.calls A1 l1.length c1 g3 x HL.out W ((hB.cell (p := ⟨g3, 0, none⟩) (blk_lt a1.out)).trans ((blk_cell a1.out 0).trans rfl))).mono (fun _ _ h => ⟨h.1, lP_ hB h.2⟩)) (Kd.R_reads' HO.out).2.2 (by simp)).mono ?_; rintro e w9 ⟨he, hb⟩; rw [HANY.out] at he; subst he; have n0_ := Aside0.mk (lP_ (by repeat (first | exact HB.out | refine lS1_ ?_ a3.out)) hb); have n1_ := Aside0.mk (bB_ (o := .cells #[.int .i64 7, .int .i64 a0_1, .int .i64 a0_2, .int .i64 0] 68 (0, 0)) (by repeat (first | exact a0.out | refine bF_ ?_ NB25.out _)) hb); have n2_ := Aside0.mk (bB_ (o := .cells #[.slice A1 l1.length c1] 39 (0, 0)) (by repeat (first | exact a1.out | refine bF_ ?_ NB35.out _)) hb); clear HB a0 a1 hb; have HB := n0_; have a0 := n1_; have a1 := n2_; clear n0_ n1_ n2_; (try clear q0_ q1_ q2_ q3_); have q0_ : w9.cell? ⟨g2, 0, none⟩ = some (.int .i64 7) := (blk_cell a0.out 0).trans rfl; have q1_ : w9.cell? ⟨g2, 1, none⟩ = some (.int .i64 a0_1) := (blk_cell a0.out 1).trans rfl; have q2_ : w9.cell? ⟨g2, 2, none⟩ = some (.int .i64 a0_2) := (blk_cell a0.out 2).trans rfl; have q3_ : w9.cell? ⟨g2, 3, none⟩ = some (.int .i64 0) := (blk_cell a0.out 3).trans rfl)
    | (go_at_call 55; refine (slices_ContainsFunc_int64_int64.calls 71 #[.pointer (some ⟨g3, 0, none⟩)] (fun x => (rd_T68 l1 x).f0 != 2) Ao co _ _ (enters_of Try.func71 (by kernel_rfl) rfl) (fun W x hx hB => (impl_fault_2.calls A1 l1 c1 g3 x W ((hB.cell (p := ⟨g3, 0, none⟩) (blk_lt a1.out)).trans ((blk_cell a1.out 0).trans rfl)) (Kd.C_below HR.out (lP_ HB.out hB)) (HIN.out x hx).1 (HIN.out x hx).2).mono (fun _ _ h => ⟨h.1, lP_ hB h.2⟩)) (Kd.R_reads' HO.out).2.2 (by simp)).mono ?_; rintro e w10 ⟨he, hb⟩; rw [HANY2.out] at he; subst he; have n0_ := Aside0.mk (lP_ (by repeat (first | exact HB.out | refine lS1_ ?_ a3.out)) hb); have n1_ := Aside0.mk (bB_ (o := .cells #[.int .i64 7, .int .i64 a0_1, .int .i64 a0_2, .int .i64 0] 68 (0, 0)) (by repeat (first | exact a0.out | refine bF_ ?_ NB25.out _)) hb); have n2_ := Aside0.mk (bB_ (o := .cells #[.slice A1 l1.length c1] 39 (0, 0)) (by repeat (first | exact a1.out | refine bF_ ?_ NB35.out _)) hb); clear HB a0 a1 hb; have HB := n0_; have a0 := n1_; have a1 := n2_; clear n0_ n1_ n2_; (try clear q0_ q1_ q2_ q3_); have q0_ : w10.cell? ⟨g2, 0, none⟩ = some (.int .i64 7) := (blk_cell a0.out 0).trans rfl; have q1_ : w10.cell? ⟨g2, 1, none⟩ = some (.int .i64 a0_1) := (blk_cell a0.out 1).trans rfl; have q2_ : w10.cell? ⟨g2, 2, none⟩ = some (.int .i64 a0_2) := (blk_cell a0.out 2).trans rfl; have q3_ : w10.cell? ⟨g2, 3, none⟩ = some (.int .i64 0) := (blk_cell a0.out 3).trans rfl))
  go_ret
  exact ⟨rfl, (by repeat (first | exact HB.out | refine lS1_ ?_ a3.out))⟩
set_option maxHeartbeats 4000000 in
set_option maxRecDepth 100000 in
theorem fault_7_ok (a0_1 a0_2 : Int) (A1 : Option Addr) (c1 : Nat) (l1 : List S68) (w : World) (hr1 : Kd.C k68 w A1 l1.length l1) (hl : l1.length ≤ 9223372036854775807) (hp : ([a0_1, a0_2] : List Int).any (fun x => !decide (0 ≤ x ∧ x ≤ (l1.length : Int) - 1)) = false) (hq : ([a0_1, a0_2] : List Int).any (fun x => (rd_T68 l1 x).f0 != 2) = false) (hg : ¬ a0_1 > a0_2) :
    Calls Try.prog 50 #[.agg #[.int .i64 7, .int .i64 a0_1, .int .i64 a0_2, .int .i64 0], .slice A1 l1.length c1] w fun e w' => e = .returned (.int .i64 0) ∧ Below w.heap.size w w' := by
  have hmf : ∀ (fn : Fn) (first cap : Array Value) (w : World), (Instr.makeFunc fn first cap).run Try.prog w = .ok (.func fn first cap) w := fun _ _ _ _ => rfl
  have HB := Aside0.mk (Below.refl w.heap.size w)
  have HR := Aside0.mk hr1
  have HL := Aside0.mk hl
  clear hr1 hl
  have HI := Aside0.mk (show impl_in.f 7 1 7 = some true by rw [impl_in_eq]; rfl)
  have HN := Aside0.mk (show impl_namesOf.f 1 7 = some (true, true, false) by simp [impl_namesOf.f, impl_namesOf.j0])
  have HI2 := Aside0.mk (show impl_in.f 0 0 9999 = some true by rw [impl_in_eq]; rfl)
  have HP := Aside0.mk (show impl_Term_parts.f 1 7 a0_1 a0_2 0 = some ([a0_1, a0_2] : List Int) by simp [impl_Term_parts.f, impl_namesOf.f, impl_namesOf.j0])
  have HANY := Aside0.mk hp
  have HIN := Aside0.mk (fault_in l1 [a0_1, a0_2] hp)
  clear hp
  have HANY2 := Aside0.mk hq
  clear hq
  have hg0 : decide (a0_1 > a0_2) = false := decide_eq_false hg
  have hg1 : decide (a0_2 < a0_1) = false := decide_eq_false hg
  clear hg
  go_enter Try.func50, Try.ntmps50
  go_wp2_with (first
    | ((with_reducible refine gate_dst (N := 2) rfl ?_); refine box_event ?hg (N := 2) ?hd (cs := #[.int .i64 7, .int .i64 a0_1, .int .i64 a0_2, .int .i64 0]) (t := 68) ?hr ?_; (case hd => rfl); (case hg => rfl); (case hr => first | (go_simp; done) | (go_simp; rfl)); intro g2 hg w2 hbox hb; have n0_ := Aside0.mk (lP_ HB.out hb); have n1_ := Aside0.mk hbox; clear HB; have HB := n0_; have a0 := n1_; clear n0_ n1_ hb hbox hg)
    | ((with_reducible refine gate_dst (N := 3) rfl ?_); refine box_event ?hg (N := 3) ?hd (cs := #[.slice A1 l1.length c1]) (t := 39) ?hr ?_; (case hd => rfl); (case hg => rfl); (case hr => first | (go_simp; done) | (go_simp; rfl)); intro g3 hg w3 hbox hb; have n0_ := Aside0.mk (lP_ HB.out hb); have n1_ := Aside0.mk (bB_ a0.out hb); have n2_ := Aside0.mk hbox; clear HB a0; have HB := n0_; have a0 := n1_; have a1 := n2_; clear n0_ n1_ n2_ hb hbox hg; have q0_ : w3.cell? ⟨g2, 0, none⟩ = some (.int .i64 7) := (blk_cell a0.out 0).trans rfl; have q1_ : w3.cell? ⟨g2, 1, none⟩ = some (.int .i64 a0_1) := (blk_cell a0.out 1).trans rfl; have q2_ : w3.cell? ⟨g2, 2, none⟩ = some (.int .i64 a0_2) := (blk_cell a0.out 2).trans rfl; have q3_ : w3.cell? ⟨g2, 3, none⟩ = some (.int .i64 0) := (blk_cell a0.out 3).trans rfl)
    | (go_at_call 41; with_reducible refine (impl_in.calls 7 1 7 _ _ HI.out).mono ?_; rintro e w4 ⟨rfl, hd⟩; have hb := hd.below; clear hd; have n0_ := Aside0.mk (lP_ HB.out hb); have n1_ := Aside0.mk (bB_ a0.out hb); have n2_ := Aside0.mk (bB_ a1.out hb); clear HB a0 a1 hb; have HB := n0_; have a0 := n1_; have a1 := n2_; clear n0_ n1_ n2_ q0_ q1_ q2_ q3_; have q0_ : w4.cell? ⟨g2, 0, none⟩ = some (.int .i64 7) := (blk_cell a0.out 0).trans rfl; have q1_ : w4.cell? ⟨g2, 1, none⟩ = some (.int .i64 a0_1) := (blk_cell a0.out 1).trans rfl; have q2_ : w4.cell? ⟨g2, 2, none⟩ = some (.int .i64 a0_2) := (blk_cell a0.out 2).trans rfl; have q3_ : w4.cell? ⟨g2, 3, none⟩ = some (.int .i64 0) := (blk_cell a0.out 3).trans rfl)
    | (go_at_call 68; with_reducible refine (impl_namesOf.calls 1 7 true true false _ HN.out).mono ?_; rintro e w5 ⟨rfl, hb⟩; have n0_ := Aside0.mk (lP_ HB.out hb); have n1_ := Aside0.mk (bB_ a0.out hb); have n2_ := Aside0.mk (bB_ a1.out hb); clear HB a0 a1 hb; have HB := n0_; have a0 := n1_; have a1 := n2_; clear n0_ n1_ n2_ q0_ q1_ q2_ q3_)
    | ((with_reducible refine gate_dst (N := 5) rfl ?_); refine box_event ?hg (N := 5) ?hd (cs := #[.bool false, .bool false, .bool false]) (t := 96) ?hr ?_; (case hd => rfl); (case hg => rfl); (case hr => first | (go_simp; done) | (go_simp; rfl)); intro g5 hg w6 hbox hb; have n0_ := Aside0.mk (lP_ HB.out hb); have n1_ := Aside0.mk (bB_ a0.out hb); have n2_ := Aside0.mk (bB_ a1.out hb); have n3_ := Aside0.mk hbox; have n4_ := Aside0.mk (show w.heap.size ≤ g5 by rw [hg]; exact below_size HB.out); have n5_ := Aside0.mk (show g2 ≠ g5 by rw [hg]; exact Nat.ne_of_lt (blk_lt a0.out)); have n6_ := Aside0.mk (show g3 ≠ g5 by rw [hg]; exact Nat.ne_of_lt (blk_lt a1.out)); clear HB a0 a1; have HB := n0_; have a0 := n1_; have a1 := n2_; have a2 := n3_; have a3 := n4_; have NB25 := n5_; have NB35 := n6_; clear n0_ n1_ n2_ n3_ n4_ n5_ n6_ hb hbox hg; have hnb_ := NB25.out; have hnc_ := NB25.out.symm; have q0_ : w6.cell? ⟨g2, 0, none⟩ = some (.int .i64 7) := (blk_cell a0.out 0).trans rfl; have q1_ : w6.cell? ⟨g2, 1, none⟩ = some (.int .i64 a0_1) := (blk_cell a0.out 1).trans rfl; have q2_ : w6.cell? ⟨g2, 2, none⟩ = some (.int .i64 a0_2) := (blk_cell a0.out 2).trans rfl; have q3_ : w6.cell? ⟨g2, 3, none⟩ = some (.int .i64 0) := (blk_cell a0.out 3).trans rfl; have p0_ : w6.cell? ⟨g5, 0, none⟩ = some (.bool false) := (blk_cell a2.out 0).trans rfl; have p1_ : w6.cell? ⟨g5, 1, none⟩ = some (.bool false) := (blk_cell a2.out 1).trans rfl; have p2_ : w6.cell? ⟨g5, 2, none⟩ = some (.bool false) := (blk_cell a2.out 2).trans rfl; have f0_ := blk_frozen a2.out 0; have f1_ := blk_frozen a2.out 1; have f2_ := blk_frozen a2.out 2)
    | (go_at_call 41; with_reducible refine (impl_in.calls 0 0 9999 _ _ HI2.out).mono ?_; rintro e w7 ⟨rfl, hd⟩; have hb := hd.below; clear hd; have n0_ := Aside0.mk (lP_ (by repeat (first | exact HB.out | refine lS1_ ?_ a3.out)) hb); have n1_ := Aside0.mk (bB_ (o := .cells #[.int .i64 7, .int .i64 a0_1, .int .i64 a0_2, .int .i64 0] 68 (0, 0)) (by repeat (first | exact a0.out | refine bF_ ?_ NB25.out _)) hb); have n2_ := Aside0.mk (bB_ (o := .cells #[.slice A1 l1.length c1] 39 (0, 0)) (by repeat (first | exact a1.out | refine bF_ ?_ NB35.out _)) hb); clear HB a0 a1 hb; have HB := n0_; have a0 := n1_; have a1 := n2_; clear n0_ n1_ n2_; (try clear q0_ q1_ q2_ q3_); have q0_ : w7.cell? ⟨g2, 0, none⟩ = some (.int .i64 7) := (blk_cell a0.out 0).trans rfl; have q1_ : w7.cell? ⟨g2, 1, none⟩ = some (.int .i64 a0_1) := (blk_cell a0.out 1).trans rfl; have q2_ : w7.cell? ⟨g2, 2, none⟩ = some (.int .i64 a0_2) := (blk_cell a0.out 2).trans rfl; have q3_ : w7.cell? ⟨g2, 3, none⟩ = some (.int .i64 0) := (blk_cell a0.out 3).trans rfl)
    | (go_at_call 69; (try clear HO); with_reducible refine (impl_Term_parts.calls 1 7 a0_1 a0_2 0 _ _ HP.out).mono ?_; rintro e w8 ⟨v8, rfl, ho, hb⟩; have HO := Aside0.mk ho; clear ho; obtain ⟨Ao, co, eo⟩ := Kd.R_slice HO.out; subst eo; have n0_ := Aside0.mk (lP_ (by repeat (first | exact HB.out | refine lS1_ ?_ a3.out)) hb); have n1_ := Aside0.mk (bB_ (o := .cells #[.int .i64 7, .int .i64 a0_1, .int .i64 a0_2, .int .i64 0] 68 (0, 0)) (by repeat (first | exact a0.out | refine bF_ ?_ NB25.out _)) hb); have n2_ := Aside0.mk (bB_ (o := .cells #[.slice A1 l1.length c1] 39 (0, 0)) (by repeat (first | exact a1.out | refine bF_ ?_ NB35.out _)) hb); clear HB a0 a1 hb; have HB := n0_; have a0 := n1_; have a1 := n2_; clear n0_ n1_ n2_; (try clear q0_ q1_ q2_ q3_); have q0_ : w8.cell? ⟨g2, 0, none⟩ = some (.int .i64 7) := (blk_cell a0.out 0).trans rfl; have q1_ : w8.cell? ⟨g2, 1, none⟩ = some (.int .i64 a0_1) := (blk_cell a0.out 1).trans rfl; have q2_ : w8.cell? ⟨g2, 2, none⟩ = some (.int .i64 a0_2) := (blk_cell a0.out 2).trans rfl; have q3_ : w8.cell? ⟨g2, 3, none⟩ = some (.int .i64 0) := (blk_cell a0.out 3).trans rfl)
    | (go_at_call 55; refine (slices_ContainsFunc_int64_int64.calls 70 #[.pointer (some ⟨g3, 0, none⟩)] (fun x => !decide (0 ≤ x ∧ x ≤ (l1.length : Int) - 1)) Ao co _ _ (enters_of Try.func70 (by kernel_rfl) rfl) (fun W x _ hB => (impl_fault_1.calls A1 l1.length c1 g3 x HL.out W ((hB.cell (p := ⟨g3, 0, none⟩) (blk_lt a1.out)).trans ((blk_cell a1.out 0).trans rfl))).mono (fun _ _ h => ⟨h.1, lP_ hB h.2⟩)) (Kd.R_reads' HO.out).2.2 (by simp)).mono ?_; rintro e w9 ⟨he, hb⟩; rw [HANY.out] at he; subst he; have n0_ := Aside0.mk (lP_ (by repeat (first | exact HB.out | refine lS1_ ?_ a3.out)) hb); have n1_ := Aside0.mk (bB_ (o := .cells #[.int .i64 7, .int .i64 a0_1, .int .i64 a0_2, .int .i64 0] 68 (0, 0)) (by repeat (first | exact a0.out | refine bF_ ?_ NB25.out _)) hb); have n2_ := Aside0.mk (bB_ (o := .cells #[.slice A1 l1.length c1] 39 (0, 0)) (by repeat (first | exact a1.out | refine bF_ ?_ NB35.out _)) hb); clear HB a0 a1 hb; have HB := n0_; have a0 := n1_; have a1 := n2_; clear n0_ n1_ n2_; (try clear q0_ q1_ q2_ q3_); have q0_ : w9.cell? ⟨g2, 0, none⟩ = some (.int .i64 7) := (blk_cell a0.out 0).trans rfl; have q1_ : w9.cell? ⟨g2, 1, none⟩ = some (.int .i64 a0_1) := (blk_cell a0.out 1).trans rfl; have q2_ : w9.cell? ⟨g2, 2, none⟩ = some (.int .i64 a0_2) := (blk_cell a0.out 2).trans rfl; have q3_ : w9.cell? ⟨g2, 3, none⟩ = some (.int .i64 0) := (blk_cell a0.out 3).trans rfl)
    | (go_at_call 55; refine (slices_ContainsFunc_int64_int64.calls 71 #[.pointer (some ⟨g3, 0, none⟩)] (fun x => (rd_T68 l1 x).f0 != 2) Ao co _ _ (enters_of Try.func71 (by kernel_rfl) rfl) (fun W x hx hB => (impl_fault_2.calls A1 l1 c1 g3 x W ((hB.cell (p := ⟨g3, 0, none⟩) (blk_lt a1.out)).trans ((blk_cell a1.out 0).trans rfl)) (Kd.C_below HR.out (lP_ HB.out hB)) (HIN.out x hx).1 (HIN.out x hx).2).mono (fun _ _ h => ⟨h.1, lP_ hB h.2⟩)) (Kd.R_reads' HO.out).2.2 (by simp)).mono ?_; rintro e w10 ⟨he, hb⟩; rw [HANY2.out] at he; subst he; have n0_ := Aside0.mk (lP_ (by repeat (first | exact HB.out | refine lS1_ ?_ a3.out)) hb); have n1_ := Aside0.mk (bB_ (o := .cells #[.int .i64 7, .int .i64 a0_1, .int .i64 a0_2, .int .i64 0] 68 (0, 0)) (by repeat (first | exact a0.out | refine bF_ ?_ NB25.out _)) hb); have n2_ := Aside0.mk (bB_ (o := .cells #[.slice A1 l1.length c1] 39 (0, 0)) (by repeat (first | exact a1.out | refine bF_ ?_ NB35.out _)) hb); clear HB a0 a1 hb; have HB := n0_; have a0 := n1_; have a1 := n2_; clear n0_ n1_ n2_; (try clear q0_ q1_ q2_ q3_); have q0_ : w10.cell? ⟨g2, 0, none⟩ = some (.int .i64 7) := (blk_cell a0.out 0).trans rfl; have q1_ : w10.cell? ⟨g2, 1, none⟩ = some (.int .i64 a0_1) := (blk_cell a0.out 1).trans rfl; have q2_ : w10.cell? ⟨g2, 2, none⟩ = some (.int .i64 a0_2) := (blk_cell a0.out 2).trans rfl; have q3_ : w10.cell? ⟨g2, 3, none⟩ = some (.int .i64 0) := (blk_cell a0.out 3).trans rfl))
  go_ret
  exact ⟨rfl, (by repeat (first | exact HB.out | refine lS1_ ?_ a3.out))⟩
set_option maxHeartbeats 4000000 in
set_option maxRecDepth 100000 in
theorem fault_6_b (a0_1 a0_2 a0_3 : Int) (A1 : Option Addr) (c1 : Nat) (l1 : List S68) (w : World) (hr1 : Kd.C k68 w A1 l1.length l1) (hl : l1.length ≤ 9223372036854775807) (h : ¬ a0_2 = 0) :
    Calls Try.prog 50 #[.agg #[.int .i64 6, .int .i64 a0_1, .int .i64 a0_2, .int .i64 a0_3], .slice A1 l1.length c1] w fun e w' => e = .returned (.int .i64 1) ∧ Below w.heap.size w w' := by
  have hmf : ∀ (fn : Fn) (first cap : Array Value) (w : World), (Instr.makeFunc fn first cap).run Try.prog w = .ok (.func fn first cap) w := fun _ _ _ _ => rfl
  have HB := Aside0.mk (Below.refl w.heap.size w)
  have HR := Aside0.mk hr1
  have HL := Aside0.mk hl
  clear hr1 hl
  have h0 : (a0_2 == 0) = false := by simpa using h
  have h1 : (a0_2 != 0) = true := by simpa using h
  have h2 : decide (a0_2 = 0) = false := decide_eq_false h
  clear h
  have HI := Aside0.mk (show impl_in.f 6 1 7 = some true by rw [impl_in_eq]; rfl)
  have HN := Aside0.mk (show impl_namesOf.f 1 6 = some (true, false, false) by simp [impl_namesOf.f, impl_namesOf.j0])
  go_enter Try.func50, Try.ntmps50
  go_wp2_with (first
    | ((with_reducible refine gate_dst (N := 2) rfl ?_); refine box_event ?hg (N := 2) ?hd (cs := #[.int .i64 6, .int .i64 a0_1, .int .i64 a0_2, .int .i64 a0_3]) (t := 68) ?hr ?_; (case hd => rfl); (case hg => rfl); (case hr => first | (go_simp; done) | (go_simp; rfl)); intro g2 hg w2 hbox hb; have n0_ := Aside0.mk (lP_ HB.out hb); have n1_ := Aside0.mk hbox; clear HB; have HB := n0_; have BK2 := n1_; clear n0_ n1_ hb hbox hg)
    | ((with_reducible refine gate_dst (N := 3) rfl ?_); refine box_event ?hg (N := 3) ?hd (cs := #[.slice A1 l1.length c1]) (t := 39) ?hr ?_; (case hd => rfl); (case hg => rfl); (case hr => first | (go_simp; done) | (go_simp; rfl)); intro g3 hg w3 hbox hb; have n0_ := Aside0.mk (lP_ HB.out hb); have n1_ := Aside0.mk (bB_ BK2.out hb); have n2_ := Aside0.mk hbox; clear HB BK2; have HB := n0_; have BK2 := n1_; have BK3 := n2_; clear n0_ n1_ n2_ hb hbox hg; have q0_ : w3.cell? ⟨g2, 0, none⟩ = some (.int .i64 6) := (blk_cell BK2.out 0).trans rfl; have q1_ : w3.cell? ⟨g2, 1, none⟩ = some (.int .i64 a0_1) := (blk_cell BK2.out 1).trans rfl; have q2_ : w3.cell? ⟨g2, 2, none⟩ = some (.int .i64 a0_2) := (blk_cell BK2.out 2).trans rfl; have q3_ : w3.cell? ⟨g2, 3, none⟩ = some (.int .i64 a0_3) := (blk_cell BK2.out 3).trans rfl)
    | (go_at_call 41; with_reducible refine (impl_in.calls 6 1 7 _ _ HI.out).mono ?_; rintro e w4 ⟨rfl, hd⟩; have hb := hd.below; clear hd; have n0_ := Aside0.mk (lP_ HB.out hb); have n1_ := Aside0.mk (bB_ BK2.out hb); have n2_ := Aside0.mk (bB_ BK3.out hb); clear HB BK2 BK3 hb; have HB := n0_; have BK2 := n1_; have BK3 := n2_; clear n0_ n1_ n2_ q0_ q1_ q2_ q3_; have q0_ : w4.cell? ⟨g2, 0, none⟩ = some (.int .i64 6) := (blk_cell BK2.out 0).trans rfl; have q1_ : w4.cell? ⟨g2, 1, none⟩ = some (.int .i64 a0_1) := (blk_cell BK2.out 1).trans rfl; have q2_ : w4.cell? ⟨g2, 2, none⟩ = some (.int .i64 a0_2) := (blk_cell BK2.out 2).trans rfl; have q3_ : w4.cell? ⟨g2, 3, none⟩ = some (.int .i64 a0_3) := (blk_cell BK2.out 3).trans rfl)
    | (go_at_call 68; with_reducible refine (impl_namesOf.calls 1 6 true false false _ HN.out).mono ?_; rintro e w5 ⟨rfl, hb⟩; have n0_ := Aside0.mk (lP_ HB.out hb); have n1_ := Aside0.mk (bB_ BK2.out hb); have n2_ := Aside0.mk (bB_ BK3.out hb); clear HB BK2 BK3 hb; have HB := n0_; have BK2 := n1_; have BK3 := n2_; clear n0_ n1_ n2_ q0_ q1_ q2_ q3_)
    | ((with_reducible refine gate_dst (N := 5) rfl ?_); refine box_event ?hg (N := 5) ?hd (cs := #[.bool false, .bool false, .bool false]) (t := 96) ?hr ?_; (case hd => rfl); (case hg => rfl); (case hr => first | (go_simp; done) | (go_simp; rfl)); intro g5 hg w6 hbox hb; have n0_ := Aside0.mk (lP_ HB.out hb); have n1_ := Aside0.mk (bB_ BK2.out hb); have n2_ := Aside0.mk (bB_ BK3.out hb); have n3_ := Aside0.mk hbox; have n4_ := Aside0.mk (show w.heap.size ≤ g5 by rw [hg]; exact below_size HB.out); have n5_ := Aside0.mk (show g2 ≠ g5 by rw [hg]; exact Nat.ne_of_lt (blk_lt BK2.out)); have n6_ := Aside0.mk (show g3 ≠ g5 by rw [hg]; exact Nat.ne_of_lt (blk_lt BK3.out)); clear HB BK2 BK3; have HB := n0_; have BK2 := n1_; have BK3 := n2_; have BK5 := n3_; have GE5 := n4_; have NB25 := n5_; have NB35 := n6_; clear n0_ n1_ n2_ n3_ n4_ n5_ n6_ hb hbox hg; have hnb_ := NB25.out; have hnc_ := NB25.out.symm; have q0_ : w6.cell? ⟨g2, 0, none⟩ = some (.int .i64 6) := (blk_cell BK2.out 0).trans rfl; have q1_ : w6.cell? ⟨g2, 1, none⟩ = some (.int .i64 a0_1) := (blk_cell BK2.out 1).trans rfl; have q2_ : w6.cell? ⟨g2, 2, none⟩ = some (.int .i64 a0_2) := (blk_cell BK2.out 2).trans rfl; have q3_ : w6.cell? ⟨g2, 3, none⟩ = some (.int .i64 a0_3) := (blk_cell BK2.out 3).trans rfl; have p0_ : w6.cell? ⟨g5, 0, none⟩ = some (.bool false) := (blk_cell BK5.out 0).trans rfl; have p1_ : w6.cell? ⟨g5, 1, none⟩ = some (.bool false) := (blk_cell BK5.out 1).trans rfl; have p2_ : w6.cell? ⟨g5, 2, none⟩ = some (.bool false) := (blk_cell BK5.out 2).trans rfl; have f0_ := blk_frozen BK5.out 0; have f1_ := blk_frozen BK5.out 1; have f2_ := blk_frozen BK5.out 2))
  go_ret
  exact ⟨rfl, (by repeat (first | exact HB.out | refine lS1_ ?_ GE5.out))⟩
set_option maxHeartbeats 4000000 in
set_option maxRecDepth 100000 in
theorem fault_6_f (a0_1 a0_3 : Int) (A1 : Option Addr) (c1 : Nat) (l1 : List S68) (w : World) (hr1 : Kd.C k68 w A1 l1.length l1) (hl : l1.length ≤ 9223372036854775807) (h : ¬ a0_3 = 0) :
    Calls Try.prog 50 #[.agg #[.int .i64 6, .int .i64 a0_1, .int .i64 0, .int .i64 a0_3], .slice A1 l1.length c1] w fun e w' => e = .returned (.int .i64 1) ∧ Below w.heap.size w w' := by
  have hmf : ∀ (fn : Fn) (first cap : Array Value) (w : World), (Instr.makeFunc fn first cap).run Try.prog w = .ok (.func fn first cap) w := fun _ _ _ _ => rfl
  have HB := Aside0.mk (Below.refl w.heap.size w)
  have HR := Aside0.mk hr1
  have HL := Aside0.mk hl
  clear hr1 hl
  have h0 : (a0_3 == 0) = false := by simpa using h
  have h1 : (a0_3 != 0) = true := by simpa using h
  have h2 : decide (a0_3 = 0) = false := decide_eq_false h
  clear h
  have HI := Aside0.mk (show impl_in.f 6 1 7 = some true by rw [impl_in_eq]; rfl)
  have HN := Aside0.mk (show impl_namesOf.f 1 6 = some (true, false, false) by simp [impl_namesOf.f, impl_namesOf.j0])
  go_enter Try.func50, Try.ntmps50
  go_wp2_with (first
    | ((with_reducible refine gate_dst (N := 2) rfl ?_); refine box_event ?hg (N := 2) ?hd (cs := #[.int .i64 6, .int .i64 a0_1, .int .i64 0, .int .i64 a0_3]) (t := 68) ?hr ?_; (case hd => rfl); (case hg => rfl); (case hr => first | (go_simp; done) | (go_simp; rfl)); intro g2 hg w2 hbox hb; have n0_ := Aside0.mk (lP_ HB.out hb); have n1_ := Aside0.mk hbox; clear HB; have HB := n0_; have BK2 := n1_; clear n0_ n1_ hb hbox hg)
    | ((with_reducible refine gate_dst (N := 3) rfl ?_); refine box_event ?hg (N := 3) ?hd (cs := #[.slice A1 l1.length c1]) (t := 39) ?hr ?_; (case hd => rfl); (case hg => rfl); (case hr => first | (go_simp; done) | (go_simp; rfl)); intro g3 hg w3 hbox hb; have n0_ := Aside0.mk (lP_ HB.out hb); have n1_ := Aside0.mk (bB_ BK2.out hb); have n2_ := Aside0.mk hbox; clear HB BK2; have HB := n0_; have BK2 := n1_; have BK3 := n2_; clear n0_ n1_ n2_ hb hbox hg; have q0_ : w3.cell? ⟨g2, 0, none⟩ = some (.int .i64 6) := (blk_cell BK2.out 0).trans rfl; have q1_ : w3.cell? ⟨g2, 1, none⟩ = some (.int .i64 a0_1) := (blk_cell BK2.out 1).trans rfl; have q2_ : w3.cell? ⟨g2, 2, none⟩ = some (.int .i64 0) := (blk_cell BK2.out 2).trans rfl; have q3_ : w3.cell? ⟨g2, 3, none⟩ = some (.int .i64 a0_3) := (blk_cell BK2.out 3).trans rfl)
    | (go_at_call 41; with_reducible refine (impl_in.calls 6 1 7 _ _ HI.out).mono ?_; rintro e w4 ⟨rfl, hd⟩; have hb := hd.below; clear hd; have n0_ := Aside0.mk (lP_ HB.out hb); have n1_ := Aside0.mk (bB_ BK2.out hb); have n2_ := Aside0.mk (bB_ BK3.out hb); clear HB BK2 BK3 hb; have HB := n0_; have BK2 := n1_; have BK3 := n2_; clear n0_ n1_ n2_ q0_ q1_ q2_ q3_; have q0_ : w4.cell? ⟨g2, 0, none⟩ = some (.int .i64 6) := (blk_cell BK2.out 0).trans rfl; have q1_ : w4.cell? ⟨g2, 1, none⟩ = some (.int .i64 a0_1) := (blk_cell BK2.out 1).trans rfl; have q2_ : w4.cell? ⟨g2, 2, none⟩ = some (.int .i64 0) := (blk_cell BK2.out 2).trans rfl; have q3_ : w4.cell? ⟨g2, 3, none⟩ = some (.int .i64 a0_3) := (blk_cell BK2.out 3).trans rfl)
    | (go_at_call 68; with_reducible refine (impl_namesOf.calls 1 6 true false false _ HN.out).mono ?_; rintro e w5 ⟨rfl, hb⟩; have n0_ := Aside0.mk (lP_ HB.out hb); have n1_ := Aside0.mk (bB_ BK2.out hb); have n2_ := Aside0.mk (bB_ BK3.out hb); clear HB BK2 BK3 hb; have HB := n0_; have BK2 := n1_; have BK3 := n2_; clear n0_ n1_ n2_ q0_ q1_ q2_ q3_)
    | ((with_reducible refine gate_dst (N := 5) rfl ?_); refine box_event ?hg (N := 5) ?hd (cs := #[.bool false, .bool false, .bool false]) (t := 96) ?hr ?_; (case hd => rfl); (case hg => rfl); (case hr => first | (go_simp; done) | (go_simp; rfl)); intro g5 hg w6 hbox hb; have n0_ := Aside0.mk (lP_ HB.out hb); have n1_ := Aside0.mk (bB_ BK2.out hb); have n2_ := Aside0.mk (bB_ BK3.out hb); have n3_ := Aside0.mk hbox; have n4_ := Aside0.mk (show w.heap.size ≤ g5 by rw [hg]; exact below_size HB.out); have n5_ := Aside0.mk (show g2 ≠ g5 by rw [hg]; exact Nat.ne_of_lt (blk_lt BK2.out)); have n6_ := Aside0.mk (show g3 ≠ g5 by rw [hg]; exact Nat.ne_of_lt (blk_lt BK3.out)); clear HB BK2 BK3; have HB := n0_; have BK2 := n1_; have BK3 := n2_; have BK5 := n3_; have GE5 := n4_; have NB25 := n5_; have NB35 := n6_; clear n0_ n1_ n2_ n3_ n4_ n5_ n6_ hb hbox hg; have hnb_ := NB25.out; have hnc_ := NB25.out.symm; have q0_ : w6.cell? ⟨g2, 0, none⟩ = some (.int .i64 6) := (blk_cell BK2.out 0).trans rfl; have q1_ : w6.cell? ⟨g2, 1, none⟩ = some (.int .i64 a0_1) := (blk_cell BK2.out 1).trans rfl; have q2_ : w6.cell? ⟨g2, 2, none⟩ = some (.int .i64 0) := (blk_cell BK2.out 2).trans rfl; have q3_ : w6.cell? ⟨g2, 3, none⟩ = some (.int .i64 a0_3) := (blk_cell BK2.out 3).trans rfl; have p0_ : w6.cell? ⟨g5, 0, none⟩ = some (.bool false) := (blk_cell BK5.out 0).trans rfl; have p1_ : w6.cell? ⟨g5, 1, none⟩ = some (.bool false) := (blk_cell BK5.out 1).trans rfl; have p2_ : w6.cell? ⟨g5, 2, none⟩ = some (.bool false) := (blk_cell BK5.out 2).trans rfl; have f0_ := blk_frozen BK5.out 0; have f1_ := blk_frozen BK5.out 1; have f2_ := blk_frozen BK5.out 2))
  go_ret
  exact ⟨rfl, (by repeat (first | exact HB.out | refine lS1_ ?_ GE5.out))⟩
set_option maxHeartbeats 4000000 in
set_option maxRecDepth 100000 in
theorem fault_6_p (a0_1 : Int) (A1 : Option Addr) (c1 : Nat) (l1 : List S68) (w : World) (hr1 : Kd.C k68 w A1 l1.length l1) (hl : l1.length ≤ 9223372036854775807) (hp : ([a0_1] : List Int).any (fun x => !decide (0 ≤ x ∧ x ≤ (l1.length : Int) - 1)) = true) :
    Calls Try.prog 50 #[.agg #[.int .i64 6, .int .i64 a0_1, .int .i64 0, .int .i64 0], .slice A1 l1.length c1] w fun e w' => e = .returned (.int .i64 3) ∧ Below w.heap.size w w' := by
  have hmf : ∀ (fn : Fn) (first cap : Array Value) (w : World), (Instr.makeFunc fn first cap).run Try.prog w = .ok (.func fn first cap) w := fun _ _ _ _ => rfl
  have HB := Aside0.mk (Below.refl w.heap.size w)
  have HR := Aside0.mk hr1
  have HL := Aside0.mk hl
  clear hr1 hl
  have HI := Aside0.mk (show impl_in.f 6 1 7 = some true by rw [impl_in_eq]; rfl)
  have HN := Aside0.mk (show impl_namesOf.f 1 6 = some (true, false, false) by simp [impl_namesOf.f, impl_namesOf.j0])
  have HI2 := Aside0.mk (show impl_in.f 0 0 9999 = some true by rw [impl_in_eq]; rfl)
  have HP := Aside0.mk (show impl_Term_parts.f 1 6 a0_1 0 0 = some ([a0_1] : List Int) by simp [impl_Term_parts.f, impl_namesOf.f, impl_namesOf.j0])
  have HANY := Aside0.mk hp
  clear hp
  go_enter Try.func50, Try.ntmps50
  go_wp2_with (first
    | ((with_reducible refine gate_dst (N := 2) rfl ?_); refine box_event ?hg (N := 2) ?hd (cs := #[.int .i64 6, .int .i64 a0_1, .int .i64 0, .int .i64 0]) (t := 68) ?hr ?_; (case hd => rfl); (case hg => rfl); (case hr => first | (go_simp; done) | (go_simp; rfl)); intro g2 hg w2 hbox hb; have n0_ := Aside0.mk (lP_ HB.out hb); have n1_ := Aside0.mk hbox; clear HB; have HB := n0_; have a0 := n1_; clear n0_ n1_ hb hbox hg)
    | ((with_reducible refine gate_dst (N := 3) rfl ?_); refine box_event ?hg (N := 3) ?hd (cs := #[.slice A1 l1.length c1]) (t := 39) ?hr ?_; (case hd => rfl); (case hg => rfl); (case hr => first | (go_simp; done) | (go_simp; rfl)); intro g3 hg w3 hbox hb; have n0_ := Aside0.mk (lP_ HB.out hb); have n1_ := Aside0.mk (bB_ a0.out hb); have n2_ := Aside0.mk hbox; clear HB a0; have HB := n0_; have a0 := n1_; have a1 := n2_; clear n0_ n1_ n2_ hb hbox hg; have q0_ : w3.cell? ⟨g2, 0, none⟩ = some (.int .i64 6) := (blk_cell a0.out 0).trans rfl; have q1_ : w3.cell? ⟨g2, 1, none⟩ = some (.int .i64 a0_1) := (blk_cell a0.out 1).trans rfl; have q2_ : w3.cell? ⟨g2, 2, none⟩ = some (.int .i64 0) := (blk_cell a0.out 2).trans rfl; have q3_ : w3.cell? ⟨g2, 3, none⟩ = some (.int .i64 0) := (blk_cell a0.out 3).trans rfl)
    | (go_at_call 41; with_reducible refine (impl_in.calls 6 1 7 _ _ HI.out).mono ?_; rintro e w4 ⟨rfl, hd⟩; have hb := hd.below; clear hd; have n0_ := Aside0.mk (lP_ HB.out hb); have n1_ := Aside0.mk (bB_ a0.out hb); have n2_ := Aside0.mk (bB_ a1.out hb); clear HB a0 a1 hb; have HB := n0_; have a0 := n1_; have a1 := n2_; clear n0_ n1_ n2_ q0_ q1_ q2_ q3_; have q0_ : w4.cell? ⟨g2, 0, none⟩ = some (.int .i64 6) := (blk_cell a0.out 0).trans rfl; have q1_ : w4.cell? ⟨g2, 1, none⟩ = some (.int .i64 a0_1) := (blk_cell a0.out 1).trans rfl; have q2_ : w4.cell? ⟨g2, 2, none⟩ = some (.int .i64 0) := (blk_cell a0.out 2).trans rfl; have q3_ : w4.cell? ⟨g2, 3, none⟩ = some (.int .i64 0) := (blk_cell a0.out 3).trans rfl)
    | (go_at_call 68; with_reducible refine (impl_namesOf.calls 1 6 true false false _ HN.out).mono ?_; rintro e w5 ⟨rfl, hb⟩; have n0_ := Aside0.mk (lP_ HB.out hb); have n1_ := Aside0.mk (bB_ a0.out hb); have n2_ := Aside0.mk (bB_ a1.out hb); clear HB a0 a1 hb; have HB := n0_; have a0 := n1_; have a1 := n2_; clear n0_ n1_ n2_ q0_ q1_ q2_ q3_)
    | ((with_reducible refine gate_dst (N := 5) rfl ?_); refine box_event ?hg (N := 5) ?hd (cs := #[.bool false, .bool false, .bool false]) (t := 96) ?hr ?_; (case hd => rfl); (case hg => rfl); (case hr => first | (go_simp; done) | (go_simp; rfl)); intro g5 hg w6 hbox hb; have n0_ := Aside0.mk (lP_ HB.out hb); have n1_ := Aside0.mk (bB_ a0.out hb); have n2_ := Aside0.mk (bB_ a1.out hb); have n3_ := Aside0.mk hbox; have n4_ := Aside0.mk (show w.heap.size ≤ g5 by rw [hg]; exact below_size HB.out); have n5_ := Aside0.mk (show g2 ≠ g5 by rw [hg]; exact Nat.ne_of_lt (blk_lt a0.out)); have n6_ := Aside0.mk (show g3 ≠ g5 by rw [hg]; exact Nat.ne_of_lt (blk_lt a1.out)); clear HB a0 a1; have HB := n0_; have a0 := n1_; have a1 := n2_; have a2 := n3_; have a3 := n4_; have NB25 := n5_; have NB35 := n6_; clear n0_ n1_ n2_ n3_ n4_ n5_ n6_ hb hbox hg; have hnb_ := NB25.out; have hnc_ := NB25.out.symm; have q0_ : w6.cell? ⟨g2, 0, none⟩ = some (.int .i64 6) := (blk_cell a0.out 0).trans rfl; have q1_ : w6.cell? ⟨g2, 1, none⟩ = some (.int .i64 a0_1) := (blk_cell a0.out 1).trans rfl; have q2_ : w6.cell? ⟨g2, 2, none⟩ = some (.int .i64 0) := (blk_cell a0.out 2).trans rfl; have q3_ : w6.cell? ⟨g2, 3, none⟩ = some (.int .i64 0) := (blk_cell a0.out 3).trans rfl; have p0_ : w6.cell? ⟨g5, 0, none⟩ = some (.bool false) := (blk_cell a2.out 0).trans rfl; have p1_ : w6.cell? ⟨g5, 1, none⟩ = some (.bool false) := (blk_cell a2.out 1).trans rfl; have p2_ : w6.cell? ⟨g5, 2, none⟩ = some (.bool false) := (blk_cell a2.out 2).trans rfl; have f0_ := blk_frozen a2.out 0; have f1_ := blk_frozen a2.out 1; have f2_ := blk_frozen a2.out 2)
    | (go_at_call 41; with_reducible refine (impl_in.calls 0 0 9999 _ _ HI2.out).mono ?_; rintro e w7 ⟨rfl, hd⟩; have hb := hd.below; clear hd; have n0_ := Aside0.mk (lP_ (by repeat (first | exact HB.out | refine lS1_ ?_ a3.out)) hb); have n1_ := Aside0.mk (bB_ (o := .cells #[.int .i64 6, .int .i64 a0_1, .int .i64 0, .int .i64 0] 68 (0, 0)) (by repeat (first | exact a0.out | refine bF_ ?_ NB25.out _)) hb); have n2_ := Aside0.mk (bB_ (o := .cells #[.slice A1 l1.length c1] 39 (0, 0)) (by repeat (first | exact a1.out | refine bF_ ?_ NB35.out _)) hb); clear HB a0 a1 hb; have HB := n0_; have a0 := n1_; have a1 := n2_; clear n0_ n1_ n2_; (try clear q0_ q1_ q2_ q3_); have q0_ : w7.cell? ⟨g2, 0, none⟩ = some (.int .i64 6) := (blk_cell a0.out 0).trans rfl; have q1_ : w7.cell? ⟨g2, 1, none⟩ = some (.int .i64 a0_1) := (blk_cell a0.out 1).trans rfl; have q2_ : w7.cell? ⟨g2, 2, none⟩ = some (.int .i64 0) := (blk_cell a0.out 2).trans rfl; have q3_ : w7.cell? ⟨g2, 3, none⟩ = some (.int .i64 0) := (blk_cell a0.out 3).trans rfl)
    | (go_at_call 69; (try clear HO); with_reducible refine (impl_Term_parts.calls 1 6 a0_1 0 0 _ _ HP.out).mono ?_; rintro e w8 ⟨v8, rfl, ho, hb⟩; have HO := Aside0.mk ho; clear ho; obtain ⟨Ao, co, eo⟩ := Kd.R_slice HO.out; subst eo; have n0_ := Aside0.mk (lP_ (by repeat (first | exact HB.out | refine lS1_ ?_ a3.out)) hb); have n1_ := Aside0.mk (bB_ (o := .cells #[.int .i64 6, .int .i64 a0_1, .int .i64 0, .int .i64 0] 68 (0, 0)) (by repeat (first | exact a0.out | refine bF_ ?_ NB25.out _)) hb); have n2_ := Aside0.mk (bB_ (o := .cells #[.slice A1 l1.length c1] 39 (0, 0)) (by repeat (first | exact a1.out | refine bF_ ?_ NB35.out _)) hb); clear HB a0 a1 hb; have HB := n0_; have a0 := n1_; have a1 := n2_; clear n0_ n1_ n2_; (try clear q0_ q1_ q2_ q3_); have q0_ : w8.cell? ⟨g2, 0, none⟩ = some (.int .i64 6) := (blk_cell a0.out 0).trans rfl; have q1_ : w8.cell? ⟨g2, 1, none⟩ = some (.int .i64 a0_1) := (blk_cell a0.out 1).trans rfl; have q2_ : w8.cell? ⟨g2, 2, none⟩ = some (.int .i64 0) := (blk_cell a0.out 2).trans rfl; have q3_ : w8.cell? ⟨g2, 3, none⟩ = some (.int .i64 0) := (blk_cell a0.out 3).trans rfl)
    | (go_at_call 55; refine (slices_ContainsFunc_int64_int64.calls 70 #[.pointer (some ⟨g3, 0, none⟩)] (fun x => !decide (0 ≤ x ∧ x ≤ (l1.length : Int) - 1)) Ao co _ _ (enters_of Try.func70 (by kernel_rfl) rfl) (fun W x _ hB => (impl_fault_1.calls A1 l1.length c1 g3 x HL.out W ((hB.cell (p := ⟨g3, 0, none⟩) (blk_lt a1.out)).trans ((blk_cell a1.out 0).trans rfl))).mono (fun _ _ h => ⟨h.1, lP_ hB h.2⟩)) (Kd.R_reads' HO.out).2.2 (by simp)).mono ?_; rintro e w9 ⟨he, hb⟩; rw [HANY.out] at he; subst he; have n0_ := Aside0.mk (lP_ (by repeat (first | exact HB.out | refine lS1_ ?_ a3.out)) hb); have n1_ := Aside0.mk (bB_ (o := .cells #[.int .i64 6, .int .i64 a0_1, .int .i64 0, .int .i64 0] 68 (0, 0)) (by repeat (first | exact a0.out | refine bF_ ?_ NB25.out _)) hb); have n2_ := Aside0.mk (bB_ (o := .cells #[.slice A1 l1.length c1] 39 (0, 0)) (by repeat (first | exact a1.out | refine bF_ ?_ NB35.out _)) hb); clear HB a0 a1 hb; have HB := n0_; have a0 := n1_; have a1 := n2_; clear n0_ n1_ n2_; (try clear q0_ q1_ q2_ q3_); have q0_ : w9.cell? ⟨g2, 0, none⟩ = some (.int .i64 6) := (blk_cell a0.out 0).trans rfl; have q1_ : w9.cell? ⟨g2, 1, none⟩ = some (.int .i64 a0_1) := (blk_cell a0.out 1).trans rfl; have q2_ : w9.cell? ⟨g2, 2, none⟩ = some (.int .i64 0) := (blk_cell a0.out 2).trans rfl; have q3_ : w9.cell? ⟨g2, 3, none⟩ = some (.int .i64 0) := (blk_cell a0.out 3).trans rfl))
  go_ret
  exact ⟨rfl, (by repeat (first | exact HB.out | refine lS1_ ?_ a3.out))⟩
set_option maxHeartbeats 4000000 in
set_option maxRecDepth 100000 in
theorem fault_6_r (a0_1 : Int) (A1 : Option Addr) (c1 : Nat) (l1 : List S68) (w : World) (hr1 : Kd.C k68 w A1 l1.length l1) (hl : l1.length ≤ 9223372036854775807) (hp : ([a0_1] : List Int).any (fun x => !decide (0 ≤ x ∧ x ≤ (l1.length : Int) - 1)) = false) (hq : ([a0_1] : List Int).any (fun x => (rd_T68 l1 x).f0 != 2) = true) :
    Calls Try.prog 50 #[.agg #[.int .i64 6, .int .i64 a0_1, .int .i64 0, .int .i64 0], .slice A1 l1.length c1] w fun e w' => e = .returned (.int .i64 1) ∧ Below w.heap.size w w' := by
  have hmf : ∀ (fn : Fn) (first cap : Array Value) (w : World), (Instr.makeFunc fn first cap).run Try.prog w = .ok (.func fn first cap) w := fun _ _ _ _ => rfl
  have HB := Aside0.mk (Below.refl w.heap.size w)
  have HR := Aside0.mk hr1
  have HL := Aside0.mk hl
  clear hr1 hl
  have HI := Aside0.mk (show impl_in.f 6 1 7 = some true by rw [impl_in_eq]; rfl)
  have HN := Aside0.mk (show impl_namesOf.f 1 6 = some (true, false, false) by simp [impl_namesOf.f, impl_namesOf.j0])
  have HI2 := Aside0.mk (show impl_in.f 0 0 9999 = some true by rw [impl_in_eq]; rfl)
  have HP := Aside0.mk (show impl_Term_parts.f 1 6 a0_1 0 0 = some ([a0_1] : List Int) by simp [impl_Term_parts.f, impl_namesOf.f, impl_namesOf.j0])
  have HANY := Aside0.mk hp
  have HIN := Aside0.mk (fault_in l1 [a0_1] hp)
  clear hp
  have HANY2 := Aside0.mk hq
  clear hq
  go_enter Try.func50, Try.ntmps50
  go_wp2_with (first
    | ((with_reducible refine gate_dst (N := 2) rfl ?_); refine box_event ?hg (N := 2) ?hd (cs := #[.int .i64 6, .int .i64 a0_1, .int .i64 0, .int .i64 0]) (t := 68) ?hr ?_; (case hd => rfl); (case hg => rfl); (case hr => first | (go_simp; done) | (go_simp; rfl)); intro g2 hg w2 hbox hb; have n0_ := Aside0.mk (lP_ HB.out hb); have n1_ := Aside0.mk hbox; clear HB; have HB := n0_; have a0 := n1_; clear n0_ n1_ hb hbox hg)
    | ((with_reducible refine gate_dst (N := 3) rfl ?_); refine box_event ?hg (N := 3) ?hd (cs := #[.slice A1 l1.length c1]) (t := 39) ?hr ?_; (case hd => rfl); (case hg => rfl); (case hr => first | (go_simp; done) | (go_simp; rfl)); intro g3 hg w3 hbox hb; have n0_ := Aside0.mk (lP_ HB.out hb); have n1_ := Aside0.mk (bB_ a0.out hb); have n2_ := Aside0.mk hbox; clear HB a0; have HB := n0_; have a0 := n1_; have a1 := n2_; clear n0_ n1_ n2_ hb hbox hg; have q0_ : w3.cell? ⟨g2, 0, none⟩ = some (.int .i64 6) := (blk_cell a0.out 0).trans rfl; have q1_ : w3.cell? ⟨g2, 1, none⟩ = some (.int .i64 a0_1) := (blk_cell a0.out 1).trans rfl; have q2_ : w3.cell? ⟨g2, 2, none⟩ = some (.int .i64 0) := (blk_cell a0.out 2).trans rfl; have q3_ : w3.cell? ⟨g2, 3, none⟩ = some (.int .i64 0) := (blk_cell a0.out 3).trans rfl)
    | (go_at_call 41; with_reducible refine (impl_in.calls 6 1 7 _ _ HI.out).mono ?_; rintro e w4 ⟨rfl, hd⟩; have hb := hd.below; clear hd; have n0_ := Aside0.mk (lP_ HB.out hb); have n1_ := Aside0.mk (bB_ a0.out hb); have n2_ := Aside0.mk (bB_ a1.out hb); clear HB a0 a1 hb; have HB := n0_; have a0 := n1_; have a1 := n2_; clear n0_ n1_ n2_ q0_ q1_ q2_ q3_; have q0_ : w4.cell? ⟨g2, 0, none⟩ = some (.int .i64 6) := (blk_cell a0.out 0).trans rfl; have q1_ : w4.cell? ⟨g2, 1, none⟩ = some (.int .i64 a0_1) := (blk_cell a0.out 1).trans rfl; have q2_ : w4.cell? ⟨g2, 2, none⟩ = some (.int .i64 0) := (blk_cell a0.out 2).trans rfl; have q3_ : w4.cell? ⟨g2, 3, none⟩ = some (.int .i64 0) := (blk_cell a0.out 3).trans rfl)
    | (go_at_call 68; with_reducible refine (impl_namesOf.calls 1 6 true false false _ HN.out).mono ?_; rintro e w5 ⟨rfl, hb⟩; have n0_ := Aside0.mk (lP_ HB.out hb); have n1_ := Aside0.mk (bB_ a0.out hb); have n2_ := Aside0.mk (bB_ a1.out hb); clear HB a0 a1 hb; have HB := n0_; have a0 := n1_; have a1 := n2_; clear n0_ n1_ n2_ q0_ q1_ q2_ q3_)
    | ((with_reducible refine gate_dst (N := 5) rfl ?_); refine box_event ?hg (N := 5) ?hd (cs := #[.bool false, .bool false, .bool false]) (t := 96) ?hr ?_; (case hd => rfl); (case hg => rfl); (case hr => first | (go_simp; done) | (go_simp; rfl)); intro g5 hg w6 hbox hb; have n0_ := Aside0.mk (lP_ HB.out hb); have n1_ := Aside0.mk (bB_ a0.out hb); have n2_ := Aside0.mk (bB_ a1.out hb); have n3_ := Aside0.mk hbox; have n4_ := Aside0.mk (show w.heap.size ≤ g5 by rw [hg]; exact below_size HB.out); have n5_ := Aside0.mk (show g2 ≠ g5 by rw [hg]; exact Nat.ne_of_lt (blk_lt a0.out)); have n6_ := Aside0.mk (show g3 ≠ g5 by rw [hg]; exact Nat.ne_of_lt (blk_lt a1.out)); clear HB a0 a1; have HB := n0_; have a0 := n1_; have a1 := n2_; have a2 := n3_; have a3 := n4_; have NB25 := n5_; have NB35 := n6_; clear n0_ n1_ n2_ n3_ n4_ n5_ n6_ hb hbox hg; have hnb_ := NB25.out; have hnc_ := NB25.out.symm; have q0_ : w6.cell? ⟨g2, 0, none⟩ = some (.int .i64 6) := (blk_cell a0.out 0).trans rfl; have q1_ : w6.cell? ⟨g2, 1, none⟩ = some (.int .i64 a0_1) := (blk_cell a0.out 1).trans rfl; have q2_ : w6.cell? ⟨g2, 2, none⟩ = some (.int .i64 0) := (blk_cell a0.out 2).trans rfl; have q3_ : w6.cell? ⟨g2, 3, none⟩ = some (.int .i64 0) := (blk_cell a0.out 3).trans rfl; have p0_ : w6.cell? ⟨g5, 0, none⟩ = some (.bool false) := (blk_cell a2.out 0).trans rfl; have p1_ : w6.cell? ⟨g5, 1, none⟩ = some (.bool false) := (blk_cell a2.out 1).trans rfl; have p2_ : w6.cell? ⟨g5, 2, none⟩ = some (.bool false) := (blk_cell a2.out 2).trans rfl; have f0_ := blk_frozen a2.out 0; have f1_ := blk_frozen a2.out 1; have f2_ := blk_frozen a2.out 2)
    | (go_at_call 41; with_reducible refine (impl_in.calls 0 0 9999 _ _ HI2.out).mono ?_; rintro e w7 ⟨rfl, hd⟩; have hb := hd.below; clear hd; have n0_ := Aside0.mk (lP_ (by repeat (first | exact HB.out | refine lS1_ ?_ a3.out)) hb); have n1_ := Aside0.mk (bB_ (o := .cells #[.int .i64 6, .int .i64 a0_1, .int .i64 0, .int .i64 0] 68 (0, 0)) (by repeat (first | exact a0.out | refine bF_ ?_ NB25.out _)) hb); have n2_ := Aside0.mk (bB_ (o := .cells #[.slice A1 l1.length c1] 39 (0, 0)) (by repeat (first | exact a1.out | refine bF_ ?_ NB35.out _)) hb); clear HB a0 a1 hb; have HB := n0_; have a0 := n1_; have a1 := n2_; clear n0_ n1_ n2_; (try clear q0_ q1_ q2_ q3_); have q0_ : w7.cell? ⟨g2, 0, none⟩ = some (.int .i64 6) := (blk_cell a0.out 0).trans rfl; have q1_ : w7.cell? ⟨g2, 1, none⟩ = some (.int .i64 a0_1) := (blk_cell a0.out 1).trans rfl; have q2_ : w7.cell? ⟨g2, 2, none⟩ = some (.int .i64 0) := (blk_cell a0.out 2).trans rfl; have q3_ : w7.cell? ⟨g2, 3, none⟩ = some (.int .i64 0) := (blk_cell a0.out 3).trans rfl)
    | (go_at_call 69; (try clear HO); with_reducible refine (impl_Term_parts.calls 1 6 a0_1 0 0 _ _ HP.out).mono ?_; rintro e w8 ⟨v8, rfl, ho, hb⟩; have HO := Aside0.mk ho; clear ho; obtain ⟨Ao, co, eo⟩ := Kd.R_slice HO.out; subst eo; have n0_ := Aside0.mk (lP_ (by repeat (first | exact HB.out | refine lS1_ ?_ a3.out)) hb); have n1_ := Aside0.mk (bB_ (o := .cells #[.int .i64 6, .int .i64 a0_1, .int .i64 0, .int .i64 0] 68 (0, 0)) (by repeat (first | exact a0.out | refine bF_ ?_ NB25.out _)) hb); have n2_ := Aside0.mk (bB_ (o := .cells #[.slice A1 l1.length c1] 39 (0, 0)) (by repeat (first | exact a1.out | refine bF_ ?_ NB35.out _)) hb); clear HB a0 a1 hb; have HB := n0_; have a0 := n1_; have a1 := n2_; clear n0_ n1_ n2_; (try clear q0_ q1_ q2_ q3_); have q0_ : w8.cell? ⟨g2, 0, none⟩ = some (.int .i64 6) := (blk_cell a0.out 0).trans rfl; have q1_ : w8.cell? ⟨g2, 1, none⟩ = some (.int .i64 a0_1) := (blk_cell a0.out 1).trans rfl; have q2_ : w8.cell? ⟨g2, 2, none⟩ = some (.int .i64 0) := (blk_cell a0.out 2).trans rfl; have q3_ : w8.cell? ⟨g2, 3, none⟩ = some (.int .i64 0) := (blk_cell a0.out 3).trans rfl)
    | (go_at_call 55; refine (slices_ContainsFunc_int64_int64.calls 70 #[.pointer (some ⟨g3, 0, none⟩)] (fun x => !decide (0 ≤ x ∧ x ≤ (l1.length : Int) - 1)) Ao co _ _ (enters_of Try.func70 (by kernel_rfl) rfl) (fun W x _ hB => (impl_fault_1.calls A1 l1.length c1 g3 x HL.out W ((hB.cell (p := ⟨g3, 0, none⟩) (blk_lt a1.out)).trans ((blk_cell a1.out 0).trans rfl))).mono (fun _ _ h => ⟨h.1, lP_ hB h.2⟩)) (Kd.R_reads' HO.out).2.2 (by simp)).mono ?_; rintro e w9 ⟨he, hb⟩; rw [HANY.out] at he; subst he; have n0_ := Aside0.mk (lP_ (by repeat (first | exact HB.out | refine lS1_ ?_ a3.out)) hb); have n1_ := Aside0.mk (bB_ (o := .cells #[.int .i64 6, .int .i64 a0_1, .int .i64 0, .int .i64 0] 68 (0, 0)) (by repeat (first | exact a0.out | refine bF_ ?_ NB25.out _)) hb); have n2_ := Aside0.mk (bB_ (o := .cells #[.slice A1 l1.length c1] 39 (0, 0)) (by repeat (first | exact a1.out | refine bF_ ?_ NB35.out _)) hb); clear HB a0 a1 hb; have HB := n0_; have a0 := n1_; have a1 := n2_; clear n0_ n1_ n2_; (try clear q0_ q1_ q2_ q3_); have q0_ : w9.cell? ⟨g2, 0, none⟩ = some (.int .i64 6) := (blk_cell a0.out 0).trans rfl; have q1_ : w9.cell? ⟨g2, 1, none⟩ = some (.int .i64 a0_1) := (blk_cell a0.out 1).trans rfl; have q2_ : w9.cell? ⟨g2, 2, none⟩ = some (.int .i64 0) := (blk_cell a0.out 2).trans rfl; have q3_ : w9.cell? ⟨g2, 3, none⟩ = some (.int .i64 0) := (blk_cell a0.out 3).trans rfl)
    | (go_at_call 55; refine (slices_ContainsFunc_int64_int64.calls 71 #[.pointer (some ⟨g3, 0, none⟩)] (fun x => (rd_T68 l1 x).f0 != 2) Ao co _ _ (enters_of Try.func71 (by kernel_rfl) rfl) (fun W x hx hB => (impl_fault_2.calls A1 l1 c1 g3 x W ((hB.cell (p := ⟨g3, 0, none⟩) (blk_lt a1.out)).trans ((blk_cell a1.out 0).trans rfl)) (Kd.C_below HR.out (lP_ HB.out hB)) (HIN.out x hx).1 (HIN.out x hx).2).mono (fun _ _ h => ⟨h.1, lP_ hB h.2⟩)) (Kd.R_reads' HO.out).2.2 (by simp)).mono ?_; rintro e w10 ⟨he, hb⟩; rw [HANY2.out] at he; subst he; have n0_ := Aside0.mk (lP_ (by repeat (first | exact HB.out | refine lS1_ ?_ a3.out)) hb); have n1_ := Aside0.mk (bB_ (o := .cells #[.int .i64 6, .int .i64 a0_1, .int .i64 0, .int .i64 0] 68 (0, 0)) (by repeat (first | exact a0.out | refine bF_ ?_ NB25.out _)) hb); have n2_ := Aside0.mk (bB_ (o := .cells #[.slice A1 l1.length c1] 39 (0, 0)) (by repeat (first | exact a1.out | refine bF_ ?_ NB35.out _)) hb); clear HB a0 a1 hb; have HB := n0_; have a0 := n1_; have a1 := n2_; clear n0_ n1_ n2_; (try clear q0_ q1_ q2_ q3_); have q0_ : w10.cell? ⟨g2, 0, none⟩ = some (.int .i64 6) := (blk_cell a0.out 0).trans rfl; have q1_ : w10.cell? ⟨g2, 1, none⟩ = some (.int .i64 a0_1) := (blk_cell a0.out 1).trans rfl; have q2_ : w10.cell? ⟨g2, 2, none⟩ = some (.int .i64 0) := (blk_cell a0.out 2).trans rfl; have q3_ : w10.cell? ⟨g2, 3, none⟩ = some (.int .i64 0) := (blk_cell a0.out 3).trans rfl))
  go_ret
  exact ⟨rfl, (by repeat (first | exact HB.out | refine lS1_ ?_ a3.out))⟩
set_option maxHeartbeats 4000000 in
set_option maxRecDepth 100000 in
theorem fault_6_ok (a0_1 : Int) (A1 : Option Addr) (c1 : Nat) (l1 : List S68) (w : World) (hr1 : Kd.C k68 w A1 l1.length l1) (hl : l1.length ≤ 9223372036854775807) (hp : ([a0_1] : List Int).any (fun x => !decide (0 ≤ x ∧ x ≤ (l1.length : Int) - 1)) = false) (hq : ([a0_1] : List Int).any (fun x => (rd_T68 l1 x).f0 != 2) = false) :
    Calls Try.prog 50 #[.agg #[.int .i64 6, .int .i64 a0_1, .int .i64 0, .int .i64 0], .slice A1 l1.length c1] w fun e w' => e = .returned (.int .i64 0) ∧ Below w.heap.size w w' := by
  have hmf : ∀ (fn : Fn) (first cap : Array Value) (w : World), (Instr.makeFunc fn first cap).run Try.prog w = .ok (.func fn first cap) w := fun _ _ _ _ => rfl
  have HB := Aside0.mk (Below.refl w.heap.size w)
  have HR := Aside0.mk hr1
  have HL := Aside0.mk hl
  clear hr1 hl
  have HI := Aside0.mk (show impl_in.f 6 1 7 = some true by rw [impl_in_eq]; rfl)
  have HN := Aside0.mk (show impl_namesOf.f 1 6 = some (true, false, false) by simp [impl_namesOf.f, impl_namesOf.j0])
  have HI2 := Aside0.mk (show impl_in.f 0 0 9999 = some true by rw [impl_in_eq]; rfl)
  have HP := Aside0.mk (show impl_Term_parts.f 1 6 a0_1 0 0 = some ([a0_1] : List Int) by simp [impl_Term_parts.f, impl_namesOf.f, impl_namesOf.j0])
  have HANY := Aside0.mk hp
  have HIN := Aside0.mk (fault_in l1 [a0_1] hp)
  clear hp
  have HANY2 := Aside0.mk hq
  clear hq
  go_enter Try.func50, Try.ntmps50
  go_wp2_with (first
    | ((with_reducible refine gate_dst (N := 2) rfl ?_); refine box_event ?hg (N := 2) ?hd (cs := #[.int .i64 6, .int .i64 a0_1, .int .i64 0, .int .i64 0]) (t := 68) ?hr ?_; (case hd => rfl); (case hg => rfl); (case hr => first | (go_simp; done) | (go_simp; rfl)); intro g2 hg w2 hbox hb; have n0_ := Aside0.mk (lP_ HB.out hb); have n1_ := Aside0.mk hbox; clear HB; have HB := n0_; have a4 := n1_; clear n0_ n1_ hb hbox hg)
    | ((with_reducible refine gate_dst (N := 3) rfl ?_); refine box_event ?hg (N := 3) ?hd (cs := #[.slice A1 l1.length c1]) (t := 39) ?hr ?_; (case hd => rfl); (case hg => rfl); (case hr => first | (go_simp; done) | (go_simp; rfl)); intro g3 hg w3 hbox hb; have n0_ := Aside0.mk (lP_ HB.out hb); have n1_ := Aside0.mk (bB_ a4.out hb); have n2_ := Aside0.mk hbox; clear HB a4; have HB := n0_; have a4 := n1_; have a5 := n2_; clear n0_ n1_ n2_ hb hbox hg; have q0_ : w3.cell? ⟨g2, 0, none⟩ = some (.int .i64 6) := (blk_cell a4.out 0).trans rfl; have q1_ : w3.cell? ⟨g2, 1, none⟩ = some (.int .i64 a0_1) := (blk_cell a4.out 1).trans rfl; have q2_ : w3.cell? ⟨g2, 2, none⟩ = some (.int .i64 0) := (blk_cell a4.out 2).trans rfl; have q3_ : w3.cell? ⟨g2, 3, none⟩ = some (.int .i64 0) := (blk_cell a4.out 3).trans rfl)
    | (go_at_call 41; with_reducible refine (impl_in.calls 6 1 7 _ _ HI.out).mono ?_; rintro e w4 ⟨rfl, hd⟩; have hb := hd.below; clear hd; have n0_ := Aside0.mk (lP_ HB.out hb); have n1_ := Aside0.mk (bB_ a4.out hb); have n2_ := Aside0.mk (bB_ a5.out hb); clear HB a4 a5 hb; have HB := n0_; have a4 := n1_; have a5 := n2_; clear n0_ n1_ n2_ q0_ q1_ q2_ q3_; have q0_ : w4.cell? ⟨g2, 0, none⟩ = some (.int .i64 6) := (blk_cell a4.out 0).trans rfl; have q1_ : w4.cell? ⟨g2, 1, none⟩ = some (.int .i64 a0_1) := (blk_cell a4.out 1).trans rfl; have q2_ : w4.cell? ⟨g2, 2, none⟩ = some (.int .i64 0) := (blk_cell a4.out 2).trans rfl; have q3_ : w4.cell? ⟨g2, 3, none⟩ = some (.int .i64 0) := (blk_cell a4.out 3).trans rfl)
    | (go_at_call 68; with_reducible refine (impl_namesOf.calls 1 6 true false false _ HN.out).mono ?_; rintro e w5 ⟨rfl, hb⟩; have n0_ := Aside0.mk (lP_ HB.out hb); have n1_ := Aside0.mk (bB_ a4.out hb); have n2_ := Aside0.mk (bB_ a5.out hb); clear HB a4 a5 hb; have HB := n0_; have a4 := n1_; have a5 := n2_; clear n0_ n1_ n2_ q0_ q1_ q2_ q3_)
    | ((with_reducible refine gate_dst (N := 5) rfl ?_); refine box_event ?hg (N := 5) ?hd (cs := #[.bool false, .bool false, .bool false]) (t := 96) ?hr ?_; (case hd => rfl); (case hg => rfl); (case hr => first | (go_simp; done) | (go_simp; rfl)); intro g5 hg w6 hbox hb; have n0_ := Aside0.mk (lP_ HB.out hb); have n1_ := Aside0.mk (bB_ a4.out hb); have n2_ := Aside0.mk (bB_ a5.out hb); have n3_ := Aside0.mk hbox; have n4_ := Aside0.mk (show w.heap.size ≤ g5 by rw [hg]; exact below_size HB.out); have n5_ := Aside0.mk (show g2 ≠ g5 by rw [hg]; exact Nat.ne_of_lt (blk_lt a4.out)); have n6_ := Aside0.mk (show g3 ≠ g5 by rw [hg]; exact Nat.ne_of_lt (blk_lt a5.out)); clear HB a4 a5; have HB := n0_; have a4 := n1_; have a5 := n2_; have a6 := n3_; have a7 := n4_; have NB25 := n5_; have NB35 := n6_; clear n0_ n1_ n2_ n3_ n4_ n5_ n6_ hb hbox hg; have hnb_ := NB25.out; have hnc_ := NB25.out.symm; have q0_ : w6.cell? ⟨g2, 0, none⟩ = some (.int .i64 6) := (blk_cell a4.out 0).trans rfl; have q1_ : w6.cell? ⟨g2, 1, none⟩ = some (.int .i64 a0_1) := (blk_cell a4.out 1).trans rfl; have q2_ : w6.cell? ⟨g2, 2, none⟩ = some (.int .i64 0) := (blk_cell a4.out 2).trans rfl; have q3_ : w6.cell? ⟨g2, 3, none⟩ = some (.int .i64 0) := (blk_cell a4.out 3).trans rfl; have p0_ : w6.cell? ⟨g5, 0, none⟩ = some (.bool false) := (blk_cell a6.out 0).trans rfl; have p1_ : w6.cell? ⟨g5, 1, none⟩ = some (.bool false) := (blk_cell a6.out 1).trans rfl; have p2_ : w6.cell? ⟨g5, 2, none⟩ = some (.bool false) := (blk_cell a6.out 2).trans rfl; have f0_ := blk_frozen a6.out 0; have f1_ := blk_frozen a6.out 1; have f2_ := blk_frozen a6.out 2)
    | (go_at_call 41; with_reducible refine (impl_in.calls 0 0 9999 _ _ HI2.out).mono ?_; rintro e w7 ⟨rfl, hd⟩; have hb := hd.below; clear hd; have n0_ := Aside0.mk (lP_ (by repeat (first | exact HB.out | refine lS1_ ?_ a7.out)) hb); have n1_ := Aside0.mk (bB_ (o := .cells #[.int .i64 6, .int .i64 a0_1, .int .i64 0, .int .i64 0] 68 (0, 0)) (by repeat (first | exact a4.out | refine bF_ ?_ NB25.out _)) hb); have n2_ := Aside0.mk (bB_ (o := .cells #[.slice A1 l1.length c1] 39 (0, 0)) (by repeat (first | exact a5.out | refine bF_ ?_ NB35.out _)) hb); clear HB a4 a5 hb; have HB := n0_; have a4 := n1_; have a5 := n2_; clear n0_ n1_ n2_; (try clear q0_ q1_ q2_ q3_); have q0_ : w7.cell? ⟨g2, 0, none⟩ = some (.int .i64 6) := (blk_cell a4.out 0).trans rfl; have q1_ : w7.cell? ⟨g2, 1, none⟩ = some (.int .i64 a0_1) := (blk_cell a4.out 1).trans rfl; have q2_ : w7.cell? ⟨g2, 2, none⟩ = some (.int .i64 0) := (blk_cell a4.out 2).trans rfl; have q3_ : w7.cell? ⟨g2, 3, none⟩ = some (.int .i64 0) := (blk_cell a4.out 3).trans rfl)
    | (go_at_call 69; (try clear HO); with_reducible refine (impl_Term_parts.calls 1 6 a0_1 0 0 _ _ HP.out).mono ?_; rintro e w8 ⟨v8, rfl, ho, hb⟩; have HO := Aside0.mk ho; clear ho; obtain ⟨Ao, co, eo⟩ := Kd.R_slice HO.out; subst eo; have n0_ := Aside0.mk (lP_ (by repeat (first | exact HB.out | refine lS1_ ?_ a7.out)) hb); have n1_ := Aside0.mk (bB_ (o := .cells #[.int .i64 6, .int .i64 a0_1, .int .i64 0, .int .i64 0] 68 (0, 0)) (by repeat (first | exact a4.out | refine bF_ ?_ NB25.out _)) hb); have n2_ := Aside0.mk (bB_ (o := .cells #[.slice A1 l1.length c1] 39 (0, 0)) (by repeat (first | exact a5.out | refine bF_ ?_ NB35.out _)) hb); clear HB a4 a5 hb; have HB := n0_; have a4 := n1_; have a5 := n2_; clear n0_ n1_ n2_; (try clear q0_ q1_ q2_ q3_); have q0_ : w8.cell? ⟨g2, 0, none⟩ = some (.int .i64 6) := (blk_cell a4.out 0).trans rfl; have q1_ : w8.cell? ⟨g2, 1, none⟩ = some (.int .i64 a0_1) := (blk_cell a4.out 1).trans rfl; have q2_ : w8.cell? ⟨g2, 2, none⟩ = some (.int .i64 0) := (blk_cell a4.out 2).trans rfl; have q3_ : w8.cell? ⟨g2, 3, none⟩ = some (.int .i64 0) := (blk_cell a4.out 3).trans rfl)
    | (go_at_call 55; refine (slices_ContainsFunc_int64_int64.calls 70 #[.pointer (some ⟨g3, 0, none⟩)] (fun x => !decide (0 ≤ x ∧ x ≤ (l1.length : Int) - 1)) Ao co _ _ (enters_of Try.func70 (by kernel_rfl) rfl) (fun W x _ hB => (impl_fault_1.calls A1 l1.length c1 g3 x HL.out W ((hB.cell (p := ⟨g3, 0, none⟩) (blk_lt a5.out)).trans ((blk_cell a5.out 0).trans rfl))).mono (fun _ _ h => ⟨h.1, lP_ hB h.2⟩)) (Kd.R_reads' HO.out).2.2 (by simp)).mono ?_; rintro e w9 ⟨he, hb⟩; rw [HANY.out] at he; subst he; have n0_ := Aside0.mk (lP_ (by repeat (first | exact HB.out | refine lS1_ ?_ a7.out)) hb); have n1_ := Aside0.mk (bB_ (o := .cells #[.int .i64 6, .int .i64 a0_1, .int .i64 0, .int .i64 0] 68 (0, 0)) (by repeat (first | exact a4.out | refine bF_ ?_ NB25.out _)) hb); have n2_ := Aside0.mk (bB_ (o := .cells #[.slice A1 l1.length c1] 39 (0, 0)) (by repeat (first | exact a5.out | refine bF_ ?_ NB35.out _)) hb); clear HB a4 a5 hb; have HB := n0_; have a4 := n1_; have a5 := n2_; clear n0_ n1_ n2_; (try clear q0_ q1_ q2_ q3_); have q0_ : w9.cell? ⟨g2, 0, none⟩ = some (.int .i64 6) := (blk_cell a4.out 0).trans rfl; have q1_ : w9.cell? ⟨g2, 1, none⟩ = some (.int .i64 a0_1) := (blk_cell a4.out 1).trans rfl; have q2_ : w9.cell? ⟨g2, 2, none⟩ = some (.int .i64 0) := (blk_cell a4.out 2).trans rfl; have q3_ : w9.cell? ⟨g2, 3, none⟩ = some (.int .i64 0) := (blk_cell a4.out 3).trans rfl)
    | (go_at_call 55; refine (slices_ContainsFunc_int64_int64.calls 71 #[.pointer (some ⟨g3, 0, none⟩)] (fun x => (rd_T68 l1 x).f0 != 2) Ao co _ _ (enters_of Try.func71 (by kernel_rfl) rfl) (fun W x hx hB => (impl_fault_2.calls A1 l1 c1 g3 x W ((hB.cell (p := ⟨g3, 0, none⟩) (blk_lt a5.out)).trans ((blk_cell a5.out 0).trans rfl)) (Kd.C_below HR.out (lP_ HB.out hB)) (HIN.out x hx).1 (HIN.out x hx).2).mono (fun _ _ h => ⟨h.1, lP_ hB h.2⟩)) (Kd.R_reads' HO.out).2.2 (by simp)).mono ?_; rintro e w10 ⟨he, hb⟩; rw [HANY2.out] at he; subst he; have n0_ := Aside0.mk (lP_ (by repeat (first | exact HB.out | refine lS1_ ?_ a7.out)) hb); have n1_ := Aside0.mk (bB_ (o := .cells #[.int .i64 6, .int .i64 a0_1, .int .i64 0, .int .i64 0] 68 (0, 0)) (by repeat (first | exact a4.out | refine bF_ ?_ NB25.out _)) hb); have n2_ := Aside0.mk (bB_ (o := .cells #[.slice A1 l1.length c1] 39 (0, 0)) (by repeat (first | exact a5.out | refine bF_ ?_ NB35.out _)) hb); clear HB a4 a5 hb; have HB := n0_; have a4 := n1_; have a5 := n2_; clear n0_ n1_ n2_; (try clear q0_ q1_ q2_ q3_); have q0_ : w10.cell? ⟨g2, 0, none⟩ = some (.int .i64 6) := (blk_cell a4.out 0).trans rfl; have q1_ : w10.cell? ⟨g2, 1, none⟩ = some (.int .i64 a0_1) := (blk_cell a4.out 1).trans rfl; have q2_ : w10.cell? ⟨g2, 2, none⟩ = some (.int .i64 0) := (blk_cell a4.out 2).trans rfl; have q3_ : w10.cell? ⟨g2, 3, none⟩ = some (.int .i64 0) := (blk_cell a4.out 3).trans rfl))
  go_ret
  exact ⟨rfl, (by repeat (first | exact HB.out | refine lS1_ ?_ a7.out))⟩
def notIn (l : List S68) (x : Int) : Bool := !decide (0 ≤ x ∧ x ≤ (l.length : Int) - 1)
def notFresh (l : List S68) (x : Int) : Bool := (rd_T68 l x).f0 != 2
def tfault (a0 a1 a2 a3 : Int) (l : List S68) : Int :=
  if 1 ≤ a0 ∧ a0 ≤ 7 then
    (if a0 = 1 ∨ a0 = 2 then (if a1 = 0 ∧ a2 = 0 then (if 0 ≤ a3 ∧ a3 ≤ 9999 then 0 else 3) else 1)
    else if a0 = 6 then (if a2 = 0 ∧ a3 = 0 then (if ([a1] : List Int).any (notIn l) = true then 3 else (if ([a1] : List Int).any (notFresh l) = true then 1 else 0)) else 1)
    else (if a3 = 0 then (if ([a1, a2] : List Int).any (notIn l) = true then 3 else (if a0 = 7 then (if ([a1, a2] : List Int).any (notFresh l) = true ∨ a1 > a2 then 1 else 0) else 0)) else 1))
  else 5
def impl_Term_fault.f (a0_0 : Int) (a0_1 : Int) (a0_2 : Int) (a0_3 : Int) (l1 : List S68) : Option Int := some (tfault a0_0 a0_1 a0_2 a0_3 l1)
theorem impl_Term_fault.calls (a0_0 : Int) (a0_1 : Int) (a0_2 : Int) (a0_3 : Int) (A1 : Option Addr) (c1 : Nat) (l1 : List S68) (r : Int) (w : World) (hr1 : Kd.C k68 w A1 l1.length l1) (hc1 : l1.length ≤ c1) (h : impl_Term_fault.f a0_0 a0_1 a0_2 a0_3 l1 = some r) :
    Calls Try.prog 50 #[.agg #[.int .i64 a0_0, .int .i64 a0_1, .int .i64 a0_2, .int .i64 a0_3], .slice A1 l1.length c1] w fun e w' => e = .returned (.int .i64 r) ∧ Below w.heap.size w w' := by
  unfold impl_Term_fault.f at h
  obtain rfl := Option.some.inj h
  clear h
  have hl : l1.length ≤ 9223372036854775807 := hr1.2.1
  unfold tfault
  by_cases hop : 1 ≤ a0_0 ∧ a0_0 ≤ 7
  · rw [if_pos hop]
    have hI : impl_in.f a0_0 1 7 = some true := by rw [impl_in_eq, decide_eq_true hop]
    by_cases hn : a0_0 = 1 ∨ a0_0 = 2
    · rw [if_pos hn]
      have hN : impl_namesOf.f 1 a0_0 = some (false, false, true) := by rcases hn with rfl | rfl <;> simp [impl_namesOf.f, impl_namesOf.j0]
      by_cases ha : a0_1 = 0
      · subst ha
        by_cases hb : a0_2 = 0
        · subst hb
          rw [if_pos ⟨rfl, rfl⟩]
          by_cases h3 : 0 ≤ a0_3 ∧ a0_3 ≤ 9999
          · rw [if_pos h3]
            exact fault_n_ok a0_0 a0_3 A1 c1 l1 w hr1 hl hI hN (by omega) (by omega) (by unfold impl_Term_parts.f; rw [hN]; rfl) h3
          · rw [if_neg h3]; exact fault_n_n a0_0 a0_3 A1 c1 l1 w hr1 hl hI hN h3
        · rw [if_neg (fun h => hb h.2)]; exact fault_n_b a0_0 a0_2 a0_3 A1 c1 l1 w hr1 hl hI hN hb
      · rw [if_neg (fun h => ha h.1)]; exact fault_n_a a0_0 a0_1 a0_2 a0_3 A1 c1 l1 w hr1 hl hI hN ha
    · rw [if_neg hn]
      by_cases h6 : a0_0 = 6
      · subst h6
        rw [if_pos rfl]
        by_cases hb : a0_2 = 0
        · subst hb
          by_cases h3 : a0_3 = 0
          · subst h3
            rw [if_pos ⟨rfl, rfl⟩]
            cases hp : ([a0_1] : List Int).any (notIn l1) with
            | true => exact fault_6_p a0_1 A1 c1 l1 w hr1 hl hp
            | false =>
              cases hq : ([a0_1] : List Int).any (notFresh l1) with
              | true => exact fault_6_r a0_1 A1 c1 l1 w hr1 hl hp hq
              | false => exact fault_6_ok a0_1 A1 c1 l1 w hr1 hl hp hq
          · rw [if_neg (fun h => h3 h.2)]; exact fault_6_f a0_1 a0_3 A1 c1 l1 w hr1 hl h3
        · rw [if_neg (fun h => hb h.1)]; exact fault_6_b a0_1 a0_2 a0_3 A1 c1 l1 w hr1 hl hb
      · rw [if_neg h6]
        have hN : impl_namesOf.f 1 a0_0 = some (true, true, false) := by
          have h1 : ¬ a0_0 = 1 := fun e => hn (.inl e)
          have h2 : (a0_0 == 2) = false := by simpa using (fun e => hn (.inr e) : ¬ a0_0 = 2)
          simp [impl_namesOf.f, impl_namesOf.j0, h1, h2, h6]
        by_cases h3 : a0_3 = 0
        · subst h3
          rw [if_pos rfl]
          have hP : impl_Term_parts.f 1 a0_0 a0_1 a0_2 0 = some ([a0_1, a0_2] : List Int) := by unfold impl_Term_parts.f; rw [hN]; rfl
          cases hp : ([a0_1, a0_2] : List Int).any (notIn l1) with
          | true => exact fault_p_p a0_0 a0_1 a0_2 A1 c1 l1 w hr1 hl hI hN hP hp
          | false =>
            by_cases h7 : a0_0 = 7
            · subst h7
              rw [if_neg (by decide), if_pos rfl]
              cases hq : ([a0_1, a0_2] : List Int).any (notFresh l1) with
              | true => rw [if_pos (.inl rfl)]; exact fault_7_r a0_1 a0_2 A1 c1 l1 w hr1 hl hp hq
              | false =>
                by_cases hg : a0_1 > a0_2
                · rw [if_pos (.inr hg)]; exact fault_7_g a0_1 a0_2 A1 c1 l1 w hr1 hl hp hq hg
                · rw [if_neg (by rintro (h | h); cases h; exact hg h)]; exact fault_7_ok a0_1 a0_2 A1 c1 l1 w hr1 hl hp hq hg
            · rw [if_neg (by decide), if_neg h7]
              exact fault_p_ok a0_0 a0_1 a0_2 A1 c1 l1 w hr1 hl hI hN hP h6 h7 hp
        · rw [if_neg h3]; exact fault_p_f a0_0 a0_1 a0_2 a0_3 A1 c1 l1 w hr1 hl hI hN h3
  · rw [if_neg hop]
    exact fault_text a0_0 a0_1 a0_2 a0_3 A1 c1 l1 w hr1 hl hop
end Go.Proofs.Ytaniedjfkiklmaa.G
namespace Go.Proofs.Ytaniedjfkiklmaa.G
open Go.RowKit Go.Proofs.YtaniedjfkiklmaaW.PrintWords Go.Proofs.YtaniedjfkiklmaaW.PrintLast Go.Proofs.YtaniedjfkiklmaaW.PrintMore
attribute [local go_sem] max2_int min2_int max_two min_two max_three min_three max_four min_four   -- for this text's walks alone
set_option linter.unusedVariables false
set_option linter.unusedSimpArgs false
open Go.Maps (Keyed IsMap isMap_empty atKey_put_same atKey_put_other)
theorem term_laid : laidOutB Try.prog = true := by kernel_rfl
theorem term_row : 68 < Try.prog.types.size := of_decide_eq_true (by kernel_rfl)
theorem term_wide : (match Try.prog.underlying 68 with | some (.array _ _) | some (.struct _) => true | _ => false) = true := by rw [Try.underlying68]
set_option maxRecDepth 100000 in
theorem term_keyed : Keyed Try.prog 68 := Keyed.of_law (deep_law_laid term_laid (m := 2) (by omega) term_row (by kernel_rfl) term_wide)
def wf4 (x : S68) : Bool := (Lit.int .i64 x.f0).wf && (Lit.int .i64 x.f1).wf && (Lit.int .i64 x.f2).wf && (Lit.int .i64 x.f3).wf
theorem term_kt : Try.prog.keyType 68 = true := by kernel_rfl
theorem term_c39 : Try.prog.cellsOf 68 = 4 := by kernel_rfl
theorem term_c2 : Try.prog.cellsOf 2 = 1 := by kernel_rfl
theorem term_sz : ∃ m, Try.prog.types.size = m + 1 := ⟨Try.prog.types.size - 1, by have := term_row; omega⟩
theorem keyOf_term (x : S68) (h : wf4 x = true) : ∃ kl, keyOf Try.prog 68 (.agg #[.int .i64 x.f0, .int .i64 x.f1, .int .i64 x.f2, .int .i64 x.f3]) = some kl := by
  unfold wf4 at h
  simp only [Bool.and_eq_true] at h
  obtain ⟨⟨⟨h0, h1⟩, h2⟩, h3⟩ := h
  obtain ⟨m, hm⟩ := term_sz
  have hf : (Value.agg #[.int .i64 x.f0, .int .i64 x.f1, .int .i64 x.f2, .int .i64 x.f3]).formed Try.prog 68 = true := by
    simp [Value.formed, Try.underlying68, term_c39]
  unfold keyOf
  rw [Try.underlying68]
  simp only [term_kt, hf, Bool.and_self, if_true, hm]
  simp [Program.keyLits, Try.underlying68, Try.underlying2, term_c39, term_c2, Value.cells, h0, h1, h2, h3]
theorem plainElem_bool_inv {H : Type} {P : Program} {e : TypeId} (he : P.underlying e = some .bool) {v : Value} {z : DataW H × List MemPlace} (h : plainElem P e v = some z) : ∃ a, v = .bool a ∧ z = (.lit (.bool a), []) := by
  unfold plainElem at h
  rw [he] at h
  cases v <;> simp at h
  exact ⟨_, rfl, h.symm⟩
theorem wpList_lookup_own_bool {H : Type} {P : Program} (w : World) {ops : Array Oper} {rest : List Oper} {o : Oper} {a : Act} {Q : Exit → Act → World → Prop}
    (hg : o.guard = none) (m x : Operand) (t : TypeId) (hop : o.op = Op.lookup t m x false)
    (k e : TypeId) (K : Keyed P k) (ht : P.underlying t = some (.map k e)) (he : P.underlying e = some .bool) (hz : (zeroValue e).run P w = .ok (.bool false) w) (b n : Nat) (D : DataW H)
    (hm : a.eval m = .map (some b)) (hown : w.ownsMap P k (plainElem P e) b n D) (key : Value) (kl : Lit) (hx : a.eval x = key) (hkey : keyOf P k key = some kl)
    (hK : ∀ c : Bool, D.atKey kl (.lit (.bool false)) = .lit (.bool c) → wpList P ops Q rest (a.put o.dst (.bool c)) w) :
    wpList P ops Q (o :: rest) a w := by
  refine wpList_plain hg fun K' hK' => ?_
  obtain ⟨v, ps, hrun, hv⟩ := hown.lookup K ht hz (plainElem_bool he false) hkey
  obtain ⟨c, rfl, hc⟩ := plainElem_bool_inv he hv
  simp only [Prod.mk.injEq] at hc
  unfold Oper.wp
  simp [execOp, hop, hm, hx, hrun, Result.andThen]
  exact hK' _ _ (hK c hc.1)
theorem own_map_below {w w' : World} {P : Program} {k e : TypeId} {b n : Nat} {D : DataW Unit} (h : w.ownsMap P k (plainElem P e) b n D) (hb : Below w.heap.size w w') : w'.ownsMap P k (plainElem P e) b n D := h.kept (grown_of_below hb none) (by simp)
theorem own_map_set {w : World} {P : Program} {k e : TypeId} {b n : Nat} {D : DataW Unit} (h : w.ownsMap P k (plainElem P e) b n D) {g j : Nat} {u : Value} (hne : b ≠ g) : (w.setCell ⟨g, j, none⟩ u).ownsMap P k (plainElem P e) b n D := by
  obtain ⟨es, clock, hb, r⟩ := h
  exact ⟨es, clock, (Below.heap_setCell w ⟨g, j, none⟩ u b hne).trans hb, r⟩
def eq4 (y x : S68) : Bool := y.f0 == x.f0 && (y.f1 == x.f1 && (y.f2 == x.f2 && (y.f3 == x.f3)))
theorem eq4_iff {y x : S68} : eq4 y x = true ↔ y = x := by
  cases x; cases y; simp [eq4]
def tv (x : S68) : Value := .agg #[.int .i64 x.f0, .int .i64 x.f1, .int .i64 x.f2, .int .i64 x.f3]
theorem tv_inj {x y : S68} (h : tv x = tv y) : x = y := by
  unfold tv at h
  injection h with h
  have h := congrArg Array.toList h
  simp at h
  obtain ⟨h0, h1, h2, h3⟩ := h
  cases x; cases y
  simp_all
def Seen (D : DataW Unit) (pre : List S68) : Prop := ∀ (y : S68) (kl : Lit), keyOf Try.prog 68 (tv y) = some kl → D.atKey kl (.lit (.bool false)) = .lit (.bool (pre.any (eq4 y)))
theorem seen_nil : Seen (.map []) [] := fun y kl _ => rfl
theorem seen_put {D : DataW Unit} {pre : List S68} {x : S68} {kl : Lit} (h : Seen D pre) (hD : IsMap D) (hx : keyOf Try.prog 68 (tv x) = some kl) : Seen (D.put kl (.lit (.bool true))) (pre ++ [x]) := by
  intro y kl' hy
  rw [List.any_append]
  by_cases e : kl' = kl
  · subst e
    have : y = x := tv_inj (term_keyed.inj hy hx)
    subst this
    rw [atKey_put_same hD (term_keyed.key hx)]
    have : [y].any (eq4 y) = true := by simp [eq4]
    rw [this, Bool.or_true]
  · rw [atKey_put_other e, h y kl' hy]
    have : [x].any (eq4 y) = false := by
      simp only [List.any_cons, List.any_nil, Bool.or_false]
      cases hq : eq4 y x
      · rfl
      · exact absurd (by rw [eq4_iff.1 hq, hx] at hy; exact (Option.some.inj hy).symm) e
    rw [this, Bool.or_false]
def TFs : List S68 → List S68 → Int
  | _, [] => 0
  | pre, x :: r => if tfault x.f0 x.f1 x.f2 x.f3 pre = 0 then (if pre.any (eq4 x) = true then 7 else TFs (pre ++ [x]) r) else tfault x.f0 x.f1 x.f2 x.f3 pre
def impl_TermsFault.f (l0 : List S68) : Option Int := if l0.all wf4 = true then some (if 400 < l0.length then 2 else TFs [] l0) else none
theorem C_take39 {w W : World} {A : Option Addr} {l : List S68} (h : Kd.C k68 w A l.length l) (hb : Below w.heap.size w W) (k : Nat) : Kd.C k68 W A (l.take k).length (l.take k) := by
  obtain ⟨h1, h2, h3⟩ := Kd.C_below h hb
  refine ⟨rfl, by rw [List.length_take]; omega, fun hp => ?_⟩
  obtain ⟨ad, e, hh⟩ := h3 (by rw [List.length_take] at hp; omega)
  refine ⟨ad, e, fun j p hj => hh j p ?_⟩
  rw [List.getElem?_take] at hj
  split at hj
  · exact hj
  · cases hj
set_option maxHeartbeats 8000000 in
set_option maxRecDepth 100000 in
theorem impl_TermsFault.calls (A0 : Option Addr) (c0 : Nat) (l0 : List S68) (r : Int) (w : World) (hr0 : Kd.C k68 w A0 l0.length l0) (hc0 : l0.length ≤ c0) (h : impl_TermsFault.f l0 = some r) :
    Calls Try.prog 40 #[.slice A0 l0.length c0] w fun e w' => e = .returned (.int .i64 r) ∧ Below w.heap.size w w' := by
  unfold impl_TermsFault.f at h
  by_cases hwf : l0.all wf4 = true
  · rw [if_pos hwf] at h
    obtain rfl := Option.some.inj h
    clear h
    have HW := Aside0.mk hwf
    have HR := Aside0.mk hr0
    have HC := Aside0.mk hc0
    have HB := Aside0.mk (Below.refl w.heap.size w)
    clear hr0 hc0 hwf
    by_cases hbig : 400 < l0.length
    · rw [if_pos hbig]
      have hb0 : decide ((l0.length : Int) > 400) = true := decide_eq_true (by omega)
      have hb1 : decide ((400 : Int) < (l0.length : Int)) = true := decide_eq_true (by omega)
      go_enter Try.func40, Try.ntmps40
      go_wp2
      go_ret
      exact ⟨rfl, HB.out⟩
    · rw [if_neg hbig]
      have hb0 : decide ((l0.length : Int) > 400) = false := decide_eq_false (by omega)
      have hb1 : decide ((400 : Int) < (l0.length : Int)) = false := decide_eq_false (by omega)
      have hl : l0.length ≤ 400 := by omega
      have hmm := @run_makeMap
      go_enter Try.func40, Try.ntmps40
      go_wp2_with fail
      have HO : Aside0 ((w.alloc (.map #[] 0)).ownsMap Try.prog 68 (plainElem (H := Unit) Try.prog 4) w.heap.size 0 (.map [])) := Aside0.mk (World.ownsMap_made w _ _ _)
      have n0_ := Aside0.mk (lA1_ (o := .map #[] 0) HB.out)
      clear HB
      have HB := n0_
      clear n0_
      obtain ⟨B, hB⟩ : ∃ B, B = w.heap.size := ⟨_, rfl⟩
      have GB : Aside0 (w.heap.size ≤ B) := ⟨by omega⟩
      rw [← hB] at HO ⊢
      clear hB
      go_loopg [13] l0.length (fun gg s13 wr => ∃ (kk : Nat) (D : DataW Unit), kk ≤ l0.length ∧ l0.length - kk ≤ gg ∧ s13 = .int .i64 kk ∧ Aside0 (TFs (l0.take kk) (l0.drop kk) = TFs [] l0) ∧ Aside0 (wr.ownsMap Try.prog 68 (plainElem Try.prog 4) B kk D) ∧ Aside0 (IsMap D) ∧ Aside0 (Seen D (l0.take kk)) ∧ Aside0 (Below w.heap.size w wr))
      case atStart => exact ⟨0, .map [], Nat.zero_le _, by omega, rfl, ⟨rfl⟩, HO, ⟨isMap_empty⟩, ⟨seen_nil⟩, HB⟩
      case round =>
        clear HO HB
        obtain ⟨kk, D, hkn, hgg, rfl, HT, HO, HD, HS, HB⟩ := hrel
        by_cases hlt : kk < l0.length
        · have hltz : (kk : Int) < (l0.length : Int) := by omega
          have hltd : decide ((kk : Int) < (l0.length : Int)) = true := decide_eq_true hltz
          obtain ⟨ad, e, hx0, hx1, hx2, hx3⟩ := at_T68 (Kd.C_below HR.out HB.out) (kk : Int) (by omega) (by omega)
          rw [Int.toNat_natCast] at hx0 hx1 hx2 hx3
          subst e
          have hm : rd_T68 l0 (kk : Int) = l0[kk] := by simp [rd_T68, List.getD, List.getElem?_eq_getElem hlt]
          have htk : l0.take (kk + 1) = l0.take kk ++ [rd_T68 l0 (kk : Int)] := by rw [hm, List.take_succ_eq_append_getElem hlt]
          have hdr : l0.drop kk = rd_T68 l0 (kk : Int) :: l0.drop (kk + 1) := by rw [hm, List.drop_eq_getElem_cons hlt]
          have hxw : wf4 (rd_T68 l0 (kk : Int)) = true := by rw [hm]; exact List.all_eq_true.1 HW.out _ (List.getElem_mem hlt)
          have ht := HT.out
          rw [hdr] at ht
          simp only [TFs] at ht
          have HTK := Aside0.mk htk
          clear hm htk hdr HT
          generalize rd_T68 l0 (kk : Int) = x at hx0 hx1 hx2 hx3 hxw ht HTK
          obtain ⟨kl, hkl⟩ := keyOf_term x hxw
          have HK := Aside0.mk (show keyOf Try.prog 68 (tv x) = some kl from hkl)
          clear hkl hxw
          obtain ⟨c, hc⟩ : ∃ c, c = tfault x.f0 x.f1 x.f2 x.f3 (l0.take kk) := ⟨_, rfl⟩
          have HF := Aside0.mk (show impl_Term_fault.f x.f0 x.f1 x.f2 x.f3 (l0.take kk) = some c by rw [hc]; rfl)
          rw [← hc] at ht
          clear hc
          have hkc : kk ≤ c0 := by have := HC.out; omega
          obtain ⟨y, hy⟩ : ∃ y, y = l0.take kk := ⟨_, rfl⟩
          have hyl : y.length = ((kk : Nat) : Int).toNat := by rw [hy, List.length_take]; omega
          have hCy := C_take39 HR.out (Below.refl _ w) kk
          rw [← hy] at HS HTK HF ht hCy
          have HCY := Aside0.mk hCy
          have HY := Aside0.mk hyl
          obtain ⟨i0, hi0, _, hsz0, _⟩ := info_parts info68
          have hcut := cut_to (P := Try.prog) 39 68 .i64 Try.underlying39 hi0 (some ad) l0.length c0 (kk : Int) (by omega) (by omega) HC.out
          rw [← hyl] at hcut
          clear hi0 hsz0 hCy
          have HYE := Aside0.mk hy
          clear hy hyl
          go_wp2_with (first | ((with_reducible refine gate_dst (N := 5) rfl ?_); refine box_event ?hg (N := 5) ?hd (cs := #[.int .i64 0, .int .i64 0, .int .i64 0, .int .i64 0]) (t := 68) ?hr ?_; (case hd => rfl); (case hg => rfl); (case hr => first | (go_simp; done) | (go_simp; rfl)); intro g5 hg w3 hbox hb; have n0_ := Aside0.mk (lP_ HB.out hb); have n1_ := Aside0.mk hbox; have n2_ := Aside0.mk (show w.heap.size ≤ g5 by rw [hg]; exact below_size HB.out); have n3_ := Aside0.mk (show B ≠ g5 by rw [hg]; exact Nat.ne_of_lt HO.out.lt); have n4_ := Aside0.mk (own_map_below HO.out hb); replace hx0 := (hb.cell (World.block_lt_of_cell? wr _ hx0)).trans hx0; replace hx1 := (hb.cell (World.block_lt_of_cell? wr _ hx1)).trans hx1; replace hx2 := (hb.cell (World.block_lt_of_cell? wr _ hx2)).trans hx2; replace hx3 := (hb.cell (World.block_lt_of_cell? wr _ hx3)).trans hx3; clear HB HO; have HB := n0_; have a0 := n1_; have a1 := n2_; have NE5 := n3_; have HO := n4_; clear n0_ n1_ n2_ n3_ n4_ hb hbox hg; have p0_ : w3.cell? ⟨g5, 0, none⟩ = some (.int .i64 0) := (blk_cell a0.out 0).trans rfl; have p1_ : w3.cell? ⟨g5, 1, none⟩ = some (.int .i64 0) := (blk_cell a0.out 1).trans rfl; have p2_ : w3.cell? ⟨g5, 2, none⟩ = some (.int .i64 0) := (blk_cell a0.out 2).trans rfl; have p3_ : w3.cell? ⟨g5, 3, none⟩ = some (.int .i64 0) := (blk_cell a0.out 3).trans rfl; have f0_ := blk_frozen a0.out 0; have f1_ := blk_frozen a0.out 1; have f2_ := blk_frozen a0.out 2; have f3_ := blk_frozen a0.out 3))
          have n0_ := Aside0.mk (blk_put (blk_put (blk_put (blk_put a0.out 0 (.int .i64 x.f0) rfl) 1 (.int .i64 x.f1) rfl) 2 (.int .i64 x.f2) rfl) 3 (.int .i64 x.f3) rfl)
          have n1_ := Aside0.mk (own_map_set (own_map_set (own_map_set (own_map_set HO.out NE5.out (j := 0) (u := .int .i64 x.f0)) NE5.out (j := 1) (u := .int .i64 x.f1)) NE5.out (j := 2) (u := .int .i64 x.f2)) NE5.out (j := 3) (u := .int .i64 x.f3))
          have n2_ := Aside0.mk (lS1_ (j := 3) (v := .int .i64 x.f3) (lS1_ (j := 2) (v := .int .i64 x.f2) (lS1_ (j := 1) (v := .int .i64 x.f1) (lS1_ (j := 0) (v := .int .i64 x.f0) HB.out a1.out) a1.out) a1.out) a1.out)
          clear a0 HO HB hx0 hx1 hx2 hx3 p0_ p1_ p2_ p3_ f0_ f1_ f2_ f3_
          have a0 := n0_; have HO := n1_; have HB := n2_
          clear n0_ n1_ n2_
          generalize (w3.setCell ⟨g5, 0, none⟩ (.int .i64 x.f0) |>.setCell ⟨g5, 1, none⟩ (.int .i64 x.f1) |>.setCell ⟨g5, 2, none⟩ (.int .i64 x.f2) |>.setCell ⟨g5, 3, none⟩ (.int .i64 x.f3)) = w4 at a0 HO HB ⊢
          have n0_ := Aside0.mk (bD_ a0.out)
          have n1_ := Aside0.mk (lD_ HB.out)
          have n2_ := Aside0.mk (World.ownsMap.drew HO.out)
          clear a0 HB HO
          have a0 := n0_; have HB := n1_; have HO := n2_
          clear n0_ n1_ n2_
          refine start_ (n := 6) (S := fun w' => w'.cell? ⟨g5, 0, none⟩ = some (.int .i64 x.f0) ∧ w'.cell? ⟨g5, 1, none⟩ = some (.int .i64 x.f1) ∧ w'.cell? ⟨g5, 2, none⟩ = some (.int .i64 x.f2) ∧ w'.cell? ⟨g5, 3, none⟩ = some (.int .i64 x.f3)) (ds := []) #[false, false, false, false, false, false] (by kernel_rfl) rfl rfl ⟨(blk_cell a0.out 0).trans rfl, (blk_cell a0.out 1).trans rfl, (blk_cell a0.out 2).trans rfl, (blk_cell a0.out 3).trans rfl⟩ (fun hHeld => ?_)
          generalize w4.drew = w5 at a0 HB HO hHeld ⊢
          refine take_ (i := 0) (N := some 18) (v := ?_) (a' := ?_) #[true, false, false, false, false, false] rfl rfl (by kernel_rfl) (fun _ _ _ h => h) (Or.inl ⟨by rfl, ?_⟩) hHeld ?_ ?_
          rotate_left
          · rintro w' ⟨s0, s1, s2, s3⟩
            go_simp
            with_reducible rfl
          rotate_left
          · simp only [Act.put, lA_, lZ_, lS_, i64_w, i32_w]
            rfl
          refine pure_ (i := 1) (N := some 19) (v := ?_) (a' := ?_) #[true, true, false, false, false, false] rfl rfl (by kernel_rfl) (fun _ _ _ h => h) (Or.inl ⟨by rfl, ?_⟩) ?_ ?_
          rotate_left
          · intro w'
            go_simp
            with_reducible rfl
          rotate_left
          · simp only [Act.put, lA_, lZ_, lS_, i64_w, i32_w]
            rfl
          refine pure_ (i := 2) (N := some 20) (v := ?_) (a' := ?_) #[true, true, true, false, false, false] rfl rfl (by kernel_rfl) (fun _ _ _ h => h) (Or.inl ⟨by rfl, ?_⟩) ?_ ?_
          rotate_left
          · intro w'
            go_simp
            with_reducible rfl
          rotate_left
          · simp only [Act.put, lA_, lZ_, lS_, i64_w, i32_w]
            rfl
          refine pure_ (i := 3) (N := some 21) (v := ?_) (a' := ?_) #[true, true, true, true, false, false] rfl rfl (by kernel_rfl) (fun _ _ _ h => h) (Or.inl ⟨by rfl, ?_⟩) ?_ ?_
          rotate_left
          · intro w'
            go_simp
            with_reducible rfl
          rotate_left
          · simp only [Act.put, lA_, lZ_, lS_, i64_w, i32_w]
            rfl
          refine one_ (i := 4) (N := some 22) #[true, true, true, true, true, false] rfl rfl (by kernel_rfl) (by decide) (fun K hK => ?_)
          refine goes_ Try.func50 (by kernel_rfl) rfl #[.agg #[.int .i64 x.f0, .int .i64 x.f1, .int .i64 x.f2, .int .i64 x.f3], .slice (some ad) y.length c0] (by rfl) rfl rfl (by (try simp only [List.map_toArray, List.map_cons, List.map_nil]); first | done | rfl) ?_
          with_reducible refine (impl_Term_fault.calls x.f0 x.f1 x.f2 x.f3 (some ad) c0 y c _ (Kd.C_below HCY.out HB.out) (by have := HY.out; omega) HF.out).mono ?_
          rintro e w6 ⟨rfl, hb⟩
          refine ⟨_, rfl, ?_⟩
          have n0_ := Aside0.mk (bB_ a0.out hb)
          have n1_ := Aside0.mk (lP_ HB.out hb)
          have n2_ := Aside0.mk (own_map_below HO.out hb)
          clear a0 HB HO hb
          have a0 := n0_; have HB := n1_; have HO := n2_
          clear n0_ n1_ n2_
          refine hK.out _ _ ⟨(blk_cell a0.out 0).trans rfl, (blk_cell a0.out 1).trans rfl, (blk_cell a0.out 2).trans rfl, (blk_cell a0.out 3).trans rfl⟩ (fun hHeld => ?_)
          clear hK K
          refine norm_ (a' := ?_) ?_ ?_
          rotate_left
          · show Act.put _ (some 22) _ = _
            simp only [Act.put, lA_, lZ_, lS_, i64_w, i32_w]
            rfl
          refine pure_ (i := 5) (N := some 6) (v := ?_) (a' := ?_) #[true, true, true, true, true, true] rfl rfl (by kernel_rfl) (fun _ _ _ h => h) (Or.inl ⟨by rfl, ?_⟩) ?_ ?_
          rotate_left
          · intro w'
            go_simp
            with_reducible rfl
          rotate_left
          · simp only [Act.put, lA_, lZ_, lS_, i64_w, i32_w]
            rfl
          refine done_ (by kernel_rfl) ?_
          have p0_ : w6.cell? ⟨g5, 0, none⟩ = some (.int .i64 x.f0) := (blk_cell a0.out 0).trans rfl; have p1_ : w6.cell? ⟨g5, 1, none⟩ = some (.int .i64 x.f1) := (blk_cell a0.out 1).trans rfl; have p2_ : w6.cell? ⟨g5, 2, none⟩ = some (.int .i64 x.f2) := (blk_cell a0.out 2).trans rfl; have p3_ : w6.cell? ⟨g5, 3, none⟩ = some (.int .i64 x.f3) := (blk_cell a0.out 3).trans rfl
          clear hcut
          by_cases hc0 : c = 0
          · have hc1 : (c != 0) = false := by simpa using hc0
            have hc2 : (c == 0) = true := by simpa using hc0
            rw [if_pos hc0] at ht
            cases hq : y.any (eq4 x) with
            | true =>
              rw [hq, if_pos rfl] at ht
              go_wp2_with (first | (at_lookup; refine wpList_lookup_own_bool (H := Unit) _ rfl (.tmp 26) (.tmp 27) 80 rfl 68 4 term_keyed Try.underlying80 Try.underlying4 rfl B kk D rfl HO.out _ kl rfl HK.out ?_; intro c1 hat; have hc3 : c1 = y.any (eq4 x) := (by have := (HS.out x kl HK.out).symm.trans hat; injection this with this; injection this with this; exact this.symm); rw [hq] at hc3; subst hc3; clear hat))
              go_ret
              exact ⟨by rw [← ht]; rfl, HB.out⟩
            | false =>
              rw [hq, if_neg (by decide)] at ht
              go_wp2_with (first | (at_lookup; refine wpList_lookup_own_bool (H := Unit) _ rfl (.tmp 26) (.tmp 27) 80 rfl 68 4 term_keyed Try.underlying80 Try.underlying4 rfl B kk D rfl HO.out _ kl rfl HK.out ?_; intro c1 hat; have hc3 : c1 = y.any (eq4 x) := (by have := (HS.out x kl HK.out).symm.trans hat; injection this with this; injection this with this; exact this.symm); rw [hq] at hc3; subst hc3; clear hat) | (at_mapUpdate; refine wpList_mapUpdate_own (H := Unit) _ rfl (.tmp 29) (.tmp 30) (.const (.bool true)) 80 rfl 68 4 term_keyed Try.underlying80 (plainElem Try.prog 4) B kk D rfl HO.out (by show kk < 9223372036854775807; omega) _ _ kl rfl rfl HK.out (.lit (.bool true)) [] (plainElem_bool Try.underlying4 true) ?_; intro w7 ho7 hg7))
              go_roundg (l0.length - (kk + 1))
              case measure => omega
              case rel =>
                refine ⟨kk + 1, D.put kl (.lit (.bool true)), by omega, by omega, by go_num, ⟨by rw [HTK.out]; exact ht⟩, ⟨ho7⟩, ⟨HD.out.put _ _⟩, ⟨by rw [HTK.out]; exact seen_put HS.out HD.out HK.out⟩, ⟨pw_below_grown HB.out (some B) (below_size HB.out) hg7 (fun k hk => by injection hk with hk; rw [← hk]; exact GB.out)⟩⟩
          · have hc1 : (c != 0) = true := by simpa using hc0
            have hc2 : (c == 0) = false := by simpa using hc0
            rw [if_neg hc0] at ht
            go_wp2_with fail
            go_ret
            exact ⟨by rw [ht]; rfl, HB.out⟩
        · have hltd : decide ((kk : Int) < (l0.length : Int)) = false := decide_eq_false (by omega)
          obtain rfl : kk = l0.length := by omega
          have ht := HT.out
          rw [List.drop_length] at ht
          go_wp2_with fail
          go_ret
          exact ⟨by rw [← ht]; rfl, HB.out⟩
  · rw [if_neg hwf] at h; cases h
end Go.Proofs.Ytaniedjfkiklmaa.G
namespace Go.Proofs.Ytaniedjfkiklmaa.G
open Go.RowKit Go.Proofs.YtaniedjfkiklmaaW.PrintWords Go.Proofs.YtaniedjfkiklmaaW.PrintLast Go.Proofs.YtaniedjfkiklmaaW.PrintMore
attribute [local go_sem] max2_int min2_int max_two min_two max_three min_three max_four min_four   -- for this text's walks alone
set_option linter.unusedVariables false
set_option linter.unusedSimpArgs false
def impl_isName.f (a0 : Int) : Option (Bool) := (impl_in.f a0 0 9999).bind fun t464 => (some t464)
set_option maxHeartbeats 8000000 in
set_option maxRecDepth 100000 in
theorem impl_isName.calls (a0 : Int) (r : Bool) (w : World) (h : impl_isName.f a0 = some r) :
  Calls Try.prog 51 #[.int .i64 a0] w fun e w' => e = .returned (.bool r) ∧ Drawn0 w w' := by
 have H : ((impl_in.f a0 0 9999).bind fun t464 => (some t464)) = some r := h
 clear h
 replace H := Option.bind_eq_some_iff.mp H
 obtain ⟨t464, A20, H⟩ := H
 try dsimp only at H
 have A2 := Aside0.mk A20
 clear A20
 obtain rfl := Option.some.inj H
 go_enter Try.func51, Try.ntmps51
 go_wp2_with (first | ((with_reducible refine gate_callee (f := 41) rfl ?_); refine goesA_ (some 4) rfl rfl Try.func41 (by kernel_rfl) rfl #[.int .i64 a0, .int .i64 0, .int .i64 9999] rfl ?_; (with_reducible refine (impl_in.calls a0 0 9999 t464 _ A2.out).mono ?_); rintro e w' ⟨rfl, ⟨nd, rfl⟩⟩; refine ⟨_, rfl, ?_⟩))
 go_ret
 exact ⟨by first | rfl | (simp; done) | (simp [*]; done), by repeat (first | exact Drawn0.refl _ | apply Drawn0.step)⟩
def impl_Window_took.f (a0_0 : Int) (a0_1 : Int) (a1 : Int) : Option (Bool) := if 0 ≤ a1 then (some ((Go.bits .and .i64 (shr .i64 a0_1 a1) 1) == 1)) else (none)
set_option maxHeartbeats 8000000 in
set_option maxRecDepth 100000 in
theorem impl_Window_took.calls (a0_0 : Int) (a0_1 : Int) (a1 : Int) (r : Bool) (w : World) (h : impl_Window_took.f a0_0 a0_1 a1 = some r) :
  Calls Try.prog 72 #[.agg #[.int .i64 a0_0, .int .i64 a0_1], .int .i64 a1] w fun e w' => e = .returned (.bool r) ∧ Below w.heap.size w w' := by
 have hu56 := Try.underlying56
 have HB := Aside0.mk (Below.refl w.heap.size w)
 have H : (if 0 ≤ a1 then (some ((Go.bits .and .i64 (shr .i64 a0_1 a1) 1) == 1)) else (none)) = some r := h
 clear h
 by_cases c3 : 0 ≤ a1
 ·rw [if_pos c3] at H
  have c3b0 := eq_true c3
  have c3b1 : decide (0 ≤ a1) = true := decide_eq_true c3
  clear c3
  obtain ⟨ji4, hji4⟩ : ∃ j_ : Int, (shr .i64 a0_1 a1) = j_ := ⟨_, rfl⟩
  replace H : (some ((Go.bits .and .i64 (ji4) 1) == 1)) = some r := by first | (rw [hji4] at H; exact H) | (simp only [hji4] at H ⊢; exact H)
  have hji4_ : (a0_1 / 2 ^ min a1.toNat 64) = ji4 := hji4
  have hji4z : a1 ≤ 64 → (a0_1 / 2 ^ a1.toNat) = ji4 := shr_small hji4
  obtain rfl := Option.some.inj H
  go_enter Try.func72, Try.ntmps72
  go_wp2_with (first | ((with_reducible refine gate_dst (N := 2) rfl ?_); refine box_event ?hg (N := 2) ?hd (cs := #[.int .i64 a0_0, .int .i64 a0_1]) (t := 56) ?hr ?_; (case hd => rfl); (case hg => rfl); (case hr => first | (go_simp; done) | (go_simp; rfl)); intro gb465 hg w5 hbox hb; have n0_ := Aside0.mk (lP_ HB.out hb); have n1_ := Aside0.mk (hbox); have n3_ := Aside0.mk ((by rw [hg]; exact (below_size HB.out) : w.heap.size ≤ gb465)); clear HB; have HB := n0_; have BK465 := n1_; have GE465 := n3_; clear n0_ n1_ n3_ hb hbox hg; obtain ⟨_, _, _, _⟩ := bc2 BK465.out))
  go_ret
  exact ⟨by first | rfl | (simp [errW_none, errW_some] <;> rfl) | (simp only [← hji4]; first | rfl | (simp [errW_none, errW_some] <;> rfl)) | (simp [*, errW_none, errW_some] <;> rfl), by repeat (first | (with_reducible first | exact HB.out | apply lA1_ | apply lN_ | apply lD_ | refine lS1_ ?_ GE465.out) | exact HB.out)⟩
 ·rw [if_neg c3] at H
  exact absurd H (by simp)
mutual
def impl_WindowFault.j0 : Nat → Bool → Int → Int → Option (Int)
 | 0, _, _, _ => none
 | k + 1, x13, x467000, x467001 => if x13 = true then (some 3) else (if x467000 = 0 then (if x467001 = 0 then (if x467000 > 0 then ((impl_Window_took.f x467000 x467001 0).bind fun t469 => (impl_WindowFault.j1 k (!t469) x467000 x467001)) else (impl_WindowFault.j1 k false x467000 x467001)) else (impl_WindowFault.j1 k true x467000 x467001)) else (if x467000 > 0 then ((impl_Window_took.f x467000 x467001 0).bind fun t470 => (impl_WindowFault.j1 k (!t470) x467000 x467001)) else (impl_WindowFault.j1 k false x467000 x467001)))
def impl_WindowFault.j1 : Nat → Bool → Int → Int → Option (Int)
 | 0, _, _, _ => none
 | k + 1, x31, x467000, x467001 => if x31 = true then (some 1) else (impl_WindowFault.l0 k 0 x467000 x467001)
def impl_WindowFault.l0 : Nat → Int → Int → Int → Option (Int)
 | 0, _, _, _ => none
 | k + 1, x32, x467000, x467001 => if x32 < 32 then ((impl_Window_took.f x467000 x467001 x32).bind fun t471 => (if t471 = true then (if (wrap64 (x467000 - x32)) < 1 then (some 1) else (impl_WindowFault.l0 k (wrap64 (x32 + 1)) x467000 x467001)) else (impl_WindowFault.l0 k (wrap64 (x32 + 1)) x467000 x467001))) else (some 0)
end
def impl_WindowFault.f (k : Nat) (a0_0 : Int) (a0_1 : Int) : Option (Int) := (impl_in.f a0_0 0 1099511627776).bind fun t467 => (if t467 = true then ((impl_in.f a0_1 0 4294967295).bind fun t468 => (impl_WindowFault.j0 k (!t468) a0_0 a0_1)) else (impl_WindowFault.j0 k true a0_0 a0_1))
set_option maxHeartbeats 8000000 in
set_option maxRecDepth 100000 in
theorem impl_WindowFault.calls (k : Nat) (a0_0 : Int) (a0_1 : Int) (r : Int) (w : World) (h : impl_WindowFault.f k a0_0 a0_1 = some r) :
  Calls Try.prog 52 #[.agg #[.int .i64 a0_0, .int .i64 a0_1]] w fun e w' => e = .returned (.int .i64 r) ∧ Below w.heap.size w w' := by
 have hu56 := Try.underlying56
 have HB := Aside0.mk (Below.refl w.heap.size w)
 have H : ((impl_in.f a0_0 0 1099511627776).bind fun t467 => (if t467 = true then ((impl_in.f a0_1 0 4294967295).bind fun t468 => (impl_WindowFault.j0 k (!t468) a0_0 a0_1)) else (impl_WindowFault.j0 k true a0_0 a0_1))) = some r := h
 clear h
 have a4 := Aside0.mk H
 clear H
 go_enter Try.func52, Try.ntmps52
 go_upto_region 1 with (first | ((with_reducible refine gate_dst (N := 1) rfl ?_); refine box_event ?hg (N := 1) ?hd (cs := #[.int .i64 a0_0, .int .i64 a0_1]) (t := 56) ?hr ?_; (case hd => rfl); (case hg => rfl); (case hr => first | (go_simp; done) | (go_simp; rfl)); intro a2 hg w3 hbox hb; have n0_ := Aside0.mk (lP_ (by repeat (first | (with_reducible first | exact HB.out | apply lA1_ | apply lN_ | apply lD_) | exact HB.out)) hb); have n1_ := Aside0.mk (hbox); have n2_ := Aside0.mk ((by rw [hg]; exact (below_size (by repeat (first | (with_reducible first | exact HB.out | apply lA1_ | apply lN_ | apply lD_) | exact HB.out))) : w.heap.size ≤ a2)); have n3_ := Aside0.mk ((by rw [hg]; exact (below_size (by repeat (first | (with_reducible first | exact HB.out | apply lA1_ | apply lN_ | apply lD_) | exact HB.out))) : w.heap.size ≤ a2)); clear HB; have HB := n0_; have a0 := n1_; have ad := n2_; have a1 := n3_; clear n0_ n1_ n2_ n3_ hb hbox hg))
 (try simp only [Act.put, lA_, lZ_, lS_])
 go_cut [13] (fun v13 wc => ∃ (kq : Nat) (x13_1 : Bool), v13 = .bool x13_1 ∧ Aside0 (impl_WindowFault.j0 kq x13_1 a0_0 a0_1 = some r) ∧ Aside0 (kq ≤ k) ∧ Aside0 (wc.heap[a2]? = some (.cells #[.int .i64 a0_0, .int .i64 a0_1] 56 (0, 0))) ∧ Aside0 (Below w.heap.size w wc))
 case first =>
  have H := a4.out
  clear a4
  replace H := Option.bind_eq_some_iff.mp H
  obtain ⟨t467, a9, H⟩ := H
  try dsimp only at H
  have A4 := Aside0.mk a9
  clear a9
  by_cases c5 : t467 = true
  ·subst c5
   rw [if_pos rfl] at H
   replace H := Option.bind_eq_some_iff.mp H
   obtain ⟨t468, aa, H⟩ := H
   try dsimp only at H
   have A6 := Aside0.mk aa
   clear aa
   have H' := Aside0.mk H
   clear H
   obtain ⟨_, _, _, _⟩ := bc2 a0.out
   go_wp2_with (first | ((with_reducible refine gate_callee (f := 41) rfl ?_); refine goesA_ (some 6) rfl rfl Try.func41 (by kernel_rfl) rfl #[.int .i64 a0_0, .int .i64 0, .int .i64 1099511627776] rfl ?_; (with_reducible refine (impl_in.calls a0_0 0 1099511627776 true _ A4.out).mono ?_); rintro e w' ⟨rfl, ⟨nd, rfl⟩⟩; refine ⟨_, rfl, ?_⟩) | (go_at_call 41; (with_reducible refine (impl_in.calls a0_1 0 4294967295 t468 _ A6.out).mono ?_); rintro e w' ⟨rfl, ⟨nd, rfl⟩⟩))
   go_meet
   case rel => exact ⟨_, (!t468), (by first | rfl | (simp; done) | (simp [*]; done)), H', ⟨by first | omega | exact Nat.le_refl _⟩, ⟨by (with_reducible repeat first | apply bN_ | apply bD_ | apply bA_); exact a0.out⟩, ⟨by repeat (first | (with_reducible first | exact HB.out | apply lA1_ | apply lN_ | apply lD_ | refine lS1_ ?_ a1.out) | exact HB.out)⟩⟩
  ·replace c5 := Bool.eq_false_iff.mpr c5
   subst c5
   rw [if_neg (show ¬ (false = true) by decide)] at H
   have H' := Aside0.mk H
   clear H
   obtain ⟨_, _, _, _⟩ := bc2 a0.out
   go_wp2_with (first | ((with_reducible refine gate_callee (f := 41) rfl ?_); refine goesA_ (some 6) rfl rfl Try.func41 (by kernel_rfl) rfl #[.int .i64 a0_0, .int .i64 0, .int .i64 1099511627776] rfl ?_; (with_reducible refine (impl_in.calls a0_0 0 1099511627776 false _ A4.out).mono ?_); rintro e w' ⟨rfl, ⟨nd, rfl⟩⟩; refine ⟨_, rfl, ?_⟩))
   go_meet
   case rel => exact ⟨_, (true), (by first | rfl | (simp; done) | (simp [*]; done)), H', ⟨by first | omega | exact Nat.le_refl _⟩, ⟨by (with_reducible repeat first | apply bN_ | apply bD_ | apply bA_); exact a0.out⟩, ⟨by repeat (first | (with_reducible first | exact HB.out | apply lA1_ | apply lN_ | apply lD_ | refine lS1_ ?_ a1.out) | exact HB.out)⟩⟩
 case rest =>
  clear a4
  try clear p2
  try clear c4
  try clear c5
  try clear hcz7_0
  try clear hcz7_1
  try clear hcz8_0
  try clear hcz8_1
  try clear hfz7_0
  try clear hfz7_1
  try clear hfz8_0
  try clear hfz8_1
  obtain ⟨kq, x13_1, rfl, HA, HJ1, a0, HB⟩ := hcut
  cases kq with
  | zero => exact absurd HA.out (by simp [impl_WindowFault.j0])
  | succ kj1 =>
   have H := HA.out
   clear HA
   simp only [impl_WindowFault.j0] at H
   by_cases c9 : x13_1 = true
   ·subst c9
    rw [if_pos rfl] at H
    obtain rfl := Option.some.inj H
    go_wp2
    go_ret
    exact ⟨by first | rfl | (simp [errW_none, errW_some] <;> rfl) | (simp [*, errW_none, errW_some] <;> rfl), by repeat (first | (with_reducible first | exact HB.out | apply lA1_ | apply lN_ | apply lD_ | refine lS1_ ?_ a1.out) | exact HB.out)⟩
   ·replace c9 := Bool.eq_false_iff.mpr c9
    subst c9
    rw [if_neg (show ¬ (false = true) by decide)] at H
    have a3 := Aside0.mk H
    clear H
    go_upto_region 3 with (fail)
    go_cut [31] (fun v31 wc => ∃ (kq : Nat) (x31_9 : Bool), v31 = .bool x31_9 ∧ Aside0 (impl_WindowFault.j1 kq x31_9 a0_0 a0_1 = some r) ∧ Aside0 (kq ≤ kj1) ∧ Aside0 (wc.heap[a2]? = some (.cells #[.int .i64 a0_0, .int .i64 a0_1] 56 (0, 0))) ∧ Aside0 (Below w.heap.size w wc))
    case first =>
     have H := a3.out
     clear a3
     by_cases c11 : a0_0 = 0
     ·rw [if_pos c11] at H
      have c11b0 : (a0_0 == 0) = true := beq_iff_eq.mpr c11
      have c11b1 : (a0_0 != 0) = false := bne_eq_false_iff_eq.mpr c11
      clear c11
      (first | rw [c11b0] | (simp only [i64_w, i32_w]; rw [c11b0]) | skip)
      by_cases c12 : a0_1 = 0
      ·rw [if_pos c12] at H
       have c12b0 : (a0_1 == 0) = true := beq_iff_eq.mpr c12
       have c12b1 : (a0_1 != 0) = false := bne_eq_false_iff_eq.mpr c12
       clear c12
       by_cases c13 : a0_0 > 0
       ·rw [if_pos c13] at H
        have c13b0 : decide (0 < a0_0) = true := decide_eq_true c13
        clear c13
        replace H := Option.bind_eq_some_iff.mp H
        obtain ⟨t469, a5, H⟩ := H
        try dsimp only at H
        have ab := Aside0.mk a5
        clear a5
        have H' := Aside0.mk H
        clear H
        obtain ⟨_, _, _, _⟩ := bc2 a0.out
        go_wp2_with (first | (go_at_call 72; (with_reducible refine (impl_Window_took.calls a0_0 a0_1 0 t469 _ ab.out).mono ?_); rintro e w16 ⟨rfl, hb⟩; have n0_ := Aside0.mk (bB_ (g := a2) (o := .cells #[.int .i64 a0_0, .int .i64 a0_1] 56 (0, 0)) (by (with_reducible repeat first | apply bN_ | apply bD_ | apply bA_); exact a0.out) hb); have n1_ := Aside0.mk (lP_ (by repeat (first | (with_reducible first | exact HB.out | apply lA1_ | apply lN_ | apply lD_ | refine lS1_ ?_ a1.out) | exact HB.out)) hb); clear a0 HB; have a0 := n0_; have HB := n1_; clear n0_ n1_; (try clear hb); (try clear hb2); (try clear hk); (try clear hi)))
        go_meet
        case rel => exact ⟨_, (!t469), (by first | rfl | (simp; done) | (simp [*]; done)), H', ⟨by have := HJ1.out; first | omega | exact Nat.le_refl _⟩, ⟨by (with_reducible repeat first | apply bN_ | apply bD_ | apply bA_); exact a0.out⟩, ⟨by repeat (first | (with_reducible first | exact HB.out | apply lA1_ | apply lN_ | apply lD_ | refine lS1_ ?_ a1.out) | exact HB.out)⟩⟩
       ·rw [if_neg c13] at H
        have c13b0 : decide (0 < a0_0) = false := decide_eq_false c13
        clear c13
        have H' := Aside0.mk H
        clear H
        obtain ⟨_, _, _, _⟩ := bc2 a0.out
        go_wp2
        go_meet
        case rel => exact ⟨_, (false), (by first | rfl | (simp; done) | (simp [*]; done)), H', ⟨by have := HJ1.out; first | omega | exact Nat.le_refl _⟩, ⟨by (with_reducible repeat first | apply bN_ | apply bD_ | apply bA_); exact a0.out⟩, ⟨by repeat (first | (with_reducible first | exact HB.out | apply lA1_ | apply lN_ | apply lD_ | refine lS1_ ?_ a1.out) | exact HB.out)⟩⟩
      ·rw [if_neg c12] at H
       have c12b0 : (a0_1 == 0) = false := beq_eq_false_iff_ne.mpr c12
       have c12b1 : (a0_1 != 0) = true := bne_iff_ne.mpr c12
       have H' := Aside0.mk H
       clear H
       obtain ⟨_, _, _, _⟩ := bc2 a0.out
       go_wp2
       go_meet
       case rel => exact ⟨_, (true), (by first | rfl | (simp; done) | (simp [*]; done)), H', ⟨by have := HJ1.out; first | omega | exact Nat.le_refl _⟩, ⟨by (with_reducible repeat first | apply bN_ | apply bD_ | apply bA_); exact a0.out⟩, ⟨by repeat (first | (with_reducible first | exact HB.out | apply lA1_ | apply lN_ | apply lD_ | refine lS1_ ?_ a1.out) | exact HB.out)⟩⟩
     ·rw [if_neg c11] at H
      have c11b0 : (a0_0 == 0) = false := beq_eq_false_iff_ne.mpr c11
      have c11b1 : (a0_0 != 0) = true := bne_iff_ne.mpr c11
      (first | rw [c11b0] | (simp only [i64_w, i32_w]; rw [c11b0]) | skip)
      by_cases c19 : a0_0 > 0
      ·rw [if_pos c19] at H
       have c19b0 : decide (0 < a0_0) = true := decide_eq_true c19
       clear c19
       replace H := Option.bind_eq_some_iff.mp H
       obtain ⟨t470, a6, H⟩ := H
       try dsimp only at H
       have ac := Aside0.mk a6
       clear a6
       have H' := Aside0.mk H
       clear H
       obtain ⟨_, _, _, _⟩ := bc2 a0.out
       go_wp2_with (first | (go_at_call 72; (with_reducible refine (impl_Window_took.calls a0_0 a0_1 0 t470 _ ac.out).mono ?_); rintro e w22 ⟨rfl, hb⟩; have n0_ := Aside0.mk (bB_ (g := a2) (o := .cells #[.int .i64 a0_0, .int .i64 a0_1] 56 (0, 0)) (by (with_reducible repeat first | apply bN_ | apply bD_ | apply bA_); exact a0.out) hb); have n1_ := Aside0.mk (lP_ (by repeat (first | (with_reducible first | exact HB.out | apply lA1_ | apply lN_ | apply lD_ | refine lS1_ ?_ a1.out) | exact HB.out)) hb); clear a0 HB; have a0 := n0_; have HB := n1_; clear n0_ n1_; (try clear hb); (try clear hb2); (try clear hk); (try clear hi)))
       go_meet
       case rel => exact ⟨_, (!t470), (by first | rfl | (simp; done) | (simp [*]; done)), H', ⟨by have := HJ1.out; first | omega | exact Nat.le_refl _⟩, ⟨by (with_reducible repeat first | apply bN_ | apply bD_ | apply bA_); exact a0.out⟩, ⟨by repeat (first | (with_reducible first | exact HB.out | apply lA1_ | apply lN_ | apply lD_ | refine lS1_ ?_ a1.out) | exact HB.out)⟩⟩
      ·rw [if_neg c19] at H
       have c19b0 : decide (0 < a0_0) = false := decide_eq_false c19
       clear c19
       have H' := Aside0.mk H
       clear H
       obtain ⟨_, _, _, _⟩ := bc2 a0.out
       go_wp2
       go_meet
       case rel => exact ⟨_, (false), (by first | rfl | (simp; done) | (simp [*]; done)), H', ⟨by have := HJ1.out; first | omega | exact Nat.le_refl _⟩, ⟨by (with_reducible repeat first | apply bN_ | apply bD_ | apply bA_); exact a0.out⟩, ⟨by repeat (first | (with_reducible first | exact HB.out | apply lA1_ | apply lN_ | apply lD_ | refine lS1_ ?_ a1.out) | exact HB.out)⟩⟩
    case rest =>
     clear a3
     try clear c1
     try clear p2
     try clear c4
     try clear c5
     try clear c9
     try clear c11
     try clear c11b0
     try clear c11b1
     try clear c12
     try clear c12b0
     try clear c12b1
     try clear c13
     try clear c13b0
     try clear c19
     try clear c19b0
     try clear hcz15_0
     try clear hcz15_1
     try clear hcz17_0
     try clear hcz17_1
     try clear hcz18_0
     try clear hcz18_1
     try clear hcz21_0
     try clear hcz21_1
     try clear hcz23_0
     try clear hcz23_1
     try clear hcz7_0
     try clear hcz7_1
     try clear hcz8_0
     try clear hcz8_1
     try clear hfz15_0
     try clear hfz15_1
     try clear hfz17_0
     try clear hfz17_1
     try clear hfz18_0
     try clear hfz18_1
     try clear hfz21_0
     try clear hfz21_1
     try clear hfz23_0
     try clear hfz23_1
     try clear hfz7_0
     try clear hfz7_1
     try clear hfz8_0
     try clear hfz8_1
     try clear p2
     obtain ⟨kq, x31_9, rfl, HA, HJ9, a0, HB⟩ := hcut
     cases kq with
     | zero => exact absurd HA.out (by simp [impl_WindowFault.j1])
     | succ kj9 =>
      have H := HA.out
      clear HA
      simp only [impl_WindowFault.j1] at H
      by_cases c24 : x31_9 = true
      ·subst c24
       rw [if_pos rfl] at H
       obtain rfl := Option.some.inj H
       go_wp2
       go_ret
       exact ⟨by first | rfl | (simp [errW_none, errW_some] <;> rfl) | (simp [*, errW_none, errW_some] <;> rfl), by repeat (first | (with_reducible first | exact HB.out | apply lA1_ | apply lN_ | apply lD_ | refine lS1_ ?_ a1.out) | exact HB.out)⟩
      ·replace c24 := Bool.eq_false_iff.mpr c24
       subst c24
       rw [if_neg (show ¬ (false = true) by decide)] at H
       have H' := Aside0.mk H
       clear H
       go_wp2
       go_loopg [32] kj9 (fun kq v32 w' => ∃ (x32_3 : Int), v32 = .int .i64 x32_3 ∧ Aside0 (impl_WindowFault.l0 kq x32_3 a0_0 a0_1 = some r) ∧ Aside0 (kq ≤ kj9) ∧ Aside0 (w'.heap[a2]? = some (.cells #[.int .i64 a0_0, .int .i64 a0_1] 56 (0, 0))) ∧ Aside0 (Below w.heap.size w w'))
       case atStart => exact ⟨(0), (by first | rfl | (simp; done) | (simp [*]; done)), H', ⟨Nat.le_refl _⟩, ⟨by (with_reducible repeat first | apply bN_ | apply bD_ | apply bA_); exact a0.out⟩, ⟨by repeat (first | (with_reducible first | exact HB.out | apply lA1_ | apply lN_ | apply lD_ | refine lS1_ ?_ a1.out) | exact HB.out)⟩⟩
       case round =>
        clear H'
        try clear c1
        try clear c2
        try clear p2
        try clear c4
        try clear c5
        try clear c9
        try clear c11
        try clear c11b0
        try clear c11b1
        try clear c12
        try clear c12b0
        try clear c12b1
        try clear c13
        try clear c13b0
        try clear c19
        try clear c19b0
        try clear c24
        try clear hcz15_0
        try clear hcz15_1
        try clear hcz17_0
        try clear hcz17_1
        try clear hcz18_0
        try clear hcz18_1
        try clear hcz21_0
        try clear hcz21_1
        try clear hcz23_0
        try clear hcz23_1
        try clear hcz7_0
        try clear hcz7_1
        try clear hcz8_0
        try clear hcz8_1
        try clear hfz15_0
        try clear hfz15_1
        try clear hfz17_0
        try clear hfz17_1
        try clear hfz18_0
        try clear hfz18_1
        try clear hfz21_0
        try clear hfz21_1
        try clear hfz23_0
        try clear hfz23_1
        try clear hfz7_0
        try clear hfz7_1
        try clear hfz8_0
        try clear hfz8_1
        try clear p2
        obtain ⟨x32_3, rfl, HA, HK3, a0, HB⟩ := hrel
        cases gk with
        | zero => exact absurd HA.out (by simp [impl_WindowFault.l0])
        | succ k3 =>
         have H := HA.out
         clear HA
         simp only [impl_WindowFault.l0] at H
         by_cases c25 : x32_3 < 32
         ·rw [if_pos c25] at H
          have c25b0 : decide (x32_3 < 32) = true := decide_eq_true c25
          clear c25
          replace H := Option.bind_eq_some_iff.mp H
          obtain ⟨t471, a7, H⟩ := H
          try dsimp only at H
          have a8 := Aside0.mk a7
          clear a7
          by_cases c27 : t471 = true
          ·subst c27
           rw [if_pos rfl] at H
           by_cases c28 : (wrap64 (a0_0 - x32_3)) < 1
           ·rw [if_pos c28] at H
            have c28b0 : decide ((wrap64 (a0_0 - x32_3)) < 1) = true := decide_eq_true c28
            clear c28
            obtain rfl := Option.some.inj H
            obtain ⟨_, _, _, _⟩ := bc2 a0.out
            go_wp2_with (first | ((with_reducible refine gate_callee (f := 72) rfl ?_); refine goesA_ (some 37) rfl rfl Try.func72 (by kernel_rfl) rfl #[.agg #[.int .i64 a0_0, .int .i64 a0_1], .int .i64 x32_3] rfl ?_; (with_reducible refine (impl_Window_took.calls a0_0 a0_1 x32_3 true _ a8.out).mono ?_); rintro e w30 ⟨rfl, hb⟩; refine ⟨_, rfl, ?_⟩; have n0_ := Aside0.mk (bB_ a0.out hb); have n1_ := Aside0.mk (lP_ HB.out hb); clear a0 HB; have a0 := n0_; have HB := n1_; clear n0_ n1_; (try clear hb); (try clear hb2); (try clear hk); (try clear hi); obtain ⟨_, _, _, _⟩ := bc2 a0.out))
            go_ret
            exact ⟨by first | rfl | (simp [errW_none, errW_some] <;> rfl) | (simp [*, errW_none, errW_some] <;> rfl), by repeat (first | (with_reducible first | exact HB.out | apply lA1_ | apply lN_ | apply lD_ | refine lS1_ ?_ a1.out) | exact HB.out)⟩
           ·rw [if_neg c28] at H
            have c28b0 : decide ((wrap64 (a0_0 - x32_3)) < 1) = false := decide_eq_false c28
            clear c28
            have H' := Aside0.mk H
            clear H
            obtain ⟨_, _, _, _⟩ := bc2 a0.out
            go_wp2_with (first | ((with_reducible refine gate_callee (f := 72) rfl ?_); refine goesA_ (some 37) rfl rfl Try.func72 (by kernel_rfl) rfl #[.agg #[.int .i64 a0_0, .int .i64 a0_1], .int .i64 x32_3] rfl ?_; (with_reducible refine (impl_Window_took.calls a0_0 a0_1 x32_3 true _ a8.out).mono ?_); rintro e w33 ⟨rfl, hb⟩; refine ⟨_, rfl, ?_⟩; have n0_ := Aside0.mk (bB_ (g := a2) (o := .cells #[.int .i64 a0_0, .int .i64 a0_1] 56 (0, 0)) (by (with_reducible repeat first | apply bN_ | apply bD_ | apply bA_); exact a0.out) hb); have n1_ := Aside0.mk (lP_ (by repeat (first | (with_reducible first | exact HB.out | apply lA1_ | apply lN_ | apply lD_ | refine lS1_ ?_ a1.out) | exact HB.out)) hb); clear a0 HB; have a0 := n0_; have HB := n1_; clear n0_ n1_; (try clear hb); (try clear hb2); (try clear hk); (try clear hi); obtain ⟨_, _, _, _⟩ := bc2 a0.out))
            go_roundg k3
            case measure => have := HJ1.out; have := HJ9.out; have := HK3.out; omega
            case rel => exact ⟨(wrap64 (x32_3 + 1)), (by first | rfl | (simp; done) | (simp [*]; done)), H', ⟨by have := HJ1.out; have := HJ9.out; have := HK3.out; omega⟩, ⟨by (with_reducible repeat first | apply bN_ | apply bD_ | apply bA_); exact a0.out⟩, ⟨by repeat (first | (with_reducible first | exact HB.out | apply lA1_ | apply lN_ | apply lD_ | refine lS1_ ?_ a1.out) | exact HB.out)⟩⟩
          ·replace c27 := Bool.eq_false_iff.mpr c27
           subst c27
           rw [if_neg (show ¬ (false = true) by decide)] at H
           have H' := Aside0.mk H
           clear H
           obtain ⟨_, _, _, _⟩ := bc2 a0.out
           go_wp2_with (first | ((with_reducible refine gate_callee (f := 72) rfl ?_); refine goesA_ (some 37) rfl rfl Try.func72 (by kernel_rfl) rfl #[.agg #[.int .i64 a0_0, .int .i64 a0_1], .int .i64 x32_3] rfl ?_; (with_reducible refine (impl_Window_took.calls a0_0 a0_1 x32_3 false _ a8.out).mono ?_); rintro e w36 ⟨rfl, hb⟩; refine ⟨_, rfl, ?_⟩; have n0_ := Aside0.mk (bB_ (g := a2) (o := .cells #[.int .i64 a0_0, .int .i64 a0_1] 56 (0, 0)) (by (with_reducible repeat first | apply bN_ | apply bD_ | apply bA_); exact a0.out) hb); have n1_ := Aside0.mk (lP_ (by repeat (first | (with_reducible first | exact HB.out | apply lA1_ | apply lN_ | apply lD_ | refine lS1_ ?_ a1.out) | exact HB.out)) hb); clear a0 HB; have a0 := n0_; have HB := n1_; clear n0_ n1_; (try clear hb); (try clear hb2); (try clear hk); (try clear hi)))
           go_roundg k3
           case measure => have := HJ1.out; have := HJ9.out; have := HK3.out; omega
           case rel => exact ⟨(wrap64 (x32_3 + 1)), (by first | rfl | (simp; done) | (simp [*]; done)), H', ⟨by have := HJ1.out; have := HJ9.out; have := HK3.out; omega⟩, ⟨by (with_reducible repeat first | apply bN_ | apply bD_ | apply bA_); exact a0.out⟩, ⟨by repeat (first | (with_reducible first | exact HB.out | apply lA1_ | apply lN_ | apply lD_ | refine lS1_ ?_ a1.out) | exact HB.out)⟩⟩
         ·rw [if_neg c25] at H
          have c25b0 : decide (x32_3 < 32) = false := decide_eq_false c25
          clear c25
          obtain rfl := Option.some.inj H
          go_wp2
          go_ret
          exact ⟨by first | rfl | (simp [errW_none, errW_some] <;> rfl) | (simp [*, errW_none, errW_some] <;> rfl), by repeat (first | (with_reducible first | exact HB.out | apply lA1_ | apply lN_ | apply lD_ | refine lS1_ ?_ a1.out) | exact HB.out)⟩
end Go.Proofs.Ytaniedjfkiklmaa.G
