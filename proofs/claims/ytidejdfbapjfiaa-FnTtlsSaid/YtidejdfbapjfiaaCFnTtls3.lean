/- Part 3 of the proof of FnTtls: what the functions on its road do, and the plain laws. -/
import Derived.Test.YtidejdfbapjfiaaCFnTtls2
namespace Go.Proofs.Ytidejdfbapjfiaa.G
open Go.RowKit Go.Proofs.YtidejdfbapjfiaaW.PrintWords Go.Proofs.YtidejdfbapjfiaaW.PrintLast Go.Proofs.YtidejdfbapjfiaaW.PrintMore
attribute [local go_sem] max2_int min2_int max_two min_two max_three min_three max_four min_four   -- for this text's walks alone
set_option linter.unusedVariables false
set_option linter.unusedSimpArgs false
mutual
def spec_ParsePacket.j0 : Nat → List Int → Bool → Option (Int × Int × Int × Int × Int × Int × Int × List Int)
 | 0, _, _ => none
 | k + 1, x0, x33 => if x33 = true then ((spec_l2Bad.f 5).bind fun bt378 => (some (bt378.1, bt378.2.1, bt378.2.2.1, bt378.2.2.2.1, bt378.2.2.2.2.1, bt378.2.2.2.2.2.1, bt378.2.2.2.2.2.2.1, bt378.2.2.2.2.2.2.2))) else (if 20 ≤ (x0.length : Int) then ((spec_CheckWords.f k (x0.take 20)).bind fun t389 => (if t389 = true then ((spec_l1Take.f k x0 12 4).bind fun t400 => ((spec_l1Take.f k x0 16 4).bind fun t401 => (if 9 < (x0.length : Int) then (if 8 < (x0.length : Int) then (if (wrap64 (rd x0 8)) = 0 then (spec_ParsePacket.j1 k x0 true t400 t401 (wrap64 (rd x0 9)) (wrap64 (rd x0 8)) 0 0) else (spec_ParsePacket.j1 k x0 ((wrap64 (rd x0 9)) == 0) t400 t401 (wrap64 (rd x0 9)) (wrap64 (rd x0 8)) 0 0)) else (none)) else (none)))) else ((spec_l2Bad.f 6).bind fun bt390 => (some (bt390.1, bt390.2.1, bt390.2.2.1, bt390.2.2.2.1, bt390.2.2.2.2.1, bt390.2.2.2.2.2.1, bt390.2.2.2.2.2.2.1, bt390.2.2.2.2.2.2.2))))) else (none))
def spec_ParsePacket.j1 : Nat → List Int → Bool → Int → Int → Int → Int → Int → Int → Option (Int × Int × Int × Int × Int × Int × Int × List Int)
 | 0, _, _, _, _, _, _, _, _ => none
 | k + 1, x0, x60, x405000, x405001, x405002, x405003, x405004, x405005 => if x60 = true then ((spec_l2Bad.f 3).bind fun bt405 => (some (bt405.1, bt405.2.1, bt405.2.2.1, bt405.2.2.2.1, bt405.2.2.2.2.1, bt405.2.2.2.2.2.1, bt405.2.2.2.2.2.2.1, bt405.2.2.2.2.2.2.2))) else (if 20 ≤ (x0.length : Int) then ((spec_HasPorts.f x405002).bind fun t416 => (if t416 = true then (if ((x0.drop 20).length : Int) < 4 then ((spec_l2Bad.f 5).bind fun bt417 => (some (bt417.1, bt417.2.1, bt417.2.2.1, bt417.2.2.2.1, bt417.2.2.2.2.1, bt417.2.2.2.2.2.1, bt417.2.2.2.2.2.2.1, bt417.2.2.2.2.2.2.2))) else ((spec_l1Take.f k (x0.drop 20) 0 2).bind fun t427 => ((spec_l1Take.f k (x0.drop 20) 2 2).bind fun t428 => (if 4 ≤ ((x0.drop 20).length : Int) then (if (((x0.drop 20).drop 4).length : Int) > 200 then ((spec_l2Bad.f 2).bind fun bt430 => (some (bt430.1, bt430.2.1, bt430.2.2.1, bt430.2.2.2.1, bt430.2.2.2.2.1, bt430.2.2.2.2.2.1, bt430.2.2.2.2.2.2.1, bt430.2.2.2.2.2.2.2))) else ((some (([] : List Int) : List Int)).bind fun y440 => (if y440.length + ((x0.drop 20).drop 4).length < 140737488355328 then (some (0, x405000, x405001, x405002, x405003, t427, t428, (y440 ++ ((x0.drop 20).drop 4)))) else (none)))) else (none))))) else (if ((x0.drop 20).length : Int) > 200 then ((spec_l2Bad.f 2).bind fun bt446 => (some (bt446.1, bt446.2.1, bt446.2.2.1, bt446.2.2.2.1, bt446.2.2.2.2.1, bt446.2.2.2.2.2.1, bt446.2.2.2.2.2.2.1, bt446.2.2.2.2.2.2.2))) else ((some (([] : List Int) : List Int)).bind fun y456 => (if y456.length + (x0.drop 20).length < 140737488355328 then (some (0, x405000, x405001, x405002, x405003, x405004, x405005, (y456 ++ (x0.drop 20)))) else (none)))))) else (none))
end
def spec_ParsePacket.f (k : Nat) (l0 : List Int) : Option (Int × Int × Int × Int × Int × Int × Int × List Int) := (spec_l1In.f (l0.length : Int) 20 224).bind fun t373 => (if t373 = true then (if 0 < (l0.length : Int) then (if (rd l0 0) = 69 then (if 1 < (l0.length : Int) then (if (rd l0 1) = 0 then ((spec_l1Take.f k l0 4 4).bind fun t376 => (if t376 = 16384 then ((spec_l1Take.f k l0 2 2).bind fun t377 => (spec_ParsePacket.j0 k l0 (t377 != (l0.length : Int)))) else (spec_ParsePacket.j0 k l0 true))) else (spec_ParsePacket.j0 k l0 true)) else (none)) else (spec_ParsePacket.j0 k l0 true)) else (none)) else (spec_ParsePacket.j0 k l0 true))
def spec_ParsePacket.T6 : Bool × List (List Nat × List Nat) := (true, [([], []), ([0], [0]), ([], []), ([2, 1], [2]), ([], []), ([4], [4]), ([5], [5]), ([6], [6]), ([], []), ([8], [8]), ([9], [9]), ([10], [10]), ([1, 3, 7, 11], [1, 3, 7, 11]), ([], []), ([13, 12, 3, 0, 1, 2, 3, 4, 5, 6, 7, 8, 9, 10, 11, 12, 13], [12, 13])])
def spec_ParsePacket.B6 : List Nat := [0, 1, 0, 7, 0, 16, 48, 112, 0, 256, 768, 1792, 4095, 0, 16383]
theorem spec_ParsePacket.tab6 : rtab .any (opsOf Try.f15 6) = spec_ParsePacket.T6 := by kernel_rfl
theorem spec_ParsePacket.bits6 : waitsOk spec_ParsePacket.T6.2 spec_ParsePacket.B6 = true := by kernel_rfl
set_option maxHeartbeats 8000000 in
set_option maxRecDepth 100000 in
theorem spec_ParsePacket.calls (k : Nat) (A0 : Option Addr) (c0 : Nat) (l0 : List Int) (r1 : Int) (r2 : Int) (r3 : Int) (r4 : Int) (r5 : Int) (r6 : Int) (r7 : Int) (r8 : List Int) (w : World) (hr0 : Kd.C (Kd.int .u8) w A0 l0.length l0) (hc0 : l0.length ≤ c0) (h : spec_ParsePacket.f k l0 = some (r1, r2, r3, r4, r5, r6, r7, r8)) :
  Calls Try.prog 15 #[.slice A0 l0.length c0] w fun e w' => ∃ v7_ : Value, e = .returned (.agg #[.int .i64 r1, .int .i64 r2, .int .i64 r3, .int .i64 r4, .int .i64 r5, .int .i64 r6, .int .i64 r7, v7_]) ∧ Kd.R (Kd.int .u8) 5 w' w.heap.size (fun _ => True) v7_ r8 ∧ Below w.heap.size w w' := by
 have hu36 := Try.underlying36
 have hu34 := Try.underlying34
 have a9 := Aside0.mk hr0
 have ac := Aside0.mk hc0
 clear hr0 hc0
 have HB := Aside0.mk (Below.refl w.heap.size w)
 obtain ⟨pv_, hp_pv_⟩ : ∃ pv_ : List Int, Aside0 (pv_ = l0.drop 20) := ⟨_, Aside0.mk rfl⟩
 obtain ⟨qv_, hp_qv_⟩ : ∃ qv_ : List Int, Aside0 (qv_ = pv_.drop 4) := ⟨_, Aside0.mk rfl⟩
 have H : ((spec_l1In.f (l0.length : Int) 20 224).bind fun t373 => (if t373 = true then (if 0 < (l0.length : Int) then (if (rd l0 0) = 69 then (if 1 < (l0.length : Int) then (if (rd l0 1) = 0 then ((spec_l1Take.f k l0 4 4).bind fun t376 => (if t376 = 16384 then ((spec_l1Take.f k l0 2 2).bind fun t377 => (spec_ParsePacket.j0 k l0 (t377 != (l0.length : Int)))) else (spec_ParsePacket.j0 k l0 true))) else (spec_ParsePacket.j0 k l0 true)) else (none)) else (spec_ParsePacket.j0 k l0 true)) else (none)) else (spec_ParsePacket.j0 k l0 true))) = some (r1, r2, r3, r4, r5, r6, r7, r8) := h
 clear h
 have ay := Aside0.mk H
 clear H
 go_enter Try.func15, Try.ntmps15
 go_upto_region 2 with (first | ((with_reducible refine gate_dst (N := 2) rfl ?_); refine box_event ?hg (N := 2) ?hd (cs := #[.int .i64 0, .int .i64 0, .int .i64 0, .int .i64 0, .int .i64 0, .int .i64 0, .int .i64 0, .slice none 0 0]) (t := 36) ?hr ?_; (case hd => rfl); (case hg => rfl); (case hr => first | (go_simp; done) | (go_simp; rfl)); intro a4 hg w3 hbox hb; have n0_ := Aside0.mk (lP_ (by repeat (first | (with_reducible first | exact HB.out | apply lA1_ | apply lN_ | apply lD_) | exact HB.out)) hb); have n1_ := Aside0.mk (hbox); have n2_ := Aside0.mk ((by rw [hg]; exact (below_size (by repeat (first | (with_reducible first | exact HB.out | apply lA1_ | apply lN_ | apply lD_) | exact HB.out))) : w.heap.size ≤ a4)); have n3_ := Aside0.mk ((by rw [hg]; exact (below_size (by repeat (first | (with_reducible first | exact HB.out | apply lA1_ | apply lN_ | apply lD_) | exact HB.out))) : w.heap.size ≤ a4)); clear HB; have HB := n0_; have a0 := n1_; have cw := n2_; have a2 := n3_; clear n0_ n1_ n2_ n3_ hb hbox hg))
 (try simp only [Act.put, lA_, lZ_, lS_])
 go_cut [33] (fun v33 wc => ∃ (kq : Nat) (x33_1 : Bool), v33 = .bool x33_1 ∧ Aside0 (spec_ParsePacket.j0 kq l0 x33_1 = some (r1, r2, r3, r4, r5, r6, r7, r8)) ∧ Aside0 (kq ≤ k) ∧ Aside0 (wc.heap[a4]? = some (.cells #[.int .i64 0, .int .i64 0, .int .i64 0, .int .i64 0, .int .i64 0, .int .i64 0, .int .i64 0, (.slice none 0 0)] 36 (0, 0))) ∧ Aside0 (Below w.heap.size w wc))
 case first =>
  have H := ay.out
  clear ay
  replace H := Option.bind_eq_some_iff.mp H
  obtain ⟨t373, bw, H⟩ := H
  try dsimp only at H
  have A4 := Aside0.mk bw
  clear bw
  by_cases c5 : t373 = true
  ·subst c5
   rw [if_pos rfl] at H
   by_cases c6 : 0 < (l0.length : Int)
   ·rw [if_pos c6] at H
    have c6b0 : decide (0 < (l0.length : Int)) = true := decide_eq_true c6
    have c6b1 : decide (0 < l0.length) = true := decide_eq_true (by omega)
    clear c6
    (first | rw [c6b0] | (simp only [i64_w, i32_w]; rw [c6b0]) | skip)
    by_cases c7 : (rd l0 0) = 69
    ·rw [if_pos c7] at H
     have c7b0 : ((rd l0 0) == 69) = true := beq_iff_eq.mpr c7
     have c7b1 : ((rd l0 0) != 69) = false := bne_eq_false_iff_eq.mpr c7
     clear c7
     by_cases c8 : 1 < (l0.length : Int)
     ·rw [if_pos c8] at H
      have c8b0 : decide (1 < (l0.length : Int)) = true := decide_eq_true c8
      have c8b1 : decide (1 < l0.length) = true := decide_eq_true (by omega)
      clear c8
      by_cases c9 : (rd l0 1) = 0
      ·rw [if_pos c9] at H
       have c9b0 : ((rd l0 1) == 0) = true := beq_iff_eq.mpr c9
       have c9b1 : ((rd l0 1) != 0) = false := bne_eq_false_iff_eq.mpr c9
       clear c9
       replace H := Option.bind_eq_some_iff.mp H
       obtain ⟨t376, af, H⟩ := H
       try dsimp only at H
       have bx := Aside0.mk af
       clear af
       by_cases c11 : t376 = 16384
       ·rw [if_pos c11] at H
        have c11b0 : (t376 == 16384) = true := beq_iff_eq.mpr c11
        have c11b1 : (t376 != 16384) = false := bne_eq_false_iff_eq.mpr c11
        clear c11
        replace H := Option.bind_eq_some_iff.mp H
        obtain ⟨t377, az, H⟩ := H
        try dsimp only at H
        have co := Aside0.mk az
        clear az
        have H' := Aside0.mk H
        clear H
        go_wp2_with (first | ((with_reducible refine gate_callee (f := 45) rfl ?_); refine goesA_ (some 9) rfl rfl Try.func45 (by kernel_rfl) rfl #[.int .i64 (l0.length : Int), .int .i64 20, .int .i64 224] rfl ?_; (with_reducible refine (spec_l1In.calls (l0.length : Int) 20 224 true _ A4.out).mono ?_); rintro e w' ⟨rfl, ⟨nd, rfl⟩⟩; refine ⟨_, rfl, ?_⟩; have p374 : 0 ≤ (0 : Int) := (by omega); have q374 : 0 < (l0.length : Int) := of_decide_eq_true (by first | (with_reducible assumption) | assumption); obtain ⟨ad374, e374, hx374_0⟩ := Kd.at_int a9.out 0 p374 q374; cases e374; have qi374 : (0 < l0.length) = True := eq_true (by omega); (try rw [show ((0 : Int)).toNat = 0 from rfl] at hx374_0); (try rw [Addr.add_zero'] at hx374_0); replace hx374_0 := (HB.out.cell (World.block_lt_of_cell? w _ hx374_0)).trans hx374_0; replace p374 := eq_true p374; replace q374 := eq_true q374; have p375 : 0 ≤ (1 : Int) := (by omega); have q375 : 1 < (l0.length : Int) := of_decide_eq_true (by first | (with_reducible assumption) | assumption); obtain ⟨ad375, e375, hx375_0⟩ := Kd.at_int a9.out 1 p375 q375; obtain rfl : ad374 = ad375 := (by injection e375); (try simp only [show (1 : Int).toNat = 1 from rfl, Nat.reduceMul, Nat.reduceEqDiff, Go.Addr.add, ↓reduceIte] at hx375_0); have qi375 : (1 < l0.length) = True := eq_true (by omega); (try rw [show ((1 : Int)).toNat = 1 from rfl] at hx375_0); replace hx375_0 := (HB.out.cell (World.block_lt_of_cell? w _ hx375_0)).trans hx375_0; replace p375 := eq_true p375; replace q375 := eq_true q375) | (go_at_call 46; (with_reducible refine (spec_l1Take.calls k _ _ l0 4 4 t376 _ ?side1 ?side2 bx.out).mono ?_); (case side1 => repeat (first | exact (Kd.C_below a9.out (by repeat (first | (with_reducible first | exact HB.out | apply lA1_ | apply lN_ | apply lD_ | refine lS1_ ?_ a2.out) | exact HB.out))) | (with_reducible refine Kd.C_alloc ?_ _) | (with_reducible refine Kd.C_drewN ?_ _) | (with_reducible refine Kd.C_drew ?_))); (case side2 => exact ac.out); rintro e w' ⟨rfl, ⟨nd, rfl⟩⟩) | (go_at_call 46; (with_reducible refine (spec_l1Take.calls k _ _ l0 2 2 t377 _ ?side1 ?side2 co.out).mono ?_); (case side1 => repeat (first | exact (Kd.C_below a9.out (by repeat (first | (with_reducible first | exact HB.out | apply lA1_ | apply lN_ | apply lD_ | refine lS1_ ?_ a2.out) | exact HB.out))) | (with_reducible refine Kd.C_alloc ?_ _) | (with_reducible refine Kd.C_drewN ?_ _) | (with_reducible refine Kd.C_drew ?_))); (case side2 => exact ac.out); rintro e w' ⟨rfl, ⟨nd, rfl⟩⟩))
        go_meet
        case rel => exact ⟨_, ((t377 != (l0.length : Int))), (by first | rfl | (simp; done) | (simp [*]; done)), H', ⟨by first | omega | exact Nat.le_refl _⟩, ⟨by (with_reducible repeat first | apply bN_ | apply bD_ | apply bA_); exact a0.out⟩, ⟨by repeat (first | (with_reducible first | exact HB.out | apply lA1_ | apply lN_ | apply lD_ | refine lS1_ ?_ a2.out) | exact HB.out)⟩⟩
       ·rw [if_neg c11] at H
        have c11b0 : (t376 == 16384) = false := beq_eq_false_iff_ne.mpr c11
        have c11b1 : (t376 != 16384) = true := bne_iff_ne.mpr c11
        have H' := Aside0.mk H
        clear H
        go_wp2_with (first | ((with_reducible refine gate_callee (f := 45) rfl ?_); refine goesA_ (some 9) rfl rfl Try.func45 (by kernel_rfl) rfl #[.int .i64 (l0.length : Int), .int .i64 20, .int .i64 224] rfl ?_; (with_reducible refine (spec_l1In.calls (l0.length : Int) 20 224 true _ A4.out).mono ?_); rintro e w' ⟨rfl, ⟨nd, rfl⟩⟩; refine ⟨_, rfl, ?_⟩; have p374 : 0 ≤ (0 : Int) := (by omega); have q374 : 0 < (l0.length : Int) := of_decide_eq_true (by first | (with_reducible assumption) | assumption); obtain ⟨ad374, e374, hx374_0⟩ := Kd.at_int a9.out 0 p374 q374; cases e374; have qi374 : (0 < l0.length) = True := eq_true (by omega); (try rw [show ((0 : Int)).toNat = 0 from rfl] at hx374_0); (try rw [Addr.add_zero'] at hx374_0); replace hx374_0 := (HB.out.cell (World.block_lt_of_cell? w _ hx374_0)).trans hx374_0; replace p374 := eq_true p374; replace q374 := eq_true q374; have p375 : 0 ≤ (1 : Int) := (by omega); have q375 : 1 < (l0.length : Int) := of_decide_eq_true (by first | (with_reducible assumption) | assumption); obtain ⟨ad375, e375, hx375_0⟩ := Kd.at_int a9.out 1 p375 q375; obtain rfl : ad374 = ad375 := (by injection e375); (try simp only [show (1 : Int).toNat = 1 from rfl, Nat.reduceMul, Nat.reduceEqDiff, Go.Addr.add, ↓reduceIte] at hx375_0); have qi375 : (1 < l0.length) = True := eq_true (by omega); (try rw [show ((1 : Int)).toNat = 1 from rfl] at hx375_0); replace hx375_0 := (HB.out.cell (World.block_lt_of_cell? w _ hx375_0)).trans hx375_0; replace p375 := eq_true p375; replace q375 := eq_true q375) | (go_at_call 46; (with_reducible refine (spec_l1Take.calls k _ _ l0 4 4 t376 _ ?side1 ?side2 bx.out).mono ?_); (case side1 => repeat (first | exact (Kd.C_below a9.out (by repeat (first | (with_reducible first | exact HB.out | apply lA1_ | apply lN_ | apply lD_ | refine lS1_ ?_ a2.out) | exact HB.out))) | (with_reducible refine Kd.C_alloc ?_ _) | (with_reducible refine Kd.C_drewN ?_ _) | (with_reducible refine Kd.C_drew ?_))); (case side2 => exact ac.out); rintro e w' ⟨rfl, ⟨nd, rfl⟩⟩))
        go_meet
        case rel => exact ⟨_, (true), (by first | rfl | (simp; done) | (simp [*]; done)), H', ⟨by first | omega | exact Nat.le_refl _⟩, ⟨by (with_reducible repeat first | apply bN_ | apply bD_ | apply bA_); exact a0.out⟩, ⟨by repeat (first | (with_reducible first | exact HB.out | apply lA1_ | apply lN_ | apply lD_ | refine lS1_ ?_ a2.out) | exact HB.out)⟩⟩
      ·rw [if_neg c9] at H
       have c9b0 : ((rd l0 1) == 0) = false := beq_eq_false_iff_ne.mpr c9
       have c9b1 : ((rd l0 1) != 0) = true := bne_iff_ne.mpr c9
       have H' := Aside0.mk H
       clear H
       go_wp2_with (first | ((with_reducible refine gate_callee (f := 45) rfl ?_); refine goesA_ (some 9) rfl rfl Try.func45 (by kernel_rfl) rfl #[.int .i64 (l0.length : Int), .int .i64 20, .int .i64 224] rfl ?_; (with_reducible refine (spec_l1In.calls (l0.length : Int) 20 224 true _ A4.out).mono ?_); rintro e w' ⟨rfl, ⟨nd, rfl⟩⟩; refine ⟨_, rfl, ?_⟩; have p374 : 0 ≤ (0 : Int) := (by omega); have q374 : 0 < (l0.length : Int) := of_decide_eq_true (by first | (with_reducible assumption) | assumption); obtain ⟨ad374, e374, hx374_0⟩ := Kd.at_int a9.out 0 p374 q374; cases e374; have qi374 : (0 < l0.length) = True := eq_true (by omega); (try rw [show ((0 : Int)).toNat = 0 from rfl] at hx374_0); (try rw [Addr.add_zero'] at hx374_0); replace hx374_0 := (HB.out.cell (World.block_lt_of_cell? w _ hx374_0)).trans hx374_0; replace p374 := eq_true p374; replace q374 := eq_true q374; have p375 : 0 ≤ (1 : Int) := (by omega); have q375 : 1 < (l0.length : Int) := of_decide_eq_true (by first | (with_reducible assumption) | assumption); obtain ⟨ad375, e375, hx375_0⟩ := Kd.at_int a9.out 1 p375 q375; obtain rfl : ad374 = ad375 := (by injection e375); (try simp only [show (1 : Int).toNat = 1 from rfl, Nat.reduceMul, Nat.reduceEqDiff, Go.Addr.add, ↓reduceIte] at hx375_0); have qi375 : (1 < l0.length) = True := eq_true (by omega); (try rw [show ((1 : Int)).toNat = 1 from rfl] at hx375_0); replace hx375_0 := (HB.out.cell (World.block_lt_of_cell? w _ hx375_0)).trans hx375_0; replace p375 := eq_true p375; replace q375 := eq_true q375))
       go_meet
       case rel => exact ⟨_, (true), (by first | rfl | (simp; done) | (simp [*]; done)), H', ⟨by first | omega | exact Nat.le_refl _⟩, ⟨by (with_reducible repeat first | apply bN_ | apply bD_ | apply bA_); exact a0.out⟩, ⟨by repeat (first | (with_reducible first | exact HB.out | apply lA1_ | apply lN_ | apply lD_ | refine lS1_ ?_ a2.out) | exact HB.out)⟩⟩
     ·rw [if_neg c8] at H
      exact absurd H (by simp)
    ·rw [if_neg c7] at H
     have c7b0 : ((rd l0 0) == 69) = false := beq_eq_false_iff_ne.mpr c7
     have c7b1 : ((rd l0 0) != 69) = true := bne_iff_ne.mpr c7
     have H' := Aside0.mk H
     clear H
     go_wp2_with (first | ((with_reducible refine gate_callee (f := 45) rfl ?_); refine goesA_ (some 9) rfl rfl Try.func45 (by kernel_rfl) rfl #[.int .i64 (l0.length : Int), .int .i64 20, .int .i64 224] rfl ?_; (with_reducible refine (spec_l1In.calls (l0.length : Int) 20 224 true _ A4.out).mono ?_); rintro e w' ⟨rfl, ⟨nd, rfl⟩⟩; refine ⟨_, rfl, ?_⟩; have p374 : 0 ≤ (0 : Int) := (by omega); have q374 : 0 < (l0.length : Int) := of_decide_eq_true (by first | (with_reducible assumption) | assumption); obtain ⟨ad374, e374, hx374_0⟩ := Kd.at_int a9.out 0 p374 q374; cases e374; have qi374 : (0 < l0.length) = True := eq_true (by omega); (try rw [show ((0 : Int)).toNat = 0 from rfl] at hx374_0); (try rw [Addr.add_zero'] at hx374_0); replace hx374_0 := (HB.out.cell (World.block_lt_of_cell? w _ hx374_0)).trans hx374_0; replace p374 := eq_true p374; replace q374 := eq_true q374))
     go_meet
     case rel => exact ⟨_, (true), (by first | rfl | (simp; done) | (simp [*]; done)), H', ⟨by first | omega | exact Nat.le_refl _⟩, ⟨by (with_reducible repeat first | apply bN_ | apply bD_ | apply bA_); exact a0.out⟩, ⟨by repeat (first | (with_reducible first | exact HB.out | apply lA1_ | apply lN_ | apply lD_ | refine lS1_ ?_ a2.out) | exact HB.out)⟩⟩
   ·rw [if_neg c6] at H
    exact absurd H (by simp)
  ·replace c5 := Bool.eq_false_iff.mpr c5
   subst c5
   rw [if_neg (show ¬ (false = true) by decide)] at H
   have H' := Aside0.mk H
   clear H
   go_wp2_with (first | ((with_reducible refine gate_callee (f := 45) rfl ?_); refine goesA_ (some 9) rfl rfl Try.func45 (by kernel_rfl) rfl #[.int .i64 (l0.length : Int), .int .i64 20, .int .i64 224] rfl ?_; (with_reducible refine (spec_l1In.calls (l0.length : Int) 20 224 false _ A4.out).mono ?_); rintro e w' ⟨rfl, ⟨nd, rfl⟩⟩; refine ⟨_, rfl, ?_⟩))
   go_meet
   case rel => exact ⟨_, (true), (by first | rfl | (simp; done) | (simp [*]; done)), H', ⟨by first | omega | exact Nat.le_refl _⟩, ⟨by (with_reducible repeat first | apply bN_ | apply bD_ | apply bA_); exact a0.out⟩, ⟨by repeat (first | (with_reducible first | exact HB.out | apply lA1_ | apply lN_ | apply lD_ | refine lS1_ ?_ a2.out) | exact HB.out)⟩⟩
 case rest =>
  clear ay
  try clear c1
  try clear p2
  try clear p3
  try clear q3
  try clear hx3
  try clear qi3
  try clear c4
  try clear c5
  try clear c6
  try clear c6b0
  try clear c6b1
  try clear c7
  try clear c7b0
  try clear c7b1
  try clear c8
  try clear c8b0
  try clear c8b1
  try clear c9
  try clear c9b0
  try clear c9b1
  try clear c11
  try clear c11b0
  try clear c11b1
  try clear hx374_0
  try clear hx375_0
  try clear p374
  try clear p375
  try clear q374
  try clear q375
  obtain ⟨kq, x33_1, rfl, HA, HJ1, a0, HB⟩ := hcut
  cases kq with
  | zero => exact absurd HA.out (by simp [spec_ParsePacket.j0])
  | succ kj1 =>
   have H := HA.out
   clear HA
   simp only [spec_ParsePacket.j0] at H
   try rw [← hp_pv_.out] at H
   try rw [← hp_qv_.out] at H
   by_cases c13 : x33_1 = true
   ·subst c13
    rw [if_pos rfl] at H
    replace H := Option.bind_eq_some_iff.mp H
    obtain ⟨⟨t378, t379, t380, t381, t382, t383, t384, t385⟩, b0, H⟩ := H
    try dsimp only at H
    have cp := Aside0.mk b0
    clear b0
    simp only [Option.some.injEq, Prod.mk.injEq] at H
    obtain ⟨rfl, rfl, rfl, rfl, rfl, rfl, rfl, rfl⟩ := H
    go_wp2_with (first | ((with_reducible refine gate_callee (f := 53) rfl ?_); refine goesA_ (some 34) rfl rfl Try.func53 (by kernel_rfl) rfl #[.int .i64 5] rfl ?_; (with_reducible refine (spec_l2Bad.calls 5 t378 t379 t380 t381 t382 t383 t384 t385 _ cp.out).mono ?_); rintro e w15 ⟨v386, rfl, ho0, hb⟩; refine ⟨_, rfl, ?_⟩; have n0_ := Aside0.mk (Kd.R_lower ho0 (below_size (by repeat (first | (with_reducible first | exact HB.out | apply lA1_ | apply lN_ | apply lD_ | refine lS1_ ?_ a2.out) | exact HB.out)))); have n1_ := Aside0.mk (bB_ (g := a4) (o := .cells #[.int .i64 0, .int .i64 0, .int .i64 0, .int .i64 0, .int .i64 0, .int .i64 0, .int .i64 0, .slice none 0 0] 36 (0, 0)) (by (with_reducible repeat first | apply bN_ | apply bD_ | apply bA_); exact a0.out) hb); have n2_ := Aside0.mk (lP_ (by repeat (first | (with_reducible first | exact HB.out | apply lA1_ | apply lN_ | apply lD_ | refine lS1_ ?_ a2.out) | exact HB.out)) hb); clear a0 HB; have al := n0_; have a0 := n1_; have HB := n2_; clear n0_ n1_ n2_; (try clear hb); (try clear hb2); (try clear hk); (try clear hi); (try clear ho0); obtain ⟨_, _, _, _, _, _, _, _, _, _, _, _, _, _, _, _⟩ := bc8 a0.out; obtain ⟨cd, ce, eo17⟩ := Kd.R_slice al.out; subst eo17))
    refine bodyPost_ret (results_cell_row rfl _ _ a4 36 #[.int .i64 t378, .int .i64 t379, .int .i64 t380, .int .i64 t381, .int .i64 t382, .int .i64 t383, .int .i64 t384, .slice cd t385.length ce] (0, 0) _ rfl (by (with_reducible repeat first | apply bN_ | apply bD_ | apply bA_); apply fill8; (with_reducible repeat first | apply bN_ | apply bD_ | apply bA_); exact a0.out) Try.underlying36 rfl (by kernel_rfl)) rfl ?_
    exact ⟨_, by first | rfl | (simp [errW_none, errW_some] <;> rfl) | (simp [*, errW_none, errW_some] <;> rfl), by (with_reducible repeat first | apply rA_ | apply rN_ | apply rD_); exact Kd.R_mono (rfar8 (g := a4) (Kd.R_types al.out a0.out (by decide)) (fun _ hk => hk.2)) (fun _ hk => trivial), by repeat (first | (with_reducible first | exact HB.out | apply lA1_ | apply lN_ | apply lD_ | refine lS1_ ?_ a2.out) | exact HB.out)⟩
   ·replace c13 := Bool.eq_false_iff.mpr c13
    subst c13
    rw [if_neg (show ¬ (false = true) by decide)] at H
    by_cases c18 : 20 ≤ (l0.length : Int)
    ·rw [if_pos c18] at H
     have c18b0 := eq_true c18
     have c18b1 : decide (20 ≤ (l0.length : Int)) = true := decide_eq_true c18
     clear c18
     replace H := Option.bind_eq_some_iff.mp H
     obtain ⟨t389, b1, H⟩ := H
     try dsimp only at H
     have bz := Aside0.mk b1
     clear b1
     by_cases c20 : t389 = true
     ·subst c20
      rw [if_pos rfl] at H
      replace H := Option.bind_eq_some_iff.mp H
      obtain ⟨t400, b2, H⟩ := H
      try dsimp only at H
      have ca := Aside0.mk b2
      clear b2
      replace H := Option.bind_eq_some_iff.mp H
      obtain ⟨t401, b3, H⟩ := H
      try dsimp only at H
      have b4 := Aside0.mk b3
      clear b3
      by_cases c23 : 9 < (l0.length : Int)
      ·rw [if_pos c23] at H
       have c23b0 : decide (9 < (l0.length : Int)) = true := decide_eq_true c23
       have c23b1 : decide (9 < l0.length) = true := decide_eq_true (by omega)
       clear c23
       by_cases c24 : 8 < (l0.length : Int)
       ·rw [if_pos c24] at H
        have c24b0 : decide (8 < (l0.length : Int)) = true := decide_eq_true c24
        have c24b1 : decide (8 < l0.length) = true := decide_eq_true (by omega)
        clear c24
        have ak := Aside0.mk H
        clear H
        obtain ⟨i026, hi026, _, hsz26, _⟩ := info_parts info5
        obtain ⟨cq, hA26, hC26⟩ := print_take_of (P := Try.prog) (Value.int .u8) 0 22 5 .i64 Try.underlying22 hi026 hsz26 A0 c0 l0 20 (by omega) (of_decide_eq_true (by first | (with_reducible assumption) | assumption)) ac.out
        have ag := Aside0.mk (Kd.C_of_reads (h1 := fun _ => rfl) (hA26 _ (Kd.reads_of_C a9.out)))
        have ah := Aside0.mk hC26
        clear hA26 hC26 hi026 hsz26
        try go_wp2_with (first | ((with_reducible refine gate_callee (f := 54) rfl ?_); refine goesL_ (some 37) rfl rfl Try.func54 (by kernel_rfl) rfl #[.slice A0 (l0.take 20).length c0] rfl (by (try simp only [List.map_toArray, List.map_cons, List.map_nil]); first | done | (rw [show (l0.take 20).length = 20 from (by rw [List.length_take]; have h_ : (20 : Int) ≤ (l0.length : Int) := of_decide_eq_true (by first | (with_reducible assumption) | assumption); omega)] <;> rfl) | rfl | (simp only [List.length_drop, List.length_take]; rfl)) ?_; (with_reducible refine (spec_CheckWords.calls kj1 _ _ (l0.take 20) true _ ?side1 ?side2 bz.out).mono ?_); (case side1 => repeat (first | exact (Kd.C_below ag.out HB.out) | (with_reducible refine Kd.C_alloc ?_ _) | (with_reducible refine Kd.C_drewN ?_ _) | (with_reducible refine Kd.C_drew ?_))); (case side2 => exact ah.out); rintro e w' ⟨rfl, ⟨nd, rfl⟩⟩; refine ⟨_, rfl, ?_⟩; (try (rw [drewN_self wc]; generalize hq_ : World.drewN wc _ = wc; have n0_ : Aside0 (wc.heap[a4]? = some (.cells #[.int .i64 0, .int .i64 0, .int .i64 0, .int .i64 0, .int .i64 0, .int .i64 0, .int .i64 0, .slice none 0 0] 36 (0, 0))) := ⟨by rw [← hq_]; exact (by (with_reducible repeat first | apply bN_ | apply bD_ | apply bA_); exact a0.out)⟩; have n1_ : Aside0 (Below w.heap.size w wc) := ⟨by rw [← hq_]; exact (by repeat (first | (with_reducible first | exact HB.out | apply lA1_ | apply lN_ | apply lD_ | refine lS1_ ?_ a2.out) | exact HB.out))⟩; clear a0 HB hq_; have a0 := n0_; have HB := n1_; clear n0_ n1_))))
        have n0_ := Aside0.mk (bD_ a0.out)
        have n1_ := Aside0.mk (lD_ HB.out)
        clear a0
        clear HB
        have a0 := n0_
        have HB := n1_
        clear n0_ n1_
        have p402 : 0 ≤ (9 : Int) := (by omega)
        have q402 : 9 < (l0.length : Int) := of_decide_eq_true (by first | (with_reducible assumption) | assumption)
        obtain ⟨ad402, e402, hx402_0⟩ := Kd.at_int a9.out 9 p402 q402
        have hw402_0 := hx402_0
        (try rw [show ((9 : Int)).toNat = 9 from rfl] at hw402_0)
        (try rw [show 9 * 1 = 9 from rfl] at hw402_0)
        (try simp only [Nat.reduceMul, Nat.reduceEqDiff, Go.Addr.add, ↓reduceIte] at hw402_0)
        cases e402
        (try simp only [show (9 : Int).toNat = 9 from rfl, Nat.reduceMul, Nat.reduceEqDiff, Go.Addr.add, ↓reduceIte] at hx402_0)
        have qi402 : (9 < l0.length) = True := eq_true (by omega)
        (try rw [show ((9 : Int)).toNat = 9 from rfl] at hx402_0)
        replace hx402_0 := (HB.out.cell (World.block_lt_of_cell? w _ hx402_0)).trans hx402_0
        replace p402 := eq_true p402
        replace q402 := eq_true q402
        have p403 : 0 ≤ (8 : Int) := (by omega)
        have q403 : 8 < (l0.length : Int) := of_decide_eq_true (by first | (with_reducible assumption) | assumption)
        obtain ⟨ad403, e403, hx403_0⟩ := Kd.at_int a9.out 8 p403 q403
        have hw403_0 := hx403_0
        (try rw [show ((8 : Int)).toNat = 8 from rfl] at hw403_0)
        (try rw [show 8 * 1 = 8 from rfl] at hw403_0)
        (try simp only [Nat.reduceMul, Nat.reduceEqDiff, Go.Addr.add, ↓reduceIte] at hw403_0)
        obtain rfl : ad402 = ad403 := (by injection e403)
        (try simp only [show (8 : Int).toNat = 8 from rfl, Nat.reduceMul, Nat.reduceEqDiff, Go.Addr.add, ↓reduceIte] at hx403_0)
        have qi403 : (8 < l0.length) = True := eq_true (by omega)
        (try rw [show ((8 : Int)).toNat = 8 from rfl] at hx403_0)
        replace hx403_0 := (HB.out.cell (World.block_lt_of_cell? w _ hx403_0)).trans hx403_0
        replace p403 := eq_true p403
        replace q403 := eq_true q403
        refine start_ (n := 15) (S := fun w' => w'.cell? ⟨ad402.block, ad402.off + 9, none⟩ = some (.int .u8 (rd l0 9)) ∧ w'.cell? ⟨ad402.block, ad402.off + 8, none⟩ = some (.int .u8 (rd l0 8))) (ds := []) #[false, false, false, false, false, false, false, false, false, false, false, false, false, false, false] (by kernel_rfl) rfl rfl ⟨((HB.out.cell (World.block_lt_of_cell? w _ hw402_0)).trans hw402_0), ((HB.out.cell (World.block_lt_of_cell? w _ hw403_0)).trans hw403_0)⟩ (fun hHeld => ?_); refine with_tabW spec_ParsePacket.tab6 spec_ParsePacket.bits6 (fun HT_ HW_ => ?_)
        generalize wc.drew = w27 at a0 HB hx402_0 hx403_0 hHeld ⊢
        refine pure_ (i := 0) (N := some 40) (v := ?_) (a' := ?_) #[true, false, false, false, false, false, false, false, false, false, false, false, false, false, false] rfl rfl (any_of HT_.out (by kernel_rfl)) (fun _ _ _ h => h) (Or.inl ⟨by rfl, ?_⟩) ?_ ?_
        rotate_left
        ·intro w'
         go_simp
         with_reducible rfl
        rotate_left
        ·simp only [Act.put, lA_, lZ_, lS_, i64_w, i32_w]
         rfl
        refine pure_ (i := 2) (N := some 42) (v := ?_) (a' := ?_) #[true, false, true, false, false, false, false, false, false, false, false, false, false, false, false] rfl rfl (any_of HT_.out (by kernel_rfl)) (fun _ _ _ h => h) (Or.inl ⟨by rfl, ?_⟩) ?_ ?_
        rotate_left
        ·intro w'
         go_simp
         with_reducible rfl
        rotate_left
        ·simp only [Act.put, lA_, lZ_, lS_, i64_w, i32_w]
         rfl
        refine pure_ (i := 4) (N := some 44) (v := ?_) (a' := ?_) #[true, false, true, false, true, false, false, false, false, false, false, false, false, false, false] rfl rfl (any_of HT_.out (by kernel_rfl)) (fun _ _ _ h => h) (Or.inl ⟨by rfl, ?_⟩) ?_ ?_
        rotate_left
        ·intro w'
         go_simp
         with_reducible rfl
        rotate_left
        ·simp only [Act.put, lA_, lZ_, lS_, i64_w, i32_w]
         rfl
        refine pure_ (i := 5) (N := some 45) (v := ?_) (a' := ?_) #[true, false, true, false, true, true, false, false, false, false, false, false, false, false, false] rfl rfl (any_of HT_.out (by kernel_rfl)) (fun _ _ _ h => h) (Or.inl ⟨by rfl, ?_⟩) ?_ ?_
        rotate_left
        ·intro w'
         go_simp
         with_reducible rfl
        rotate_left
        ·simp only [Act.put, lA_, lZ_, lS_, i64_w, i32_w]
         rfl
        refine pure_ (i := 8) (N := some 48) (v := ?_) (a' := ?_) #[true, false, true, false, true, true, false, false, true, false, false, false, false, false, false] rfl rfl (any_of HT_.out (by kernel_rfl)) (fun _ _ _ h => h) (Or.inl ⟨by rfl, ?_⟩) ?_ ?_
        rotate_left
        ·intro w'
         go_simp
         with_reducible rfl
        rotate_left
        ·simp only [Act.put, lA_, lZ_, lS_, i64_w, i32_w]
         rfl
        refine pure_ (i := 9) (N := some 49) (v := ?_) (a' := ?_) #[true, false, true, false, true, true, false, false, true, true, false, false, false, false, false] rfl rfl (any_of HT_.out (by kernel_rfl)) (fun _ _ _ h => h) (Or.inl ⟨by rfl, ?_⟩) ?_ ?_
        rotate_left
        ·intro w'
         go_simp
         with_reducible rfl
        rotate_left
        ·simp only [Act.put, lA_, lZ_, lS_, i64_w, i32_w]
         rfl
        refine take_ (i := 6) (N := some 46) (v := ?_) (a' := ?_) #[true, false, true, false, true, true, true, false, true, true, false, false, false, false, false] rfl rfl (take_ofW HT_.out HW_.out (by kernel_rfl)) (fun _ _ _ h => h) (Or.inl ⟨by rfl, ?_⟩) hHeld ?_ ?_
        rotate_left
        ·rintro w' ⟨s0, s1⟩
         go_simp
         with_reducible rfl
        rotate_left
        ·simp only [Act.put, lA_, lZ_, lS_, i64_w, i32_w]
         rfl
        refine pure_ (i := 7) (N := some 47) (v := ?_) (a' := ?_) #[true, false, true, false, true, true, true, true, true, true, false, false, false, false, false] rfl rfl (any_of HT_.out (by kernel_rfl)) (fun _ _ _ h => h) (Or.inl ⟨by rfl, ?_⟩) ?_ ?_
        rotate_left
        ·intro w'
         go_simp
         with_reducible rfl
        rotate_left
        ·simp only [Act.put, lA_, lZ_, lS_, i64_w, i32_w]
         rfl
        refine take_ (i := 10) (N := some 50) (v := ?_) (a' := ?_) #[true, false, true, false, true, true, true, true, true, true, true, false, false, false, false] rfl rfl (take_ofW HT_.out HW_.out (by kernel_rfl)) (fun _ _ _ h => h) (Or.inl ⟨by rfl, ?_⟩) hHeld ?_ ?_
        rotate_left
        ·rintro w' ⟨s0, s1⟩
         go_simp
         with_reducible rfl
        rotate_left
        ·simp only [Act.put, lA_, lZ_, lS_, i64_w, i32_w]
         rfl
        refine pure_ (i := 11) (N := some 51) (v := ?_) (a' := ?_) #[true, false, true, false, true, true, true, true, true, true, true, true, false, false, false] rfl rfl (any_of HT_.out (by kernel_rfl)) (fun _ _ _ h => h) (Or.inl ⟨by rfl, ?_⟩) ?_ ?_
        rotate_left
        ·intro w'
         go_simp
         with_reducible rfl
        rotate_left
        ·simp only [Act.put, lA_, lZ_, lS_, i64_w, i32_w]
         rfl
        refine join_ (σ := Nat) 1 #[true, true, true, true, true, true, true, true, true, true, true, true, true, true, false] (fun s_ => [(41, .int .i64 t400), (43, .int .i64 t401), (4, .pointer (some ⟨s_, 0, none⟩)), (52, .agg #[.int .i64 t400, .int .i64 t401, .int .i64 (wrap64 (rd l0 9)), .int .i64 (wrap64 (rd l0 8)), .int .i64 0, .int .i64 0, .slice none 0 0])]) (fun s_ w' => (w'.cell? ⟨ad402.block, ad402.off + 9, none⟩ = some (.int .u8 (rd l0 9)) ∧ w'.cell? ⟨ad402.block, ad402.off + 8, none⟩ = some (.int .u8 (rd l0 8))) ∧ (w'.heap[a4]? = some (.cells #[.int .i64 0, .int .i64 0, .int .i64 0, .int .i64 0, .int .i64 0, .int .i64 0, .int .i64 0, .slice none 0 0] 36 (0, 0))) ∧ (w'.heap[s_]? = some (.cells #[.int .i64 0, .int .i64 0, .int .i64 0, .int .i64 0, .int .i64 0, .int .i64 0, .slice none 0 0] 34 (0, 0))) ∧ (w.heap.size ≤ s_) ∧ (w.heap.size ≤ s_) ∧ (a4 ≠ s_) ∧ (s_ ≠ a4) ∧ (Below w.heap.size w w')) ?_ ?_
        rotate_left
        ·intro hCont
         refine two_ (i := 1) (j := 13) (Ni := some 41) (Nj := some 4) #[true, true, true, false, true, true, true, true, true, true, true, true, false, false, false] #[true, false, true, false, true, true, true, true, true, true, true, true, false, true, false] rfl rfl rfl rfl (two_of HT_.out (by kernel_rfl)) (by decide) (by decide) (fun K hK => ?_) (fun K hK => ?_)
         ·skip
          refine goes_ Try.func46 (by kernel_rfl) rfl #[.slice (some ad402) l0.length c0, .int .i64 12, .int .i64 4] (by rfl) rfl rfl (by (try simp only [List.map_toArray, List.map_cons, List.map_nil]); first | done | rfl | (simp only [List.length_drop, List.length_take]; rfl)) ?_
          with_reducible refine (spec_l1Take.calls kj1 _ _ l0 12 4 t400 _ ?side1 ?side2 ca.out).mono ?_
          (case side1 => repeat (first | exact (Kd.C_below a9.out HB.out) | (with_reducible refine Kd.C_alloc ?_ _) | (with_reducible refine Kd.C_drewN ?_ _) | (with_reducible refine Kd.C_drew ?_)))
          (case side2 => exact ac.out)
          rintro e w' ⟨rfl, ⟨nd, rfl⟩⟩
          refine ⟨_, rfl, ?_⟩
          refine hK.out _ _ ⟨((HB.out.cell (World.block_lt_of_cell? w _ hw402_0)).trans hw402_0), ((HB.out.cell (World.block_lt_of_cell? w _ hw403_0)).trans hw403_0)⟩ (fun hHeld => ?_)
          clear hK K
          refine norm_ (a' := ?_) ?_ ?_
          rotate_left
          ·show Act.put _ (some 41) _ = _
           simp only [Act.put, lA_, lZ_, lS_, i64_w, i32_w]
           rfl
          refine two_ (i := 3) (j := 13) (Ni := some 43) (Nj := some 4) #[true, true, true, true, true, true, true, true, true, true, true, true, false, false, false] #[true, true, true, false, true, true, true, true, true, true, true, true, false, true, false] rfl rfl rfl rfl (two_of HT_.out (by kernel_rfl)) (by decide) (by decide) (fun K hK => ?_) (fun K hK => ?_)
          ·skip
           refine goes_ Try.func46 (by kernel_rfl) rfl #[.slice (some ad402) l0.length c0, .int .i64 16, .int .i64 4] (by rfl) rfl rfl (by (try simp only [List.map_toArray, List.map_cons, List.map_nil]); first | done | rfl | (simp only [List.length_drop, List.length_take]; rfl)) ?_
           with_reducible refine (spec_l1Take.calls kj1 _ _ l0 16 4 t401 _ ?side1 ?side2 b4.out).mono ?_
           (case side1 => repeat (first | exact (Kd.C_below a9.out (by repeat (first | (with_reducible first | exact HB.out | apply lA1_ | apply lN_ | apply lD_ | refine lS1_ ?_ a2.out) | exact HB.out))) | (with_reducible refine Kd.C_alloc ?_ _) | (with_reducible refine Kd.C_drewN ?_ _) | (with_reducible refine Kd.C_drew ?_)))
           (case side2 => exact ac.out)
           rintro e w' ⟨rfl, ⟨nd, rfl⟩⟩
           refine ⟨_, rfl, ?_⟩
           refine hK.out _ _ ⟨((HB.out.cell (World.block_lt_of_cell? w _ hw402_0)).trans hw402_0), ((HB.out.cell (World.block_lt_of_cell? w _ hw403_0)).trans hw403_0)⟩ (fun hHeld => ?_)
           clear hK K
           refine norm_ (a' := ?_) ?_ ?_
           rotate_left
           ·show Act.put _ (some 43) _ = _
            simp only [Act.put, lA_, lZ_, lS_, i64_w, i32_w]
            rfl
           refine pure_ (i := 12) (N := some 52) (v := ?_) (a' := ?_) #[true, true, true, true, true, true, true, true, true, true, true, true, true, false, false] rfl rfl (any_of HT_.out (by kernel_rfl)) (fun _ _ _ h => h) (Or.inl ⟨by rfl, ?_⟩) ?_ ?_
           rotate_left
           ·intro w'
            go_simp
            with_reducible rfl
           rotate_left
           ·simp only [Act.put, lA_, lZ_, lS_, i64_w, i32_w]
            rfl
           refine one_ (i := 13) (N := some 4) #[true, true, true, true, true, true, true, true, true, true, true, true, true, true, false] rfl rfl (one_of HT_.out (by kernel_rfl)) (by decide) (fun K hK => ?_)
           refine box_step ?hg (N := 4) ?hd (cs := #[.int .i64 0, .int .i64 0, .int .i64 0, .int .i64 0, .int .i64 0, .int .i64 0, .slice none 0 0]) (t := 34) ?hr ?_; (case hd => rfl); (case hg => rfl); (case hr => first | (go_simp; done) | (go_simp; rfl))
           intro a5 hg w28 hbox hb
           have n0_ := Aside0.mk (bB_ (g := a4) (o := .cells #[.int .i64 0, .int .i64 0, .int .i64 0, .int .i64 0, .int .i64 0, .int .i64 0, .int .i64 0, .slice none 0 0] 36 (0, 0)) (by (with_reducible repeat first | apply bN_ | apply bD_ | apply bA_); exact a0.out) hb)
           have n1_ := Aside0.mk (lP_ (by repeat (first | (with_reducible first | exact HB.out | apply lA1_ | apply lN_ | apply lD_ | refine lS1_ ?_ a2.out) | exact HB.out)) hb)
           have n2_ := Aside0.mk (hbox)
           have n3_ := Aside0.mk ((by rw [hg]; exact (below_size (by repeat (first | (with_reducible first | exact HB.out | apply lA1_ | apply lN_ | apply lD_ | refine lS1_ ?_ a2.out) | exact HB.out))) : w.heap.size ≤ a5))
           have n4_ := Aside0.mk ((by rw [hg]; exact (below_size (by repeat (first | (with_reducible first | exact HB.out | apply lA1_ | apply lN_ | apply lD_ | refine lS1_ ?_ a2.out) | exact HB.out))) : w.heap.size ≤ a5))
           have n5_ := Aside0.mk ((by rw [hg]; exact Nat.ne_of_lt (blk_lt (g := a4) (o := .cells #[.int .i64 0, .int .i64 0, .int .i64 0, .int .i64 0, .int .i64 0, .int .i64 0, .int .i64 0, .slice none 0 0] 36 (0, 0)) (by (with_reducible repeat first | apply bN_ | apply bD_ | apply bA_); exact a0.out)) : a4 ≠ a5))
           have n6_ := Aside0.mk ((by rw [hg]; exact Nat.ne_of_gt (blk_lt (g := a4) (o := .cells #[.int .i64 0, .int .i64 0, .int .i64 0, .int .i64 0, .int .i64 0, .int .i64 0, .int .i64 0, .slice none 0 0] 36 (0, 0)) (by (with_reducible repeat first | apply bN_ | apply bD_ | apply bA_); exact a0.out)) : a5 ≠ a4))
           clear a0
           clear HB
           have a0 := n0_
           have HB := n1_
           have a3 := n2_
           have a1 := n3_
           have a7 := n4_
           have a6 := n5_
           have a8 := n6_
           clear n0_ n1_ n2_ n3_ n4_ n5_ n6_
           clear hb hbox hg
           refine hK.out _ _ ⟨((HB.out.cell (World.block_lt_of_cell? w _ hw402_0)).trans hw402_0), ((HB.out.cell (World.block_lt_of_cell? w _ hw403_0)).trans hw403_0)⟩ (fun hHeld => ?_)
           clear hK K
           refine norm_ (a' := ?_) ?_ ?_
           rotate_left
           ·show Act.put _ (some 4) _ = _
            simp only [Act.put, lA_, lZ_, lS_, i64_w, i32_w]
            rfl
           exact norm_ (by simp only [putAll, Act.put, lA_, lZ_, lS_]) (hCont (a5) _ ⟨hHeld, (by (with_reducible repeat first | apply bN_ | apply bD_ | apply bA_); exact a0.out), (by (with_reducible repeat first | apply bN_ | apply bD_ | apply bA_); exact a3.out), a1.out, a7.out, a6.out, a8.out, (by repeat (first | (with_reducible first | exact HB.out | apply lA1_ | apply lN_ | apply lD_ | refine lS1_ ?_ a2.out | refine lS1_ ?_ a7.out) | exact HB.out))⟩)
          ·skip
           refine box_step ?hg (N := 4) ?hd (cs := #[.int .i64 0, .int .i64 0, .int .i64 0, .int .i64 0, .int .i64 0, .int .i64 0, .slice none 0 0]) (t := 34) ?hr ?_; (case hd => rfl); (case hg => rfl); (case hr => first | (go_simp; done) | (go_simp; rfl))
           intro a5 hg w28 hbox hb
           have n0_ := Aside0.mk (bB_ (g := a4) (o := .cells #[.int .i64 0, .int .i64 0, .int .i64 0, .int .i64 0, .int .i64 0, .int .i64 0, .int .i64 0, .slice none 0 0] 36 (0, 0)) (by (with_reducible repeat first | apply bN_ | apply bD_ | apply bA_); exact a0.out) hb)
           have n1_ := Aside0.mk (lP_ (by repeat (first | (with_reducible first | exact HB.out | apply lA1_ | apply lN_ | apply lD_ | refine lS1_ ?_ a2.out) | exact HB.out)) hb)
           have n2_ := Aside0.mk (hbox)
           have n3_ := Aside0.mk ((by rw [hg]; exact (below_size (by repeat (first | (with_reducible first | exact HB.out | apply lA1_ | apply lN_ | apply lD_ | refine lS1_ ?_ a2.out) | exact HB.out))) : w.heap.size ≤ a5))
           have n4_ := Aside0.mk ((by rw [hg]; exact (below_size (by repeat (first | (with_reducible first | exact HB.out | apply lA1_ | apply lN_ | apply lD_ | refine lS1_ ?_ a2.out) | exact HB.out))) : w.heap.size ≤ a5))
           have n5_ := Aside0.mk ((by rw [hg]; exact Nat.ne_of_lt (blk_lt (g := a4) (o := .cells #[.int .i64 0, .int .i64 0, .int .i64 0, .int .i64 0, .int .i64 0, .int .i64 0, .int .i64 0, .slice none 0 0] 36 (0, 0)) (by (with_reducible repeat first | apply bN_ | apply bD_ | apply bA_); exact a0.out)) : a4 ≠ a5))
           have n6_ := Aside0.mk ((by rw [hg]; exact Nat.ne_of_gt (blk_lt (g := a4) (o := .cells #[.int .i64 0, .int .i64 0, .int .i64 0, .int .i64 0, .int .i64 0, .int .i64 0, .int .i64 0, .slice none 0 0] 36 (0, 0)) (by (with_reducible repeat first | apply bN_ | apply bD_ | apply bA_); exact a0.out)) : a5 ≠ a4))
           clear a0
           clear HB
           have a0 := n0_
           have HB := n1_
           have a3 := n2_
           have a1 := n3_
           have a7 := n4_
           have a6 := n5_
           have a8 := n6_
           clear n0_ n1_ n2_ n3_ n4_ n5_ n6_
           clear hb hbox hg
           refine hK.out _ _ ⟨((HB.out.cell (World.block_lt_of_cell? w _ hw402_0)).trans hw402_0), ((HB.out.cell (World.block_lt_of_cell? w _ hw403_0)).trans hw403_0)⟩ (fun hHeld => ?_)
           clear hK K
           refine norm_ (a' := ?_) ?_ ?_
           rotate_left
           ·show Act.put _ (some 4) _ = _
            simp only [Act.put, lA_, lZ_, lS_, i64_w, i32_w]
            rfl
           refine one_ (i := 3) (N := some 43) #[true, true, true, true, true, true, true, true, true, true, true, true, false, true, false] rfl rfl (one_of HT_.out (by kernel_rfl)) (by decide) (fun K hK => ?_)
           refine goes_ Try.func46 (by kernel_rfl) rfl #[.slice (some ad402) l0.length c0, .int .i64 16, .int .i64 4] (by rfl) rfl rfl (by (try simp only [List.map_toArray, List.map_cons, List.map_nil]); first | done | rfl | (simp only [List.length_drop, List.length_take]; rfl)) ?_
           with_reducible refine (spec_l1Take.calls kj1 _ _ l0 16 4 t401 _ ?side1 ?side2 b4.out).mono ?_
           (case side1 => repeat (first | exact (Kd.C_below a9.out HB.out) | (with_reducible refine Kd.C_alloc ?_ _) | (with_reducible refine Kd.C_drewN ?_ _) | (with_reducible refine Kd.C_drew ?_)))
           (case side2 => exact ac.out)
           rintro e w' ⟨rfl, ⟨nd, rfl⟩⟩
           refine ⟨_, rfl, ?_⟩
           refine hK.out _ _ ⟨((HB.out.cell (World.block_lt_of_cell? w _ hw402_0)).trans hw402_0), ((HB.out.cell (World.block_lt_of_cell? w _ hw403_0)).trans hw403_0)⟩ (fun hHeld => ?_)
           clear hK K
           refine norm_ (a' := ?_) ?_ ?_
           rotate_left
           ·show Act.put _ (some 43) _ = _
            simp only [Act.put, lA_, lZ_, lS_, i64_w, i32_w]
            rfl
           refine pure_ (i := 12) (N := some 52) (v := ?_) (a' := ?_) #[true, true, true, true, true, true, true, true, true, true, true, true, true, true, false] rfl rfl (any_of HT_.out (by kernel_rfl)) (fun _ _ _ h => h) (Or.inl ⟨by rfl, ?_⟩) ?_ ?_
           rotate_left
           ·intro w'
            go_simp
            with_reducible rfl
           rotate_left
           ·simp only [Act.put, lA_, lZ_, lS_, i64_w, i32_w]
            rfl
           exact norm_ (by simp only [putAll, Act.put, lA_, lZ_, lS_]) (hCont (a5) _ ⟨hHeld, (by (with_reducible repeat first | apply bN_ | apply bD_ | apply bA_); exact a0.out), (by (with_reducible repeat first | apply bN_ | apply bD_ | apply bA_); exact a3.out), a1.out, a7.out, a6.out, a8.out, (by repeat (first | (with_reducible first | exact HB.out | apply lA1_ | apply lN_ | apply lD_ | refine lS1_ ?_ a2.out | refine lS1_ ?_ a7.out) | exact HB.out))⟩)
         ·skip
          refine box_step ?hg (N := 4) ?hd (cs := #[.int .i64 0, .int .i64 0, .int .i64 0, .int .i64 0, .int .i64 0, .int .i64 0, .slice none 0 0]) (t := 34) ?hr ?_; (case hd => rfl); (case hg => rfl); (case hr => first | (go_simp; done) | (go_simp; rfl))
          intro a5 hg w28 hbox hb
          have n0_ := Aside0.mk (bB_ (g := a4) (o := .cells #[.int .i64 0, .int .i64 0, .int .i64 0, .int .i64 0, .int .i64 0, .int .i64 0, .int .i64 0, .slice none 0 0] 36 (0, 0)) (by (with_reducible repeat first | apply bN_ | apply bD_ | apply bA_); exact a0.out) hb)
          have n1_ := Aside0.mk (lP_ (by repeat (first | (with_reducible first | exact HB.out | apply lA1_ | apply lN_ | apply lD_ | refine lS1_ ?_ a2.out) | exact HB.out)) hb)
          have n2_ := Aside0.mk (hbox)
          have n3_ := Aside0.mk ((by rw [hg]; exact (below_size (by repeat (first | (with_reducible first | exact HB.out | apply lA1_ | apply lN_ | apply lD_ | refine lS1_ ?_ a2.out) | exact HB.out))) : w.heap.size ≤ a5))
          have n4_ := Aside0.mk ((by rw [hg]; exact (below_size (by repeat (first | (with_reducible first | exact HB.out | apply lA1_ | apply lN_ | apply lD_ | refine lS1_ ?_ a2.out) | exact HB.out))) : w.heap.size ≤ a5))
          have n5_ := Aside0.mk ((by rw [hg]; exact Nat.ne_of_lt (blk_lt (g := a4) (o := .cells #[.int .i64 0, .int .i64 0, .int .i64 0, .int .i64 0, .int .i64 0, .int .i64 0, .int .i64 0, .slice none 0 0] 36 (0, 0)) (by (with_reducible repeat first | apply bN_ | apply bD_ | apply bA_); exact a0.out)) : a4 ≠ a5))
          have n6_ := Aside0.mk ((by rw [hg]; exact Nat.ne_of_gt (blk_lt (g := a4) (o := .cells #[.int .i64 0, .int .i64 0, .int .i64 0, .int .i64 0, .int .i64 0, .int .i64 0, .int .i64 0, .slice none 0 0] 36 (0, 0)) (by (with_reducible repeat first | apply bN_ | apply bD_ | apply bA_); exact a0.out)) : a5 ≠ a4))
          clear a0
          clear HB
          have a0 := n0_
          have HB := n1_
          have a3 := n2_
          have a1 := n3_
          have a7 := n4_
          have a6 := n5_
          have a8 := n6_
          clear n0_ n1_ n2_ n3_ n4_ n5_ n6_
          clear hb hbox hg
          refine hK.out _ _ ⟨((HB.out.cell (World.block_lt_of_cell? w _ hw402_0)).trans hw402_0), ((HB.out.cell (World.block_lt_of_cell? w _ hw403_0)).trans hw403_0)⟩ (fun hHeld => ?_)
          clear hK K
          refine norm_ (a' := ?_) ?_ ?_
          rotate_left
          ·show Act.put _ (some 4) _ = _
           simp only [Act.put, lA_, lZ_, lS_, i64_w, i32_w]
           rfl
          refine one_ (i := 1) (N := some 41) #[true, true, true, false, true, true, true, true, true, true, true, true, false, true, false] rfl rfl (one_of HT_.out (by kernel_rfl)) (by decide) (fun K hK => ?_)
          refine goes_ Try.func46 (by kernel_rfl) rfl #[.slice (some ad402) l0.length c0, .int .i64 12, .int .i64 4] (by rfl) rfl rfl (by (try simp only [List.map_toArray, List.map_cons, List.map_nil]); first | done | rfl | (simp only [List.length_drop, List.length_take]; rfl)) ?_
          with_reducible refine (spec_l1Take.calls kj1 _ _ l0 12 4 t400 _ ?side1 ?side2 ca.out).mono ?_
          (case side1 => repeat (first | exact (Kd.C_below a9.out HB.out) | (with_reducible refine Kd.C_alloc ?_ _) | (with_reducible refine Kd.C_drewN ?_ _) | (with_reducible refine Kd.C_drew ?_)))
          (case side2 => exact ac.out)
          rintro e w' ⟨rfl, ⟨nd, rfl⟩⟩
          refine ⟨_, rfl, ?_⟩
          refine hK.out _ _ ⟨((HB.out.cell (World.block_lt_of_cell? w _ hw402_0)).trans hw402_0), ((HB.out.cell (World.block_lt_of_cell? w _ hw403_0)).trans hw403_0)⟩ (fun hHeld => ?_)
          clear hK K
          refine norm_ (a' := ?_) ?_ ?_
          rotate_left
          ·show Act.put _ (some 41) _ = _
           simp only [Act.put, lA_, lZ_, lS_, i64_w, i32_w]
           rfl
          refine one_ (i := 3) (N := some 43) #[true, true, true, true, true, true, true, true, true, true, true, true, false, true, false] rfl rfl (one_of HT_.out (by kernel_rfl)) (by decide) (fun K hK => ?_)
          refine goes_ Try.func46 (by kernel_rfl) rfl #[.slice (some ad402) l0.length c0, .int .i64 16, .int .i64 4] (by rfl) rfl rfl (by (try simp only [List.map_toArray, List.map_cons, List.map_nil]); first | done | rfl | (simp only [List.length_drop, List.length_take]; rfl)) ?_
          with_reducible refine (spec_l1Take.calls kj1 _ _ l0 16 4 t401 _ ?side1 ?side2 b4.out).mono ?_
          (case side1 => repeat (first | exact (Kd.C_below a9.out (by repeat (first | (with_reducible first | exact HB.out | apply lA1_ | apply lN_ | apply lD_ | refine lS1_ ?_ a2.out | refine lS1_ ?_ a7.out) | exact HB.out))) | (with_reducible refine Kd.C_alloc ?_ _) | (with_reducible refine Kd.C_drewN ?_ _) | (with_reducible refine Kd.C_drew ?_)))
          (case side2 => exact ac.out)
          rintro e w' ⟨rfl, ⟨nd, rfl⟩⟩
          refine ⟨_, rfl, ?_⟩
          refine hK.out _ _ ⟨((HB.out.cell (World.block_lt_of_cell? w _ hw402_0)).trans hw402_0), ((HB.out.cell (World.block_lt_of_cell? w _ hw403_0)).trans hw403_0)⟩ (fun hHeld => ?_)
          clear hK K
          refine norm_ (a' := ?_) ?_ ?_
          rotate_left
          ·show Act.put _ (some 43) _ = _
           simp only [Act.put, lA_, lZ_, lS_, i64_w, i32_w]
           rfl
          refine pure_ (i := 12) (N := some 52) (v := ?_) (a' := ?_) #[true, true, true, true, true, true, true, true, true, true, true, true, true, true, false] rfl rfl (any_of HT_.out (by kernel_rfl)) (fun _ _ _ h => h) (Or.inl ⟨by rfl, ?_⟩) ?_ ?_
          rotate_left
          ·intro w'
           go_simp
           with_reducible rfl
          rotate_left
          ·simp only [Act.put, lA_, lZ_, lS_, i64_w, i32_w]
           rfl
          exact norm_ (by simp only [putAll, Act.put, lA_, lZ_, lS_]) (hCont (a5) _ ⟨hHeld, (by (with_reducible repeat first | apply bN_ | apply bD_ | apply bA_); exact a0.out), (by (with_reducible repeat first | apply bN_ | apply bD_ | apply bA_); exact a3.out), a1.out, a7.out, a6.out, a8.out, (by repeat (first | (with_reducible first | exact HB.out | apply lA1_ | apply lN_ | apply lD_ | refine lS1_ ?_ a2.out | refine lS1_ ?_ a7.out) | exact HB.out))⟩)
        rintro a5 w29 ⟨hS_, h0_, h1_, h2_, h3_, h4_, h5_, h6_⟩
        have n0_ : Aside0 (w29.heap[a4]? = some (.cells #[.int .i64 0, .int .i64 0, .int .i64 0, .int .i64 0, .int .i64 0, .int .i64 0, .int .i64 0, .slice none 0 0] 36 (0, 0))) := ⟨h0_⟩
        have n1_ : Aside0 (w29.heap[a5]? = some (.cells #[.int .i64 0, .int .i64 0, .int .i64 0, .int .i64 0, .int .i64 0, .int .i64 0, .slice none 0 0] 34 (0, 0))) := ⟨h1_⟩
        have n2_ : Aside0 (w.heap.size ≤ a5) := ⟨h2_⟩
        have n3_ : Aside0 (w.heap.size ≤ a5) := ⟨h3_⟩
        have n4_ : Aside0 (a4 ≠ a5) := ⟨h4_⟩
        have n5_ : Aside0 (a5 ≠ a4) := ⟨h5_⟩
        have n6_ : Aside0 (Below w.heap.size w w29) := ⟨h6_⟩
        clear a0
        clear HB
        clear h0_ h1_ h2_ h3_ h4_ h5_ h6_
        have a0 := n0_
        have a3 := n1_
        have a1 := n2_
        have a7 := n3_
        have a6 := n4_
        have a8 := n5_
        have HB := n6_
        clear n0_ n1_ n2_ n3_ n4_ n5_ n6_
        have hHeld : w29.cell? ⟨ad402.block, ad402.off + 9, none⟩ = some (.int .u8 (rd l0 9)) ∧ w29.cell? ⟨ad402.block, ad402.off + 8, none⟩ = some (.int .u8 (rd l0 8)) := hS_
        refine norm_ (a' := ?_) ?_ ?_
        rotate_left
        ·simp only [putAll, Act.put, lA_, lZ_, lS_]
         rfl
        refine one_ (i := 14) (N := none) #[true, true, true, true, true, true, true, true, true, true, true, true, true, true, true] rfl rfl (one_of HT_.out (by kernel_rfl)) (by decide) (fun K hK => ?_)
        have hs30 : w29.cell? ⟨a5, 0, none⟩ = some (.int .i64 0) := (blk_cell a3.out 0).trans rfl
        have hfs30 := blk_frozen a3.out 0
        have hns30_0 := a6.out
        have hms30_0 := a8.out
        have hs31 : w29.cell? ⟨a5, 1, none⟩ = some (.int .i64 0) := (blk_cell a3.out 1).trans rfl
        have hfs31 := blk_frozen a3.out 1
        have hns31_0 := a6.out
        have hms31_0 := a8.out
        have hs32 : w29.cell? ⟨a5, 2, none⟩ = some (.int .i64 0) := (blk_cell a3.out 2).trans rfl
        have hfs32 := blk_frozen a3.out 2
        have hns32_0 := a6.out
        have hms32_0 := a8.out
        have hs33 : w29.cell? ⟨a5, 3, none⟩ = some (.int .i64 0) := (blk_cell a3.out 3).trans rfl
        have hfs33 := blk_frozen a3.out 3
        have hns33_0 := a6.out
        have hms33_0 := a8.out
        have hs34 : w29.cell? ⟨a5, 4, none⟩ = some (.int .i64 0) := (blk_cell a3.out 4).trans rfl
        have hfs34 := blk_frozen a3.out 4
        have hns34_0 := a6.out
        have hms34_0 := a8.out
        have hs35 : w29.cell? ⟨a5, 5, none⟩ = some (.int .i64 0) := (blk_cell a3.out 5).trans rfl
        have hfs35 := blk_frozen a3.out 5
        have hns35_0 := a6.out
        have hms35_0 := a8.out
        have hs36 : w29.cell? ⟨a5, 6, none⟩ = some (.slice none 0 0) := (blk_cell a3.out 6).trans rfl
        have hfs36 := blk_frozen a3.out 6
        have hns36_0 := a6.out
        have hms36_0 := a8.out
        refine skip_ (w1 := ?_) (by rfl) rfl ?_ ?_
        rotate_left
        ·go_simp
         rfl
        refine hK.out _ _ ⟨((cell_far (p := ⟨a5, _, none⟩) (by first | exact Nat.ne_of_lt (Nat.lt_of_lt_of_le (by have := World.block_lt_of_cell? _ _ hw402_0; first | rwa [add_block] at this | exact this) a1.out) | (rw [add_block]; exact Nat.ne_of_lt (Nat.lt_of_lt_of_le (by have := World.block_lt_of_cell? _ _ hw402_0; first | rwa [add_block] at this | exact this) a1.out)) | (show (Addr.add _ _).block ≠ _; rw [add_block]; exact Nat.ne_of_lt (Nat.lt_of_lt_of_le (by have := World.block_lt_of_cell? _ _ hw402_0; first | rwa [add_block] at this | exact this) a1.out)) | (dsimp only; exact Nat.ne_of_lt (Nat.lt_of_lt_of_le (by have := World.block_lt_of_cell? _ _ hw402_0; first | rwa [add_block] at this | exact this) a1.out))) _).trans (((cell_far (p := ⟨a5, _, none⟩) (by first | exact Nat.ne_of_lt (Nat.lt_of_lt_of_le (by have := World.block_lt_of_cell? _ _ hw402_0; first | rwa [add_block] at this | exact this) a1.out) | (rw [add_block]; exact Nat.ne_of_lt (Nat.lt_of_lt_of_le (by have := World.block_lt_of_cell? _ _ hw402_0; first | rwa [add_block] at this | exact this) a1.out)) | (show (Addr.add _ _).block ≠ _; rw [add_block]; exact Nat.ne_of_lt (Nat.lt_of_lt_of_le (by have := World.block_lt_of_cell? _ _ hw402_0; first | rwa [add_block] at this | exact this) a1.out)) | (dsimp only; exact Nat.ne_of_lt (Nat.lt_of_lt_of_le (by have := World.block_lt_of_cell? _ _ hw402_0; first | rwa [add_block] at this | exact this) a1.out))) _).trans (((cell_far (p := ⟨a5, _, none⟩) (by first | exact Nat.ne_of_lt (Nat.lt_of_lt_of_le (by have := World.block_lt_of_cell? _ _ hw402_0; first | rwa [add_block] at this | exact this) a1.out) | (rw [add_block]; exact Nat.ne_of_lt (Nat.lt_of_lt_of_le (by have := World.block_lt_of_cell? _ _ hw402_0; first | rwa [add_block] at this | exact this) a1.out)) | (show (Addr.add _ _).block ≠ _; rw [add_block]; exact Nat.ne_of_lt (Nat.lt_of_lt_of_le (by have := World.block_lt_of_cell? _ _ hw402_0; first | rwa [add_block] at this | exact this) a1.out)) | (dsimp only; exact Nat.ne_of_lt (Nat.lt_of_lt_of_le (by have := World.block_lt_of_cell? _ _ hw402_0; first | rwa [add_block] at this | exact this) a1.out))) _).trans (((cell_far (p := ⟨a5, _, none⟩) (by first | exact Nat.ne_of_lt (Nat.lt_of_lt_of_le (by have := World.block_lt_of_cell? _ _ hw402_0; first | rwa [add_block] at this | exact this) a1.out) | (rw [add_block]; exact Nat.ne_of_lt (Nat.lt_of_lt_of_le (by have := World.block_lt_of_cell? _ _ hw402_0; first | rwa [add_block] at this | exact this) a1.out)) | (show (Addr.add _ _).block ≠ _; rw [add_block]; exact Nat.ne_of_lt (Nat.lt_of_lt_of_le (by have := World.block_lt_of_cell? _ _ hw402_0; first | rwa [add_block] at this | exact this) a1.out)) | (dsimp only; exact Nat.ne_of_lt (Nat.lt_of_lt_of_le (by have := World.block_lt_of_cell? _ _ hw402_0; first | rwa [add_block] at this | exact this) a1.out))) _).trans (((cell_far (p := ⟨a5, _, none⟩) (by first | exact Nat.ne_of_lt (Nat.lt_of_lt_of_le (by have := World.block_lt_of_cell? _ _ hw402_0; first | rwa [add_block] at this | exact this) a1.out) | (rw [add_block]; exact Nat.ne_of_lt (Nat.lt_of_lt_of_le (by have := World.block_lt_of_cell? _ _ hw402_0; first | rwa [add_block] at this | exact this) a1.out)) | (show (Addr.add _ _).block ≠ _; rw [add_block]; exact Nat.ne_of_lt (Nat.lt_of_lt_of_le (by have := World.block_lt_of_cell? _ _ hw402_0; first | rwa [add_block] at this | exact this) a1.out)) | (dsimp only; exact Nat.ne_of_lt (Nat.lt_of_lt_of_le (by have := World.block_lt_of_cell? _ _ hw402_0; first | rwa [add_block] at this | exact this) a1.out))) _).trans (((cell_far (p := ⟨a5, _, none⟩) (by first | exact Nat.ne_of_lt (Nat.lt_of_lt_of_le (by have := World.block_lt_of_cell? _ _ hw402_0; first | rwa [add_block] at this | exact this) a1.out) | (rw [add_block]; exact Nat.ne_of_lt (Nat.lt_of_lt_of_le (by have := World.block_lt_of_cell? _ _ hw402_0; first | rwa [add_block] at this | exact this) a1.out)) | (show (Addr.add _ _).block ≠ _; rw [add_block]; exact Nat.ne_of_lt (Nat.lt_of_lt_of_le (by have := World.block_lt_of_cell? _ _ hw402_0; first | rwa [add_block] at this | exact this) a1.out)) | (dsimp only; exact Nat.ne_of_lt (Nat.lt_of_lt_of_le (by have := World.block_lt_of_cell? _ _ hw402_0; first | rwa [add_block] at this | exact this) a1.out))) _).trans (((cell_far (p := ⟨a5, _, none⟩) (by first | exact Nat.ne_of_lt (Nat.lt_of_lt_of_le (by have := World.block_lt_of_cell? _ _ hw402_0; first | rwa [add_block] at this | exact this) a1.out) | (rw [add_block]; exact Nat.ne_of_lt (Nat.lt_of_lt_of_le (by have := World.block_lt_of_cell? _ _ hw402_0; first | rwa [add_block] at this | exact this) a1.out)) | (show (Addr.add _ _).block ≠ _; rw [add_block]; exact Nat.ne_of_lt (Nat.lt_of_lt_of_le (by have := World.block_lt_of_cell? _ _ hw402_0; first | rwa [add_block] at this | exact this) a1.out)) | (dsimp only; exact Nat.ne_of_lt (Nat.lt_of_lt_of_le (by have := World.block_lt_of_cell? _ _ hw402_0; first | rwa [add_block] at this | exact this) a1.out))) _).trans (hHeld.1)))))))))))))), ((cell_far (p := ⟨a5, _, none⟩) (by first | exact Nat.ne_of_lt (Nat.lt_of_lt_of_le (by have := World.block_lt_of_cell? _ _ hw403_0; first | rwa [add_block] at this | exact this) a1.out) | (rw [add_block]; exact Nat.ne_of_lt (Nat.lt_of_lt_of_le (by have := World.block_lt_of_cell? _ _ hw403_0; first | rwa [add_block] at this | exact this) a1.out)) | (show (Addr.add _ _).block ≠ _; rw [add_block]; exact Nat.ne_of_lt (Nat.lt_of_lt_of_le (by have := World.block_lt_of_cell? _ _ hw403_0; first | rwa [add_block] at this | exact this) a1.out)) | (dsimp only; exact Nat.ne_of_lt (Nat.lt_of_lt_of_le (by have := World.block_lt_of_cell? _ _ hw403_0; first | rwa [add_block] at this | exact this) a1.out))) _).trans (((cell_far (p := ⟨a5, _, none⟩) (by first | exact Nat.ne_of_lt (Nat.lt_of_lt_of_le (by have := World.block_lt_of_cell? _ _ hw403_0; first | rwa [add_block] at this | exact this) a1.out) | (rw [add_block]; exact Nat.ne_of_lt (Nat.lt_of_lt_of_le (by have := World.block_lt_of_cell? _ _ hw403_0; first | rwa [add_block] at this | exact this) a1.out)) | (show (Addr.add _ _).block ≠ _; rw [add_block]; exact Nat.ne_of_lt (Nat.lt_of_lt_of_le (by have := World.block_lt_of_cell? _ _ hw403_0; first | rwa [add_block] at this | exact this) a1.out)) | (dsimp only; exact Nat.ne_of_lt (Nat.lt_of_lt_of_le (by have := World.block_lt_of_cell? _ _ hw403_0; first | rwa [add_block] at this | exact this) a1.out))) _).trans (((cell_far (p := ⟨a5, _, none⟩) (by first | exact Nat.ne_of_lt (Nat.lt_of_lt_of_le (by have := World.block_lt_of_cell? _ _ hw403_0; first | rwa [add_block] at this | exact this) a1.out) | (rw [add_block]; exact Nat.ne_of_lt (Nat.lt_of_lt_of_le (by have := World.block_lt_of_cell? _ _ hw403_0; first | rwa [add_block] at this | exact this) a1.out)) | (show (Addr.add _ _).block ≠ _; rw [add_block]; exact Nat.ne_of_lt (Nat.lt_of_lt_of_le (by have := World.block_lt_of_cell? _ _ hw403_0; first | rwa [add_block] at this | exact this) a1.out)) | (dsimp only; exact Nat.ne_of_lt (Nat.lt_of_lt_of_le (by have := World.block_lt_of_cell? _ _ hw403_0; first | rwa [add_block] at this | exact this) a1.out))) _).trans (((cell_far (p := ⟨a5, _, none⟩) (by first | exact Nat.ne_of_lt (Nat.lt_of_lt_of_le (by have := World.block_lt_of_cell? _ _ hw403_0; first | rwa [add_block] at this | exact this) a1.out) | (rw [add_block]; exact Nat.ne_of_lt (Nat.lt_of_lt_of_le (by have := World.block_lt_of_cell? _ _ hw403_0; first | rwa [add_block] at this | exact this) a1.out)) | (show (Addr.add _ _).block ≠ _; rw [add_block]; exact Nat.ne_of_lt (Nat.lt_of_lt_of_le (by have := World.block_lt_of_cell? _ _ hw403_0; first | rwa [add_block] at this | exact this) a1.out)) | (dsimp only; exact Nat.ne_of_lt (Nat.lt_of_lt_of_le (by have := World.block_lt_of_cell? _ _ hw403_0; first | rwa [add_block] at this | exact this) a1.out))) _).trans (((cell_far (p := ⟨a5, _, none⟩) (by first | exact Nat.ne_of_lt (Nat.lt_of_lt_of_le (by have := World.block_lt_of_cell? _ _ hw403_0; first | rwa [add_block] at this | exact this) a1.out) | (rw [add_block]; exact Nat.ne_of_lt (Nat.lt_of_lt_of_le (by have := World.block_lt_of_cell? _ _ hw403_0; first | rwa [add_block] at this | exact this) a1.out)) | (show (Addr.add _ _).block ≠ _; rw [add_block]; exact Nat.ne_of_lt (Nat.lt_of_lt_of_le (by have := World.block_lt_of_cell? _ _ hw403_0; first | rwa [add_block] at this | exact this) a1.out)) | (dsimp only; exact Nat.ne_of_lt (Nat.lt_of_lt_of_le (by have := World.block_lt_of_cell? _ _ hw403_0; first | rwa [add_block] at this | exact this) a1.out))) _).trans (((cell_far (p := ⟨a5, _, none⟩) (by first | exact Nat.ne_of_lt (Nat.lt_of_lt_of_le (by have := World.block_lt_of_cell? _ _ hw403_0; first | rwa [add_block] at this | exact this) a1.out) | (rw [add_block]; exact Nat.ne_of_lt (Nat.lt_of_lt_of_le (by have := World.block_lt_of_cell? _ _ hw403_0; first | rwa [add_block] at this | exact this) a1.out)) | (show (Addr.add _ _).block ≠ _; rw [add_block]; exact Nat.ne_of_lt (Nat.lt_of_lt_of_le (by have := World.block_lt_of_cell? _ _ hw403_0; first | rwa [add_block] at this | exact this) a1.out)) | (dsimp only; exact Nat.ne_of_lt (Nat.lt_of_lt_of_le (by have := World.block_lt_of_cell? _ _ hw403_0; first | rwa [add_block] at this | exact this) a1.out))) _).trans (((cell_far (p := ⟨a5, _, none⟩) (by first | exact Nat.ne_of_lt (Nat.lt_of_lt_of_le (by have := World.block_lt_of_cell? _ _ hw403_0; first | rwa [add_block] at this | exact this) a1.out) | (rw [add_block]; exact Nat.ne_of_lt (Nat.lt_of_lt_of_le (by have := World.block_lt_of_cell? _ _ hw403_0; first | rwa [add_block] at this | exact this) a1.out)) | (show (Addr.add _ _).block ≠ _; rw [add_block]; exact Nat.ne_of_lt (Nat.lt_of_lt_of_le (by have := World.block_lt_of_cell? _ _ hw403_0; first | rwa [add_block] at this | exact this) a1.out)) | (dsimp only; exact Nat.ne_of_lt (Nat.lt_of_lt_of_le (by have := World.block_lt_of_cell? _ _ hw403_0; first | rwa [add_block] at this | exact this) a1.out))) _).trans (hHeld.2))))))))))))))⟩ (fun hHeld => ?_)
        clear hK K
        refine done_ (done_of HT_.out (by kernel_rfl)) ?_
        go_upto_region 7 with (fail)
        go_cut [60] (fun v60 wc => ∃ (kq : Nat) (x60_24 : Bool), v60 = .bool x60_24 ∧ Aside0 (spec_ParsePacket.j1 kq l0 x60_24 t400 t401 (wrap64 (rd l0 9)) (wrap64 (rd l0 8)) 0 0 = some (r1, r2, r3, r4, r5, r6, r7, r8)) ∧ Aside0 (kq ≤ kj1) ∧ Aside0 (wc.heap[a4]? = some (.cells #[.int .i64 0, .int .i64 0, .int .i64 0, .int .i64 0, .int .i64 0, .int .i64 0, .int .i64 0, (.slice none 0 0)] 36 (0, 0))) ∧ Aside0 (wc.heap[a5]? = some (.cells #[.int .i64 t400, .int .i64 t401, .int .i64 (wrap64 (rd l0 9)), .int .i64 (wrap64 (rd l0 8)), .int .i64 0, .int .i64 0, (.slice none 0 0)] 34 (0, 0))) ∧ Aside0 (Below w.heap.size w wc))
        case first =>
         have H := ak.out
         clear ak
         by_cases c37 : (wrap64 (rd l0 8)) = 0
         ·rw [if_pos c37] at H
          have c37b0 : ((wrap64 (rd l0 8)) == 0) = true := beq_iff_eq.mpr c37
          have c37b1 : ((wrap64 (rd l0 8)) != 0) = false := bne_eq_false_iff_eq.mpr c37
          clear c37
          (first | rw [c37b0] | (simp only [i64_w, i32_w]; rw [c37b0]) | skip)
          have H' := Aside0.mk H
          clear H
          have cx := a8.out
          have cy := a6.out
          obtain ⟨_, _, _, _, _, _, _, _, _, _, _, _, _, _⟩ := bc7 a3.out
          go_wp2
          go_meet
          case rel => exact ⟨_, (true), (by first | rfl | (simp; done) | (simp [*]; done)), H', ⟨by have := HJ1.out; first | omega | exact Nat.le_refl _⟩, ⟨by (iterate 7 ((with_reducible repeat first | apply bN_ | apply bD_ | apply bA_); refine bF_ ?_ a6.out _)); (with_reducible repeat first | apply bN_ | apply bD_ | apply bA_); exact a0.out⟩, ⟨by (with_reducible repeat first | apply bN_ | apply bD_ | apply bA_); apply fill7; (with_reducible repeat first | apply bN_ | apply bD_ | apply bA_); exact a3.out⟩, ⟨by repeat (first | (with_reducible first | exact HB.out | apply lA1_ | apply lN_ | apply lD_ | refine lS1_ ?_ a2.out | refine lS1_ ?_ a7.out) | exact HB.out)⟩⟩
         ·rw [if_neg c37] at H
          have c37b0 : ((wrap64 (rd l0 8)) == 0) = false := beq_eq_false_iff_ne.mpr c37
          have c37b1 : ((wrap64 (rd l0 8)) != 0) = true := bne_iff_ne.mpr c37
          (first | rw [c37b0] | (simp only [i64_w, i32_w]; rw [c37b0]) | skip)
          have H' := Aside0.mk H
          clear H
          have cz := a8.out
          have d0 := a6.out
          obtain ⟨_, _, _, _, _, _, _, _, _, _, _, _, _, _⟩ := bc7 a3.out
          go_wp2
          go_meet
          case rel => exact ⟨_, (((wrap64 (rd l0 9)) == 0)), (by first | rfl | (simp; done) | (simp [*]; done)), H', ⟨by have := HJ1.out; first | omega | exact Nat.le_refl _⟩, ⟨by (iterate 7 ((with_reducible repeat first | apply bN_ | apply bD_ | apply bA_); refine bF_ ?_ a6.out _)); (with_reducible repeat first | apply bN_ | apply bD_ | apply bA_); exact a0.out⟩, ⟨by (with_reducible repeat first | apply bN_ | apply bD_ | apply bA_); apply fill7; (with_reducible repeat first | apply bN_ | apply bD_ | apply bA_); exact a3.out⟩, ⟨by repeat (first | (with_reducible first | exact HB.out | apply lA1_ | apply lN_ | apply lD_ | refine lS1_ ?_ a2.out | refine lS1_ ?_ a7.out) | exact HB.out)⟩⟩
        case rest =>
         clear ak
         try clear c1
         try clear c2
         try clear p2
         try clear c3
         try clear p3
         try clear q3
         try clear hx3
         try clear qi3
         try clear c4
         try clear p4
         try clear q4
         try clear hx4
         try clear qi4
         try clear c5
         try clear c6
         try clear c6b0
         try clear c6b1
         try clear p6
         try clear c7
         try clear c7b0
         try clear c7b1
         try clear c8
         try clear c8b0
         try clear c8b1
         try clear c9
         try clear c9b0
         try clear c9b1
         try clear c11
         try clear c11b0
         try clear c11b1
         try clear c13
         try clear c18
         try clear c18b0
         try clear c18b1
         try clear c20
         try clear c23
         try clear c23b0
         try clear c23b1
         try clear c24
         try clear c24b0
         try clear c24b1
         try clear c37
         try clear c37b0
         try clear c37b1
         try clear p37
         try clear q37
         try clear hx37
         try clear qi37
         try clear c38
         try clear c40
         try clear p40
         try clear q40
         try clear hx40
         try clear qi40
         try clear hcz16_0
         try clear hcz16_1
         try clear hcz16_2
         try clear hcz16_3
         try clear hcz16_4
         try clear hcz16_5
         try clear hcz16_6
         try clear hcz16_7
         try clear hcz39_0
         try clear hcz39_1
         try clear hcz39_2
         try clear hcz39_3
         try clear hcz39_4
         try clear hcz39_5
         try clear hcz39_6
         try clear hcz41_0
         try clear hcz41_1
         try clear hcz41_2
         try clear hcz41_3
         try clear hcz41_4
         try clear hcz41_5
         try clear hcz41_6
         try clear hfz16_0
         try clear hfz16_1
         try clear hfz16_2
         try clear hfz16_3
         try clear hfz16_4
         try clear hfz16_5
         try clear hfz16_6
         try clear hfz16_7
         try clear hfz39_0
         try clear hfz39_1
         try clear hfz39_2
         try clear hfz39_3
         try clear hfz39_4
         try clear hfz39_5
         try clear hfz39_6
         try clear hfz41_0
         try clear hfz41_1
         try clear hfz41_2
         try clear hfz41_3
         try clear hfz41_4
         try clear hfz41_5
         try clear hfz41_6
         try clear hx374_0
         try clear hx375_0
         try clear hx402_0
         try clear hx403_0
         try clear p2
         try clear p3
         try clear p374
         try clear p375
         try clear p402
         try clear p403
         try clear q3
         try clear q374
         try clear q375
         try clear q402
         try clear q403
         obtain ⟨kq, x60_24, rfl, HA, HJ24, a0, a3, HB⟩ := hcut
         cases kq with
         | zero => exact absurd HA.out (by simp [spec_ParsePacket.j1])
         | succ kj24 =>
          have H := HA.out
          clear HA
          simp only [spec_ParsePacket.j1] at H
          try rw [← hp_pv_.out] at H
          try rw [← hp_qv_.out] at H
          by_cases c42 : x60_24 = true
          ·subst c42
           rw [if_pos rfl] at H
           replace H := Option.bind_eq_some_iff.mp H
           obtain ⟨⟨t405, t406, t407, t408, t409, t410, t411, t412⟩, b5, H⟩ := H
           try dsimp only at H
           have cr := Aside0.mk b5
           clear b5
           simp only [Option.some.injEq, Prod.mk.injEq] at H
           obtain ⟨rfl, rfl, rfl, rfl, rfl, rfl, rfl, rfl⟩ := H
           go_wp2_with (first | ((with_reducible refine gate_callee (f := 53) rfl ?_); refine goesA_ (some 61) rfl rfl Try.func53 (by kernel_rfl) rfl #[.int .i64 3] rfl ?_; (with_reducible refine (spec_l2Bad.calls 3 t405 t406 t407 t408 t409 t410 t411 t412 _ cr.out).mono ?_); rintro e w44 ⟨v413, rfl, ho0, hb⟩; refine ⟨_, rfl, ?_⟩; have n0_ := Aside0.mk (Kd.R_lower ho0 (below_size (by repeat (first | (with_reducible first | exact HB.out | apply lA1_ | apply lN_ | apply lD_ | refine lS1_ ?_ a2.out | refine lS1_ ?_ a7.out) | exact HB.out)))); have n1_ := Aside0.mk (bB_ (g := a4) (o := .cells #[.int .i64 0, .int .i64 0, .int .i64 0, .int .i64 0, .int .i64 0, .int .i64 0, .int .i64 0, .slice none 0 0] 36 (0, 0)) (by (with_reducible repeat first | apply bN_ | apply bD_ | apply bA_); exact a0.out) hb); have n3_ := Aside0.mk (lP_ (by repeat (first | (with_reducible first | exact HB.out | apply lA1_ | apply lN_ | apply lD_ | refine lS1_ ?_ a2.out | refine lS1_ ?_ a7.out) | exact HB.out)) hb); clear a0 HB; have am := n0_; have a0 := n1_; have HB := n3_; clear n0_ n1_ n3_; (try clear hb); (try clear hb2); (try clear hk); (try clear hi); (try clear ho0); have d1 := a6.out; have d2 := a8.out; obtain ⟨_, _, _, _, _, _, _, _, _, _, _, _, _, _, _, _⟩ := bc8 a0.out; obtain ⟨cf, cg, eo47⟩ := Kd.R_slice am.out; subst eo47))
           refine bodyPost_ret (results_cell_row rfl _ _ a4 36 #[.int .i64 t405, .int .i64 t406, .int .i64 t407, .int .i64 t408, .int .i64 t409, .int .i64 t410, .int .i64 t411, .slice cf t412.length cg] (0, 0) _ rfl (by (with_reducible repeat first | apply bN_ | apply bD_ | apply bA_); apply fill8; (with_reducible repeat first | apply bN_ | apply bD_ | apply bA_); exact a0.out) Try.underlying36 rfl (by kernel_rfl)) rfl ?_
           exact ⟨_, by first | rfl | (simp [errW_none, errW_some] <;> rfl) | (simp [*, errW_none, errW_some] <;> rfl), by (with_reducible repeat first | apply rA_ | apply rN_ | apply rD_); exact Kd.R_mono (rfar8 (g := a4) (Kd.R_types am.out a0.out (by decide)) (fun _ hk => hk.2)) (fun _ hk => trivial), by repeat (first | (with_reducible first | exact HB.out | apply lA1_ | apply lN_ | apply lD_ | refine lS1_ ?_ a2.out | refine lS1_ ?_ a7.out) | exact HB.out)⟩
          ·replace c42 := Bool.eq_false_iff.mpr c42
           subst c42
           rw [if_neg (show ¬ (false = true) by decide)] at H
           by_cases c48 : 20 ≤ (l0.length : Int)
           ·rw [if_pos c48] at H
            have c48b0 := eq_true c48
            have c48b1 : decide (20 ≤ (l0.length : Int)) = true := decide_eq_true c48
            clear c48
            replace H := Option.bind_eq_some_iff.mp H
            obtain ⟨t416, b6, H⟩ := H
            try dsimp only at H
            have aj := Aside0.mk b6
            clear b6
            by_cases c50 : t416 = true
            ·subst c50
             rw [if_pos rfl] at H
             by_cases c51 : (pv_.length : Int) < 4
             ·rw [if_pos c51] at H
              have c51b0 : decide ((pv_.length : Int) < 4) = true := decide_eq_true c51
              have c51b1 : decide (pv_.length < 4) = true := decide_eq_true (by omega)
              clear c51
              replace H := Option.bind_eq_some_iff.mp H
              obtain ⟨⟨t417, t418, t419, t420, t421, t422, t423, t424⟩, b7, H⟩ := H
              try dsimp only at H
              have ct := Aside0.mk b7
              clear b7
              simp only [Option.some.injEq, Prod.mk.injEq] at H
              obtain ⟨rfl, rfl, rfl, rfl, rfl, rfl, rfl, rfl⟩ := H
              obtain ⟨i053, hi053, _, hsz53, _⟩ := info_parts info5
              obtain ⟨dd, b8, hA53, hC53⟩ := print_drop_of (P := Try.prog) (Value.int .u8) 0 22 5 .i64 Try.underlying22 hi053 hsz53 (some ad402) c0 l0 20 (by omega) (of_decide_eq_true (by first | (with_reducible assumption) | assumption)) ac.out
              simp only [Int.reduceToNat, ← hp_pv_.out] at b8 hA53 hC53
              have aa := Aside0.mk (Kd.C_of_reads (h1 := fun _ => rfl) (hA53 _ (Kd.reads_of_C a9.out)))
              have ab := Aside0.mk hC53
              clear hA53 hC53 hi053 hsz53
              have d3 := a8.out
              have d4 := a6.out
              obtain ⟨_, _, _, _, _, _, _, _, _, _, _, _, _, _⟩ := bc7 a3.out
              go_wp2_with (first | ((with_reducible refine gate_callee (f := 55) rfl ?_); refine goesA_ (some 66) rfl rfl Try.func55 (by kernel_rfl) rfl #[.int .i64 (wrap64 (rd l0 9))] rfl ?_; (with_reducible refine (spec_HasPorts.calls (wrap64 (rd l0 9)) true _ aj.out).mono ?_); rintro e w' ⟨rfl, ⟨nd, rfl⟩⟩; refine ⟨_, rfl, ?_⟩; (try (rw [drewN_self wc]; generalize hq_ : World.drewN wc _ = wc; have n0_ : Aside0 (wc.heap[a4]? = some (.cells #[.int .i64 0, .int .i64 0, .int .i64 0, .int .i64 0, .int .i64 0, .int .i64 0, .int .i64 0, .slice none 0 0] 36 (0, 0))) := ⟨by rw [← hq_]; exact (by (with_reducible repeat first | apply bN_ | apply bD_ | apply bA_); exact a0.out)⟩; have n1_ : Aside0 (wc.heap[a5]? = some (.cells #[.int .i64 t400, .int .i64 t401, .int .i64 (wrap64 (rd l0 9)), .int .i64 (wrap64 (rd l0 8)), .int .i64 0, .int .i64 0, .slice none 0 0] 34 (0, 0))) := ⟨by rw [← hq_]; exact (by (with_reducible repeat first | apply bN_ | apply bD_ | apply bA_); exact a3.out)⟩; have n2_ : Aside0 (Below w.heap.size w wc) := ⟨by rw [← hq_]; exact (by repeat (first | (with_reducible first | exact HB.out | apply lA1_ | apply lN_ | apply lD_ | refine lS1_ ?_ a2.out | refine lS1_ ?_ a7.out) | exact HB.out))⟩; clear a0 a3 HB hq_; have a0 := n0_; have a3 := n1_; have HB := n2_; clear n0_ n1_ n2_))) | ((with_reducible refine gate_callee (f := 53) rfl ?_); refine goesA_ (some 70) rfl rfl Try.func53 (by kernel_rfl) rfl #[.int .i64 5] rfl ?_; (with_reducible refine (spec_l2Bad.calls 5 t417 t418 t419 t420 t421 t422 t423 t424 _ ct.out).mono ?_); rintro e w56 ⟨v425, rfl, ho0, hb⟩; refine ⟨_, rfl, ?_⟩; have n0_ := Aside0.mk (Kd.R_lower ho0 (below_size (by repeat (first | (with_reducible first | exact HB.out | apply lA1_ | apply lN_ | apply lD_ | refine lS1_ ?_ a2.out | refine lS1_ ?_ a7.out) | exact HB.out)))); have n1_ := Aside0.mk (bB_ (g := a4) (o := .cells #[.int .i64 0, .int .i64 0, .int .i64 0, .int .i64 0, .int .i64 0, .int .i64 0, .int .i64 0, .slice none 0 0] 36 (0, 0)) (by (with_reducible repeat first | apply bN_ | apply bD_ | apply bA_); exact a0.out) hb); have n3_ := Aside0.mk (lP_ (by repeat (first | (with_reducible first | exact HB.out | apply lA1_ | apply lN_ | apply lD_ | refine lS1_ ?_ a2.out | refine lS1_ ?_ a7.out) | exact HB.out)) hb); clear a0 HB; have an := n0_; have a0 := n1_; have HB := n3_; clear n0_ n1_ n3_; (try clear hb); (try clear hb2); (try clear hk); (try clear hi); (try clear ho0); obtain ⟨_, _, _, _, _, _, _, _, _, _, _, _, _, _, _, _⟩ := bc8 a0.out; obtain ⟨ch, ci, eo58⟩ := Kd.R_slice an.out; subst eo58))
              refine bodyPost_ret (results_cell_row rfl _ _ a4 36 #[.int .i64 t417, .int .i64 t418, .int .i64 t419, .int .i64 t420, .int .i64 t421, .int .i64 t422, .int .i64 t423, .slice ch t424.length ci] (0, 0) _ rfl (by (with_reducible repeat first | apply bN_ | apply bD_ | apply bA_); apply fill8; (with_reducible repeat first | apply bN_ | apply bD_ | apply bA_); exact a0.out) Try.underlying36 rfl (by kernel_rfl)) rfl ?_
              exact ⟨_, by first | rfl | (simp [errW_none, errW_some] <;> rfl) | (simp [*, errW_none, errW_some] <;> rfl), by (with_reducible repeat first | apply rA_ | apply rN_ | apply rD_); exact Kd.R_mono (rfar8 (g := a4) (Kd.R_types an.out a0.out (by decide)) (fun _ hk => hk.2)) (fun _ hk => trivial), by repeat (first | (with_reducible first | exact HB.out | apply lA1_ | apply lN_ | apply lD_ | refine lS1_ ?_ a2.out | refine lS1_ ?_ a7.out) | exact HB.out)⟩
             ·rw [if_neg c51] at H
              have c51b0 : decide ((pv_.length : Int) < 4) = false := decide_eq_false c51
              have c51b1 : decide (pv_.length < 4) = false := decide_eq_false (by omega)
              clear c51
              replace H := Option.bind_eq_some_iff.mp H
              obtain ⟨t427, b9, H⟩ := H
              try dsimp only at H
              have cb := Aside0.mk b9
              clear b9
              replace H := Option.bind_eq_some_iff.mp H
              obtain ⟨t428, ba, H⟩ := H
              try dsimp only at H
              have cc := Aside0.mk ba
              clear ba
              by_cases c61 : 4 ≤ (pv_.length : Int)
              ·rw [if_pos c61] at H
               have c61b0 := eq_true c61
               have c61b1 : decide (4 ≤ (pv_.length : Int)) = true := decide_eq_true c61
               clear c61
               by_cases c62 : (qv_.length : Int) > 200
               ·rw [if_pos c62] at H
                have c62b0 : decide (200 < (qv_.length : Int)) = true := decide_eq_true c62
                have c62b1 : decide (200 < qv_.length) = true := decide_eq_true (by omega)
                clear c62
                replace H := Option.bind_eq_some_iff.mp H
                obtain ⟨⟨t430, t431, t432, t433, t434, t435, t436, t437⟩, bb, H⟩ := H
                try dsimp only at H
                have cu := Aside0.mk bb
                clear bb
                simp only [Option.some.injEq, Prod.mk.injEq] at H
                obtain ⟨rfl, rfl, rfl, rfl, rfl, rfl, rfl, rfl⟩ := H
                obtain ⟨i064, hi064, _, hsz64, _⟩ := info_parts info5
                obtain ⟨bc, bd, hA64, hC64⟩ := print_drop_of (P := Try.prog) (Value.int .u8) 0 22 5 .i64 Try.underlying22 hi064 hsz64 (some ad402) c0 l0 20 (by omega) (of_decide_eq_true (by first | (with_reducible assumption) | assumption)) ac.out
                simp only [Int.reduceToNat, ← hp_pv_.out] at bd hA64 hC64
                have aa := Aside0.mk (Kd.C_of_reads (h1 := fun _ => rfl) (hA64 _ (Kd.reads_of_C a9.out)))
                have ab := Aside0.mk hC64
                clear hA64 hC64 hi064 hsz64
                have d5 := a8.out
                have d6 := a6.out
                obtain ⟨_, _, _, _, _, _, _, _, _, _, _, _, _, _⟩ := bc7 a3.out
                go_wp2_with (first | ((with_reducible refine gate_callee (f := 55) rfl ?_); refine goesA_ (some 66) rfl rfl Try.func55 (by kernel_rfl) rfl #[.int .i64 (wrap64 (rd l0 9))] rfl ?_; (with_reducible refine (spec_HasPorts.calls (wrap64 (rd l0 9)) true _ aj.out).mono ?_); rintro e w' ⟨rfl, ⟨nd, rfl⟩⟩; refine ⟨_, rfl, ?_⟩) | ((with_reducible refine gate_callee (f := 46) rfl ?_); refine goesL_ (some 72) rfl rfl Try.func46 (by kernel_rfl) rfl #[.slice bc pv_.length (c0 - 20), .int .i64 0, .int .i64 2] rfl (by (try simp only [List.map_toArray, List.map_cons, List.map_nil]); first | done | (rw [show pv_.length = pv_.length from rfl] <;> rfl) | rfl | (simp only [List.length_drop, List.length_take]; rfl)) ?_; (with_reducible refine (spec_l1Take.calls kj24 _ _ pv_ 0 2 t427 _ ?side1 ?side2 cb.out).mono ?_); (case side1 => repeat (first | exact (Kd.C_below aa.out HB.out) | (with_reducible refine Kd.C_alloc ?_ _) | (with_reducible refine Kd.C_drewN ?_ _) | (with_reducible refine Kd.C_drew ?_))); (case side2 => exact ab.out); rintro e w' ⟨rfl, ⟨nd, rfl⟩⟩; refine ⟨_, rfl, ?_⟩) | ((with_reducible refine gate_callee (f := 46) rfl ?_); refine goesL_ (some 75) rfl rfl Try.func46 (by kernel_rfl) rfl #[.slice bc pv_.length (c0 - 20), .int .i64 2, .int .i64 2] rfl (by (try simp only [List.map_toArray, List.map_cons, List.map_nil]); first | done | (rw [show pv_.length = pv_.length from rfl] <;> rfl) | rfl | (simp only [List.length_drop, List.length_take]; rfl)) ?_; (with_reducible refine (spec_l1Take.calls kj24 _ _ pv_ 2 2 t428 _ ?side1 ?side2 cc.out).mono ?_); (case side1 => exact Kd.C_below aa.out (by repeat (first | (with_reducible first | exact HB.out | apply lA1_ | apply lN_ | apply lD_ | refine lS1_ ?_ a2.out | refine lS1_ ?_ a7.out) | exact HB.out))); (case side2 => exact ab.out); rintro e w' ⟨rfl, ⟨nd, rfl⟩⟩; refine ⟨_, rfl, ?_⟩; obtain ⟨i067, hi067, _, hsz67, _⟩ := info_parts info5; obtain ⟨de, be, hA67, hC67⟩ := print_drop_of (P := Try.prog) (Value.int .u8) 0 22 5 .i64 Try.underlying22 hi067 hsz67 bc (c0 - 20) pv_ 4 (by omega) (of_decide_eq_true (by first | (with_reducible assumption) | assumption)) ab.out; simp only [Int.reduceToNat, ← hp_qv_.out] at be hA67 hC67; have ai := Aside0.mk (Kd.C_of_reads (h1 := fun _ => rfl) (hA67 _ (Kd.reads_of_C aa.out))); have bp := Aside0.mk hC67; clear hA67 hC67 hi067 hsz67) | ((with_reducible refine gate_callee (f := 53) rfl ?_); refine goesA_ (some 82) rfl rfl Try.func53 (by kernel_rfl) rfl #[.int .i64 2] rfl ?_; (with_reducible refine (spec_l2Bad.calls 2 t430 t431 t432 t433 t434 t435 t436 t437 _ cu.out).mono ?_); rintro e w68 ⟨v438, rfl, ho0, hb⟩; refine ⟨_, rfl, ?_⟩; have n0_ := Aside0.mk (Kd.R_lower ho0 (below_size (by repeat (first | (with_reducible first | exact HB.out | apply lA1_ | apply lN_ | apply lD_ | refine lS1_ ?_ a2.out | refine lS1_ ?_ a7.out) | exact HB.out)))); have n1_ := Aside0.mk (bB_ (g := a4) (o := .cells #[.int .i64 0, .int .i64 0, .int .i64 0, .int .i64 0, .int .i64 0, .int .i64 0, .int .i64 0, .slice none 0 0] 36 (0, 0)) (by (iterate 2 ((with_reducible repeat first | apply bN_ | apply bD_ | apply bA_); refine bF_ ?_ a6.out _)); (with_reducible repeat first | apply bN_ | apply bD_ | apply bA_); exact a0.out) hb); have n3_ := Aside0.mk (lP_ (by repeat (first | (with_reducible first | exact HB.out | apply lA1_ | apply lN_ | apply lD_ | refine lS1_ ?_ a2.out | refine lS1_ ?_ a7.out) | exact HB.out)) hb); clear a0 HB; have ao := n0_; have a0 := n1_; have HB := n3_; clear n0_ n1_ n3_; (try clear hb); (try clear hb2); (try clear hk); (try clear hi); (try clear ho0); obtain ⟨_, _, _, _, _, _, _, _, _, _, _, _, _, _, _, _⟩ := bc8 a0.out; obtain ⟨cj, ck, eo70⟩ := Kd.R_slice ao.out; subst eo70))
                refine bodyPost_ret (results_cell_row rfl _ _ a4 36 #[.int .i64 t430, .int .i64 t431, .int .i64 t432, .int .i64 t433, .int .i64 t434, .int .i64 t435, .int .i64 t436, .slice cj t437.length ck] (0, 0) _ rfl (by (with_reducible repeat first | apply bN_ | apply bD_ | apply bA_); apply fill8; (with_reducible repeat first | apply bN_ | apply bD_ | apply bA_); exact a0.out) Try.underlying36 rfl (by kernel_rfl)) rfl ?_
                exact ⟨_, by first | rfl | (simp [errW_none, errW_some] <;> rfl) | (simp [*, errW_none, errW_some] <;> rfl), by (with_reducible repeat first | apply rA_ | apply rN_ | apply rD_); exact Kd.R_mono (rfar8 (g := a4) (Kd.R_types ao.out a0.out (by decide)) (fun _ hk => hk.2)) (fun _ hk => trivial), by repeat (first | (with_reducible first | exact HB.out | apply lA1_ | apply lN_ | apply lD_ | refine lS1_ ?_ a2.out | refine lS1_ ?_ a7.out) | exact HB.out)⟩
               ·rw [if_neg c62] at H
                have c62b0 : decide (200 < (qv_.length : Int)) = false := decide_eq_false c62
                have c62b1 : decide (200 < qv_.length) = false := decide_eq_false (by omega)
                clear c62
                obtain ⟨y440, hy440⟩ : ∃ y_ : List Int, y_ = (([] : List Int)) := ⟨_, rfl⟩
                replace H : (if y440.length + qv_.length < 140737488355328 then (some (0, t400, t401, (wrap64 (rd l0 9)), (wrap64 (rd l0 8)), t427, t428, (y440 ++ qv_))) else (none)) = some (r1, r2, r3, r4, r5, r6, r7, r8) := by first | (rw [hy440]; with_reducible exact H) | (have H2_ := (Option.bind_some _ _).symm.trans H; rw [hy440]; with_reducible exact H2_) | (have H2_ := (Option.bind_some _ _).symm.trans H; with_reducible exact H2_) | with_reducible exact H | (rw [hy440]; exact H) | exact H
                have ap := Aside0.mk hy440
                clear hy440
                by_cases c71 : y440.length + qv_.length < 140737488355328
                ·rw [if_pos c71] at H
                 have bq := Aside0.mk c71
                 clear c71
                 obtain ⟨y443, hy443⟩ : ∃ y_ : List Int, y_ = (y440 ++ qv_) := ⟨_, rfl⟩
                 replace H : (some (0, t400, t401, (wrap64 (rd l0 9)), (wrap64 (rd l0 8)), t427, t428, y443)) = some (r1, r2, r3, r4, r5, r6, r7, r8) := by first | (rw [hy443]; with_reducible exact H) | (have H2_ := (Option.bind_some _ _).symm.trans H; rw [hy443]; with_reducible exact H2_) | (have H2_ := (Option.bind_some _ _).symm.trans H; with_reducible exact H2_) | with_reducible exact H | (rw [hy443]; exact H) | exact H
                 have br := Aside0.mk hy443
                 clear hy443
                 simp only [Option.some.injEq, Prod.mk.injEq] at H
                 obtain ⟨rfl, rfl, rfl, rfl, rfl, rfl, rfl, rfl⟩ := H
                 obtain ⟨i072, hi072, _, hsz72, _⟩ := info_parts info5
                 obtain ⟨bf, bg, hA72, hC72⟩ := print_drop_of (P := Try.prog) (Value.int .u8) 0 22 5 .i64 Try.underlying22 hi072 hsz72 (some ad402) c0 l0 20 (by omega) (of_decide_eq_true (by first | (with_reducible assumption) | assumption)) ac.out
                 simp only [Int.reduceToNat, ← hp_pv_.out] at bg hA72 hC72
                 have aa := Aside0.mk (Kd.C_of_reads (h1 := fun _ => rfl) (hA72 _ (Kd.reads_of_C a9.out)))
                 have ab := Aside0.mk hC72
                 clear hA72 hC72 hi072 hsz72
                 have d7 := a8.out
                 have d8 := a6.out
                 obtain ⟨_, _, _, _, _, _, _, _, _, _, _, _, _, _⟩ := bc7 a3.out
                 go_wp2_with (first | ((with_reducible refine gate_callee (f := 55) rfl ?_); refine goesA_ (some 66) rfl rfl Try.func55 (by kernel_rfl) rfl #[.int .i64 (wrap64 (rd l0 9))] rfl ?_; (with_reducible refine (spec_HasPorts.calls (wrap64 (rd l0 9)) true _ aj.out).mono ?_); rintro e w' ⟨rfl, ⟨nd, rfl⟩⟩; refine ⟨_, rfl, ?_⟩) | ((with_reducible refine gate_callee (f := 46) rfl ?_); refine goesL_ (some 72) rfl rfl Try.func46 (by kernel_rfl) rfl #[.slice bf pv_.length (c0 - 20), .int .i64 0, .int .i64 2] rfl (by (try simp only [List.map_toArray, List.map_cons, List.map_nil]); first | done | (rw [show pv_.length = pv_.length from rfl] <;> rfl) | rfl | (simp only [List.length_drop, List.length_take]; rfl)) ?_; (with_reducible refine (spec_l1Take.calls kj24 _ _ pv_ 0 2 t427 _ ?side1 ?side2 cb.out).mono ?_); (case side1 => repeat (first | exact (Kd.C_below aa.out HB.out) | (with_reducible refine Kd.C_alloc ?_ _) | (with_reducible refine Kd.C_drewN ?_ _) | (with_reducible refine Kd.C_drew ?_))); (case side2 => exact ab.out); rintro e w' ⟨rfl, ⟨nd, rfl⟩⟩; refine ⟨_, rfl, ?_⟩) | ((with_reducible refine gate_callee (f := 46) rfl ?_); refine goesL_ (some 75) rfl rfl Try.func46 (by kernel_rfl) rfl #[.slice bf pv_.length (c0 - 20), .int .i64 2, .int .i64 2] rfl (by (try simp only [List.map_toArray, List.map_cons, List.map_nil]); first | done | (rw [show pv_.length = pv_.length from rfl] <;> rfl) | rfl | (simp only [List.length_drop, List.length_take]; rfl)) ?_; (with_reducible refine (spec_l1Take.calls kj24 _ _ pv_ 2 2 t428 _ ?side1 ?side2 cc.out).mono ?_); (case side1 => exact Kd.C_below aa.out (by repeat (first | (with_reducible first | exact HB.out | apply lA1_ | apply lN_ | apply lD_ | refine lS1_ ?_ a2.out | refine lS1_ ?_ a7.out) | exact HB.out))); (case side2 => exact ab.out); rintro e w' ⟨rfl, ⟨nd, rfl⟩⟩; refine ⟨_, rfl, ?_⟩; obtain ⟨i075, hi075, _, hsz75, _⟩ := info_parts info5; obtain ⟨df, bh, hA75, hC75⟩ := print_drop_of (P := Try.prog) (Value.int .u8) 0 22 5 .i64 Try.underlying22 hi075 hsz75 bf (c0 - 20) pv_ 4 (by omega) (of_decide_eq_true (by first | (with_reducible assumption) | assumption)) ab.out; simp only [Int.reduceToNat, ← hp_qv_.out] at bh hA75 hC75; have ai := Aside0.mk (Kd.C_of_reads (h1 := fun _ => rfl) (hA75 _ (Kd.reads_of_C aa.out))); have bp := Aside0.mk hC75; clear hA75 hC75 hi075 hsz75) | ((with_reducible refine gate_dst (N := 83) rfl ?_); refine Kd.R_lit (Kd.int .u8) _ 5 ?hg (N := 83) ?hd (xs := ([] : List Int)) (inner := []) (ok := fun _ => True) (okp := fun _ => True) ?hr ?hp (fun _ hk => hk) trivial (Below.refl _ _) (Nat.le_refl _) (by simp) ?_; (case hd => rfl); (case hg => rfl); (case hr => first | (go_simp; done) | (go_simp; rfl)); (case hp => exact (Reps.none _ _)); intro v441 w76 ho77 hb hg_ hnew_; clear hg_ hnew_; (first | rw [← ap.out] at ho77 | (simp only [Int.reduceToNat] at ho77; rw [← ap.out] at ho77)); have n0_ := Aside0.mk (Kd.R_lower ho77 (below_size (by repeat (first | (with_reducible first | exact HB.out | apply lA1_ | apply lN_ | apply lD_ | refine lS1_ ?_ a2.out | refine lS1_ ?_ a7.out) | exact HB.out)))); have n1_ := Aside0.mk (bB_ (g := a4) (o := .cells #[.int .i64 0, .int .i64 0, .int .i64 0, .int .i64 0, .int .i64 0, .int .i64 0, .int .i64 0, .slice none 0 0] 36 (0, 0)) (by (iterate 2 ((with_reducible repeat first | apply bN_ | apply bD_ | apply bA_); refine bF_ ?_ a6.out _)); (with_reducible repeat first | apply bN_ | apply bD_ | apply bA_); exact a0.out) hb); have n2_ := Aside0.mk (bB_ (g := a5) (o := .cells #[.int .i64 t400, .int .i64 t401, .int .i64 (wrap64 (rd l0 9)), .int .i64 (wrap64 (rd l0 8)), .int .i64 t427, .int .i64 t428, .slice none 0 0] 34 (0, 0)) (by (with_reducible repeat first | apply bN_ | apply bD_ | apply bA_); refine blk_put (cs := #[.int .i64 t400, .int .i64 t401, .int .i64 (wrap64 (rd l0 9)), .int .i64 (wrap64 (rd l0 8)), .int .i64 t427, .int .i64 0, .slice none 0 0]) ?_ 5 _ rfl; (with_reducible repeat first | apply bN_ | apply bD_ | apply bA_); refine blk_put (cs := #[.int .i64 t400, .int .i64 t401, .int .i64 (wrap64 (rd l0 9)), .int .i64 (wrap64 (rd l0 8)), .int .i64 0, .int .i64 0, .slice none 0 0]) ?_ 4 _ rfl; (with_reducible repeat first | apply bN_ | apply bD_ | apply bA_); exact a3.out) hb); have n3_ := Aside0.mk (lP_ (by repeat (first | (with_reducible first | exact HB.out | apply lA1_ | apply lN_ | apply lD_ | refine lS1_ ?_ a2.out | refine lS1_ ?_ a7.out) | exact HB.out)) hb); clear a0 a3 HB; have ad := n0_; have a0 := n1_; have a3 := n2_; have HB := n3_; clear n0_ n1_ n2_ n3_ hb ho77) | ((with_reducible refine gate_builtin (b := .append) (xs := #[.tmp 83, .tmp 84]) rfl ?_); at_builtin; refine Kd.R_append_rows (Kd.int .u8) (w0 := w) w.heap.size rfl (.tmp 83) (.tmp 84) 22 5 (.int .u8 0) 1 rfl Try.underlying22 info5 rfl (by decide) (by omega) v441 y440 qv_ _ _ _ (fun _ => True) (fun _ => False) rfl rfl ?aO ?aR (fun _ _ h => h) (fun _ h => h.elim) ?aF ?aB ?aS ?aL ?_; (case aR => first | (rw [← show qv_.length = qv_.length from rfl]; repeat (first | exact (Kd.C_below ai.out HB.out) | (with_reducible refine Kd.C_alloc ?_ _) | (with_reducible refine Kd.C_drewN ?_ _) | (with_reducible refine Kd.C_drew ?_))) | (repeat (first | exact (Kd.C_below ai.out HB.out) | (with_reducible refine Kd.C_alloc ?_ _) | (with_reducible refine Kd.C_drewN ?_ _) | (with_reducible refine Kd.C_drew ?_)))); (case aB => exact (by repeat (first | (with_reducible first | exact HB.out | apply lA1_ | apply lN_ | apply lD_ | refine lS1_ ?_ a2.out | refine lS1_ ?_ a7.out) | exact HB.out))); (case aF => exact (fun _ _ => trivial)); (case aO => exact (by (with_reducible repeat first | apply rA_ | apply rN_ | apply rD_); exact ad.out)); (case aS => exact (below_size (by repeat (first | (with_reducible first | exact HB.out | apply lA1_ | apply lN_ | apply lD_ | refine lS1_ ?_ a2.out | refine lS1_ ?_ a7.out) | exact HB.out)))); (case aL => have := bq.out; have hlx_ := (show qv_.length = qv_.length from rfl); omega); intro v444 w78 ho hb hg hat; rw [← br.out] at ho; have n0_ := Aside0.mk (blk_grown (g := a4) (o := .cells #[.int .i64 0, .int .i64 0, .int .i64 0, .int .i64 0, .int .i64 0, .int .i64 0, .int .i64 0, .slice none 0 0] 36 (0, 0)) (by (with_reducible repeat first | apply bN_ | apply bD_ | apply bA_); exact a0.out) hg (Kd.R_ne ad.out a0.out (by decide))); have n1_ := Aside0.mk (blk_grown (g := a5) (o := .cells #[.int .i64 t400, .int .i64 t401, .int .i64 (wrap64 (rd l0 9)), .int .i64 (wrap64 (rd l0 8)), .int .i64 t427, .int .i64 t428, .slice none 0 0] 34 (0, 0)) (by (with_reducible repeat first | apply bN_ | apply bD_ | apply bA_); exact a3.out) hg (Kd.R_ne ad.out a3.out (by decide))); have n2_ := Aside0.mk (hb); have n3_ := Aside0.mk (ho); clear a0 a3 HB ad; have a0 := n0_; have a3 := n1_; have HB := n2_; have aq := n3_; clear n0_ n1_ n2_ n3_ ho hb hg hat; obtain ⟨bi, bj, eo79⟩ := Kd.R_slice aq.out; subst eo79; obtain ⟨_, _, _, _, _, _, _, _, _, _, _, _, _, _⟩ := bc7 a3.out; obtain ⟨_, _, _, _, _, _, _, _, _, _, _, _, _, _, _, _⟩ := bc8 a0.out))
                 refine bodyPost_ret (results_cell_row rfl _ _ a4 36 #[.int .i64 0, .int .i64 t400, .int .i64 t401, .int .i64 (wrap64 (rd l0 9)), .int .i64 (wrap64 (rd l0 8)), .int .i64 t427, .int .i64 t428, .slice bi y443.length bj] (0, 0) _ rfl (by (with_reducible repeat first | apply bN_ | apply bD_ | apply bA_); apply fill8; (with_reducible repeat first | apply bN_ | apply bD_ | apply bA_); refine bF_ ?_ a6.out _; (with_reducible repeat first | apply bN_ | apply bD_ | apply bA_); exact a0.out) Try.underlying36 rfl (by kernel_rfl)) rfl ?_
                 exact ⟨_, by first | rfl | (simp [errW_none, errW_some] <;> rfl) | (simp [*, errW_none, errW_some] <;> rfl), by (with_reducible repeat first | apply rA_ | apply rN_ | apply rD_); exact Kd.R_mono (rfar8 (g := a4) (Kd.R_far (p := ⟨a5, 6, none⟩) (Kd.R_types (Kd.R_types aq.out a3.out (by decide)) a0.out (by decide)) (fun _ hk => hk.1.2) (.slice bi y443.length bj)) (fun _ hk => hk.2)) (fun _ hk => trivial), by repeat (first | (with_reducible first | exact HB.out | apply lA1_ | apply lN_ | apply lD_ | refine lS1_ ?_ a2.out | refine lS1_ ?_ a7.out) | exact HB.out)⟩
                ·rw [if_neg c71] at H
                 exact absurd H (by simp)
              ·rw [if_neg c61] at H
               exact absurd H (by simp)
            ·replace c50 := Bool.eq_false_iff.mpr c50
             subst c50
             rw [if_neg (show ¬ (false = true) by decide)] at H
             by_cases c82 : (pv_.length : Int) > 200
             ·rw [if_pos c82] at H
              have c82b0 : decide (200 < (pv_.length : Int)) = true := decide_eq_true c82
              have c82b1 : decide (200 < pv_.length) = true := decide_eq_true (by omega)
              clear c82
              replace H := Option.bind_eq_some_iff.mp H
              obtain ⟨⟨t446, t447, t448, t449, t450, t451, t452, t453⟩, bk, H⟩ := H
              try dsimp only at H
              have cv := Aside0.mk bk
              clear bk
              simp only [Option.some.injEq, Prod.mk.injEq] at H
              obtain ⟨rfl, rfl, rfl, rfl, rfl, rfl, rfl, rfl⟩ := H
              obtain ⟨i084, hi084, _, hsz84, _⟩ := info_parts info5
              obtain ⟨dg, bl, hA84, hC84⟩ := print_drop_of (P := Try.prog) (Value.int .u8) 0 22 5 .i64 Try.underlying22 hi084 hsz84 (some ad402) c0 l0 20 (by omega) (of_decide_eq_true (by first | (with_reducible assumption) | assumption)) ac.out
              simp only [Int.reduceToNat, ← hp_pv_.out] at bl hA84 hC84
              have aa := Aside0.mk (Kd.C_of_reads (h1 := fun _ => rfl) (hA84 _ (Kd.reads_of_C a9.out)))
              have ab := Aside0.mk hC84
              clear hA84 hC84 hi084 hsz84
              have d9 := a8.out
              have da := a6.out
              obtain ⟨_, _, _, _, _, _, _, _, _, _, _, _, _, _⟩ := bc7 a3.out
              go_wp2_with (first | ((with_reducible refine gate_callee (f := 55) rfl ?_); refine goesA_ (some 66) rfl rfl Try.func55 (by kernel_rfl) rfl #[.int .i64 (wrap64 (rd l0 9))] rfl ?_; (with_reducible refine (spec_HasPorts.calls (wrap64 (rd l0 9)) false _ aj.out).mono ?_); rintro e w' ⟨rfl, ⟨nd, rfl⟩⟩; refine ⟨_, rfl, ?_⟩; (try (rw [drewN_self wc]; generalize hq_ : World.drewN wc _ = wc; have n0_ : Aside0 (wc.heap[a4]? = some (.cells #[.int .i64 0, .int .i64 0, .int .i64 0, .int .i64 0, .int .i64 0, .int .i64 0, .int .i64 0, .slice none 0 0] 36 (0, 0))) := ⟨by rw [← hq_]; exact (by (with_reducible repeat first | apply bN_ | apply bD_ | apply bA_); exact a0.out)⟩; have n1_ : Aside0 (wc.heap[a5]? = some (.cells #[.int .i64 t400, .int .i64 t401, .int .i64 (wrap64 (rd l0 9)), .int .i64 (wrap64 (rd l0 8)), .int .i64 0, .int .i64 0, .slice none 0 0] 34 (0, 0))) := ⟨by rw [← hq_]; exact (by (with_reducible repeat first | apply bN_ | apply bD_ | apply bA_); exact a3.out)⟩; have n2_ : Aside0 (Below w.heap.size w wc) := ⟨by rw [← hq_]; exact (by repeat (first | (with_reducible first | exact HB.out | apply lA1_ | apply lN_ | apply lD_ | refine lS1_ ?_ a2.out | refine lS1_ ?_ a7.out) | exact HB.out))⟩; clear a0 a3 HB hq_; have a0 := n0_; have a3 := n1_; have HB := n2_; clear n0_ n1_ n2_))) | ((with_reducible refine gate_callee (f := 53) rfl ?_); refine goesA_ (some 82) rfl rfl Try.func53 (by kernel_rfl) rfl #[.int .i64 2] rfl ?_; (with_reducible refine (spec_l2Bad.calls 2 t446 t447 t448 t449 t450 t451 t452 t453 _ cv.out).mono ?_); rintro e w87 ⟨v454, rfl, ho0, hb⟩; refine ⟨_, rfl, ?_⟩; have n0_ := Aside0.mk (Kd.R_lower ho0 (below_size (by repeat (first | (with_reducible first | exact HB.out | apply lA1_ | apply lN_ | apply lD_ | refine lS1_ ?_ a2.out | refine lS1_ ?_ a7.out) | exact HB.out)))); have n1_ := Aside0.mk (bB_ (g := a4) (o := .cells #[.int .i64 0, .int .i64 0, .int .i64 0, .int .i64 0, .int .i64 0, .int .i64 0, .int .i64 0, .slice none 0 0] 36 (0, 0)) (by (with_reducible repeat first | apply bN_ | apply bD_ | apply bA_); exact a0.out) hb); have n3_ := Aside0.mk (lP_ (by repeat (first | (with_reducible first | exact HB.out | apply lA1_ | apply lN_ | apply lD_ | refine lS1_ ?_ a2.out | refine lS1_ ?_ a7.out) | exact HB.out)) hb); clear a0 HB; have ar := n0_; have a0 := n1_; have HB := n3_; clear n0_ n1_ n3_; (try clear hb); (try clear hb2); (try clear hk); (try clear hi); (try clear ho0); obtain ⟨_, _, _, _, _, _, _, _, _, _, _, _, _, _, _, _⟩ := bc8 a0.out; obtain ⟨cl, cm, eo89⟩ := Kd.R_slice ar.out; subst eo89))
              refine bodyPost_ret (results_cell_row rfl _ _ a4 36 #[.int .i64 t446, .int .i64 t447, .int .i64 t448, .int .i64 t449, .int .i64 t450, .int .i64 t451, .int .i64 t452, .slice cl t453.length cm] (0, 0) _ rfl (by (with_reducible repeat first | apply bN_ | apply bD_ | apply bA_); apply fill8; (with_reducible repeat first | apply bN_ | apply bD_ | apply bA_); exact a0.out) Try.underlying36 rfl (by kernel_rfl)) rfl ?_
              exact ⟨_, by first | rfl | (simp [errW_none, errW_some] <;> rfl) | (simp [*, errW_none, errW_some] <;> rfl), by (with_reducible repeat first | apply rA_ | apply rN_ | apply rD_); exact Kd.R_mono (rfar8 (g := a4) (Kd.R_types ar.out a0.out (by decide)) (fun _ hk => hk.2)) (fun _ hk => trivial), by repeat (first | (with_reducible first | exact HB.out | apply lA1_ | apply lN_ | apply lD_ | refine lS1_ ?_ a2.out | refine lS1_ ?_ a7.out) | exact HB.out)⟩
             ·rw [if_neg c82] at H
              have c82b0 : decide (200 < (pv_.length : Int)) = false := decide_eq_false c82
              have c82b1 : decide (200 < pv_.length) = false := decide_eq_false (by omega)
              clear c82
              obtain ⟨y456, hy456⟩ : ∃ y_ : List Int, y_ = (([] : List Int)) := ⟨_, rfl⟩
              replace H : (if y456.length + pv_.length < 140737488355328 then (some (0, t400, t401, (wrap64 (rd l0 9)), (wrap64 (rd l0 8)), 0, 0, (y456 ++ pv_))) else (none)) = some (r1, r2, r3, r4, r5, r6, r7, r8) := by first | (rw [hy456]; with_reducible exact H) | (have H2_ := (Option.bind_some _ _).symm.trans H; rw [hy456]; with_reducible exact H2_) | (have H2_ := (Option.bind_some _ _).symm.trans H; with_reducible exact H2_) | with_reducible exact H | (rw [hy456]; exact H) | exact H
              have au := Aside0.mk hy456
              clear hy456
              by_cases c90 : y456.length + pv_.length < 140737488355328
              ·rw [if_pos c90] at H
               have bs := Aside0.mk c90
               clear c90
               obtain ⟨y459, hy459⟩ : ∃ y_ : List Int, y_ = (y456 ++ pv_) := ⟨_, rfl⟩
               replace H : (some (0, t400, t401, (wrap64 (rd l0 9)), (wrap64 (rd l0 8)), 0, 0, y459)) = some (r1, r2, r3, r4, r5, r6, r7, r8) := by first | (rw [hy459]; with_reducible exact H) | (have H2_ := (Option.bind_some _ _).symm.trans H; rw [hy459]; with_reducible exact H2_) | (have H2_ := (Option.bind_some _ _).symm.trans H; with_reducible exact H2_) | with_reducible exact H | (rw [hy459]; exact H) | exact H
               have bt := Aside0.mk hy459
               clear hy459
               simp only [Option.some.injEq, Prod.mk.injEq] at H
               obtain ⟨rfl, rfl, rfl, rfl, rfl, rfl, rfl, rfl⟩ := H
               obtain ⟨i091, hi091, _, hsz91, _⟩ := info_parts info5
               obtain ⟨dh, bm, hA91, hC91⟩ := print_drop_of (P := Try.prog) (Value.int .u8) 0 22 5 .i64 Try.underlying22 hi091 hsz91 (some ad402) c0 l0 20 (by omega) (of_decide_eq_true (by first | (with_reducible assumption) | assumption)) ac.out
               simp only [Int.reduceToNat, ← hp_pv_.out] at bm hA91 hC91
               have aa := Aside0.mk (Kd.C_of_reads (h1 := fun _ => rfl) (hA91 _ (Kd.reads_of_C a9.out)))
               have ab := Aside0.mk hC91
               clear hA91 hC91 hi091 hsz91
               have db := a8.out
               have dc := a6.out
               obtain ⟨_, _, _, _, _, _, _, _, _, _, _, _, _, _⟩ := bc7 a3.out
               go_wp2_with (first | ((with_reducible refine gate_callee (f := 55) rfl ?_); refine goesA_ (some 66) rfl rfl Try.func55 (by kernel_rfl) rfl #[.int .i64 (wrap64 (rd l0 9))] rfl ?_; (with_reducible refine (spec_HasPorts.calls (wrap64 (rd l0 9)) false _ aj.out).mono ?_); rintro e w' ⟨rfl, ⟨nd, rfl⟩⟩; refine ⟨_, rfl, ?_⟩; (try (rw [drewN_self wc]; generalize hq_ : World.drewN wc _ = wc; have n0_ : Aside0 (wc.heap[a4]? = some (.cells #[.int .i64 0, .int .i64 0, .int .i64 0, .int .i64 0, .int .i64 0, .int .i64 0, .int .i64 0, .slice none 0 0] 36 (0, 0))) := ⟨by rw [← hq_]; exact (by (with_reducible repeat first | apply bN_ | apply bD_ | apply bA_); exact a0.out)⟩; have n1_ : Aside0 (wc.heap[a5]? = some (.cells #[.int .i64 t400, .int .i64 t401, .int .i64 (wrap64 (rd l0 9)), .int .i64 (wrap64 (rd l0 8)), .int .i64 0, .int .i64 0, .slice none 0 0] 34 (0, 0))) := ⟨by rw [← hq_]; exact (by (with_reducible repeat first | apply bN_ | apply bD_ | apply bA_); exact a3.out)⟩; have n2_ : Aside0 (Below w.heap.size w wc) := ⟨by rw [← hq_]; exact (by repeat (first | (with_reducible first | exact HB.out | apply lA1_ | apply lN_ | apply lD_ | refine lS1_ ?_ a2.out | refine lS1_ ?_ a7.out) | exact HB.out))⟩; clear a0 a3 HB hq_; have a0 := n0_; have a3 := n1_; have HB := n2_; clear n0_ n1_ n2_))) | ((with_reducible refine gate_dst (N := 83) rfl ?_); refine Kd.R_lit (Kd.int .u8) _ 5 ?hg (N := 83) ?hd (xs := ([] : List Int)) (inner := []) (ok := fun _ => True) (okp := fun _ => True) ?hr ?hp (fun _ hk => hk) trivial (Below.refl _ _) (Nat.le_refl _) (by simp) ?_; (case hd => rfl); (case hg => rfl); (case hr => first | (go_simp; done) | (go_simp; rfl)); (case hp => exact (Reps.none _ _)); intro v457 w94 ho95 hb hg_ hnew_; clear hg_ hnew_; (first | rw [← au.out] at ho95 | (simp only [Int.reduceToNat] at ho95; rw [← au.out] at ho95)); have n0_ := Aside0.mk (Kd.R_lower ho95 (below_size (by repeat (first | (with_reducible first | exact HB.out | apply lA1_ | apply lN_ | apply lD_ | refine lS1_ ?_ a2.out | refine lS1_ ?_ a7.out) | exact HB.out)))); have n1_ := Aside0.mk (bB_ (g := a4) (o := .cells #[.int .i64 0, .int .i64 0, .int .i64 0, .int .i64 0, .int .i64 0, .int .i64 0, .int .i64 0, .slice none 0 0] 36 (0, 0)) (by (with_reducible repeat first | apply bN_ | apply bD_ | apply bA_); exact a0.out) hb); have n2_ := Aside0.mk (bB_ (g := a5) (o := .cells #[.int .i64 t400, .int .i64 t401, .int .i64 (wrap64 (rd l0 9)), .int .i64 (wrap64 (rd l0 8)), .int .i64 0, .int .i64 0, .slice none 0 0] 34 (0, 0)) (by (with_reducible repeat first | apply bN_ | apply bD_ | apply bA_); exact a3.out) hb); have n3_ := Aside0.mk (lP_ (by repeat (first | (with_reducible first | exact HB.out | apply lA1_ | apply lN_ | apply lD_ | refine lS1_ ?_ a2.out | refine lS1_ ?_ a7.out) | exact HB.out)) hb); clear a0 a3 HB; have ae := n0_; have a0 := n1_; have a3 := n2_; have HB := n3_; clear n0_ n1_ n2_ n3_ hb ho95) | ((with_reducible refine gate_builtin (b := .append) (xs := #[.tmp 83, .tmp 84]) rfl ?_); at_builtin; refine Kd.R_append_rows (Kd.int .u8) (w0 := w) w.heap.size rfl (.tmp 83) (.tmp 84) 22 5 (.int .u8 0) 1 rfl Try.underlying22 info5 rfl (by decide) (by omega) v457 y456 pv_ _ _ _ (fun _ => True) (fun _ => False) rfl rfl ?aO ?aR (fun _ _ h => h) (fun _ h => h.elim) ?aF ?aB ?aS ?aL ?_; (case aR => first | (rw [← show pv_.length = pv_.length from rfl]; repeat (first | exact (Kd.C_below aa.out HB.out) | (with_reducible refine Kd.C_alloc ?_ _) | (with_reducible refine Kd.C_drewN ?_ _) | (with_reducible refine Kd.C_drew ?_))) | (repeat (first | exact (Kd.C_below aa.out HB.out) | (with_reducible refine Kd.C_alloc ?_ _) | (with_reducible refine Kd.C_drewN ?_ _) | (with_reducible refine Kd.C_drew ?_)))); (case aB => exact (by repeat (first | (with_reducible first | exact HB.out | apply lA1_ | apply lN_ | apply lD_ | refine lS1_ ?_ a2.out | refine lS1_ ?_ a7.out) | exact HB.out))); (case aF => exact (fun _ _ => trivial)); (case aO => exact (by (with_reducible repeat first | apply rA_ | apply rN_ | apply rD_); exact ae.out)); (case aS => exact (below_size (by repeat (first | (with_reducible first | exact HB.out | apply lA1_ | apply lN_ | apply lD_ | refine lS1_ ?_ a2.out | refine lS1_ ?_ a7.out) | exact HB.out)))); (case aL => have := bs.out; have hlx_ := (show pv_.length = pv_.length from rfl); omega); intro v460 w96 ho hb hg hat; rw [← bt.out] at ho; have n0_ := Aside0.mk (blk_grown (g := a4) (o := .cells #[.int .i64 0, .int .i64 0, .int .i64 0, .int .i64 0, .int .i64 0, .int .i64 0, .int .i64 0, .slice none 0 0] 36 (0, 0)) (by (with_reducible repeat first | apply bN_ | apply bD_ | apply bA_); exact a0.out) hg (Kd.R_ne ae.out a0.out (by decide))); have n1_ := Aside0.mk (blk_grown (g := a5) (o := .cells #[.int .i64 t400, .int .i64 t401, .int .i64 (wrap64 (rd l0 9)), .int .i64 (wrap64 (rd l0 8)), .int .i64 0, .int .i64 0, .slice none 0 0] 34 (0, 0)) (by (with_reducible repeat first | apply bN_ | apply bD_ | apply bA_); exact a3.out) hg (Kd.R_ne ae.out a3.out (by decide))); have n2_ := Aside0.mk (hb); have n3_ := Aside0.mk (ho); clear a0 a3 HB ae; have a0 := n0_; have a3 := n1_; have HB := n2_; have av := n3_; clear n0_ n1_ n2_ n3_ ho hb hg hat; obtain ⟨bn, bo, eo97⟩ := Kd.R_slice av.out; subst eo97; obtain ⟨_, _, _, _, _, _, _, _, _, _, _, _, _, _⟩ := bc7 a3.out; obtain ⟨_, _, _, _, _, _, _, _, _, _, _, _, _, _, _, _⟩ := bc8 a0.out))
               refine bodyPost_ret (results_cell_row rfl _ _ a4 36 #[.int .i64 0, .int .i64 t400, .int .i64 t401, .int .i64 (wrap64 (rd l0 9)), .int .i64 (wrap64 (rd l0 8)), .int .i64 0, .int .i64 0, .slice bn y459.length bo] (0, 0) _ rfl (by (with_reducible repeat first | apply bN_ | apply bD_ | apply bA_); apply fill8; (with_reducible repeat first | apply bN_ | apply bD_ | apply bA_); refine bF_ ?_ a6.out _; (with_reducible repeat first | apply bN_ | apply bD_ | apply bA_); exact a0.out) Try.underlying36 rfl (by kernel_rfl)) rfl ?_
               exact ⟨_, by first | rfl | (simp [errW_none, errW_some] <;> rfl) | (simp [*, errW_none, errW_some] <;> rfl), by (with_reducible repeat first | apply rA_ | apply rN_ | apply rD_); exact Kd.R_mono (rfar8 (g := a4) (Kd.R_far (p := ⟨a5, 6, none⟩) (Kd.R_types (Kd.R_types av.out a3.out (by decide)) a0.out (by decide)) (fun _ hk => hk.1.2) (.slice bn y459.length bo)) (fun _ hk => hk.2)) (fun _ hk => trivial), by repeat (first | (with_reducible first | exact HB.out | apply lA1_ | apply lN_ | apply lD_ | refine lS1_ ?_ a2.out | refine lS1_ ?_ a7.out) | exact HB.out)⟩
              ·rw [if_neg c90] at H
               exact absurd H (by simp)
           ·rw [if_neg c48] at H
            exact absurd H (by simp)
       ·rw [if_neg c24] at H
        exact absurd H (by simp)
      ·rw [if_neg c23] at H
       exact absurd H (by simp)
     ·replace c20 := Bool.eq_false_iff.mpr c20
      subst c20
      rw [if_neg (show ¬ (false = true) by decide)] at H
      replace H := Option.bind_eq_some_iff.mp H
      obtain ⟨⟨t390, t391, t392, t393, t394, t395, t396, t397⟩, aw, H⟩ := H
      try dsimp only at H
      have af := Aside0.mk aw
      clear aw
      simp only [Option.some.injEq, Prod.mk.injEq] at H
      obtain ⟨rfl, rfl, rfl, rfl, rfl, rfl, rfl, rfl⟩ := H
      obtain ⟨i0101, hi0101, _, hsz101, _⟩ := info_parts info5
      obtain ⟨cn, hA101, hC101⟩ := print_take_of (P := Try.prog) (Value.int .u8) 0 22 5 .i64 Try.underlying22 hi0101 hsz101 A0 c0 l0 20 (by omega) (of_decide_eq_true (by first | (with_reducible assumption) | assumption)) ac.out
      have ag := Aside0.mk (Kd.C_of_reads (h1 := fun _ => rfl) (hA101 _ (Kd.reads_of_C a9.out)))
      have ah := Aside0.mk hC101
      clear hA101 hC101 hi0101 hsz101
      go_wp2_with (first | ((with_reducible refine gate_callee (f := 54) rfl ?_); refine goesL_ (some 37) rfl rfl Try.func54 (by kernel_rfl) rfl #[.slice A0 (l0.take 20).length c0] rfl (by (try simp only [List.map_toArray, List.map_cons, List.map_nil]); first | done | (rw [show (l0.take 20).length = 20 from (by rw [List.length_take]; have h_ : (20 : Int) ≤ (l0.length : Int) := of_decide_eq_true (by first | (with_reducible assumption) | assumption); omega)] <;> rfl) | rfl | (simp only [List.length_drop, List.length_take]; rfl)) ?_; (with_reducible refine (spec_CheckWords.calls kj1 _ _ (l0.take 20) false _ ?side1 ?side2 bz.out).mono ?_); (case side1 => repeat (first | exact (Kd.C_below ag.out HB.out) | (with_reducible refine Kd.C_alloc ?_ _) | (with_reducible refine Kd.C_drewN ?_ _) | (with_reducible refine Kd.C_drew ?_))); (case side2 => exact ah.out); rintro e w' ⟨rfl, ⟨nd, rfl⟩⟩; refine ⟨_, rfl, ?_⟩; (try (rw [drewN_self wc]; generalize hq_ : World.drewN wc _ = wc; have n0_ : Aside0 (wc.heap[a4]? = some (.cells #[.int .i64 0, .int .i64 0, .int .i64 0, .int .i64 0, .int .i64 0, .int .i64 0, .int .i64 0, .slice none 0 0] 36 (0, 0))) := ⟨by rw [← hq_]; exact (by (with_reducible repeat first | apply bN_ | apply bD_ | apply bA_); exact a0.out)⟩; have n1_ : Aside0 (Below w.heap.size w wc) := ⟨by rw [← hq_]; exact (by repeat (first | (with_reducible first | exact HB.out | apply lA1_ | apply lN_ | apply lD_ | refine lS1_ ?_ a2.out) | exact HB.out))⟩; clear a0 HB hq_; have a0 := n0_; have HB := n1_; clear n0_ n1_))) | ((with_reducible refine gate_callee (f := 53) rfl ?_); refine goesA_ (some 39) rfl rfl Try.func53 (by kernel_rfl) rfl #[.int .i64 6] rfl ?_; (with_reducible refine (spec_l2Bad.calls 6 t390 t391 t392 t393 t394 t395 t396 t397 _ af.out).mono ?_); rintro e w102 ⟨v398, rfl, ho0, hb⟩; refine ⟨_, rfl, ?_⟩; have n0_ := Aside0.mk (Kd.R_lower ho0 (below_size (by repeat (first | (with_reducible first | exact HB.out | apply lA1_ | apply lN_ | apply lD_ | refine lS1_ ?_ a2.out) | exact HB.out)))); have n1_ := Aside0.mk (bB_ (g := a4) (o := .cells #[.int .i64 0, .int .i64 0, .int .i64 0, .int .i64 0, .int .i64 0, .int .i64 0, .int .i64 0, .slice none 0 0] 36 (0, 0)) (by (with_reducible repeat first | apply bN_ | apply bD_ | apply bA_); exact a0.out) hb); have n2_ := Aside0.mk (lP_ (by repeat (first | (with_reducible first | exact HB.out | apply lA1_ | apply lN_ | apply lD_ | refine lS1_ ?_ a2.out) | exact HB.out)) hb); clear a0 HB; have ax := n0_; have a0 := n1_; have HB := n2_; clear n0_ n1_ n2_; (try clear hb); (try clear hb2); (try clear hk); (try clear hi); (try clear ho0); obtain ⟨_, _, _, _, _, _, _, _, _, _, _, _, _, _, _, _⟩ := bc8 a0.out; obtain ⟨bu, bv, eo104⟩ := Kd.R_slice ax.out; subst eo104))
      refine bodyPost_ret (results_cell_row rfl _ _ a4 36 #[.int .i64 t390, .int .i64 t391, .int .i64 t392, .int .i64 t393, .int .i64 t394, .int .i64 t395, .int .i64 t396, .slice bu t397.length bv] (0, 0) _ rfl (by (with_reducible repeat first | apply bN_ | apply bD_ | apply bA_); apply fill8; (with_reducible repeat first | apply bN_ | apply bD_ | apply bA_); exact a0.out) Try.underlying36 rfl (by kernel_rfl)) rfl ?_
      exact ⟨_, by first | rfl | (simp [errW_none, errW_some] <;> rfl) | (simp [*, errW_none, errW_some] <;> rfl), by (with_reducible repeat first | apply rA_ | apply rN_ | apply rD_); exact Kd.R_mono (rfar8 (g := a4) (Kd.R_types ax.out a0.out (by decide)) (fun _ hk => hk.2)) (fun _ hk => trivial), by repeat (first | (with_reducible first | exact HB.out | apply lA1_ | apply lN_ | apply lD_ | refine lS1_ ?_ a2.out) | exact HB.out)⟩
    ·rw [if_neg c18] at H
     exact absurd H (by simp)
end Go.Proofs.Ytidejdfbapjfiaa.G
namespace Go.Proofs.Ytidejdfbapjfiaa.G
open Go.RowKit Go.Proofs.YtidejdfbapjfiaaW.PrintWords Go.Proofs.YtidejdfbapjfiaaW.PrintLast Go.Proofs.YtidejdfbapjfiaaW.PrintMore
attribute [local go_sem] max2_int min2_int max_two min_two max_three min_three max_four min_four   -- for this text's walks alone
set_option linter.unusedVariables false
set_option linter.unusedSimpArgs false
def spec_l1Bytes.l0 : Nat → Int → List Int → Int → Option (List Int)
 | 0, _, _, _ => none
 | k + 1, x0, x5, x6 => if x6 ≥ 0 then (if 0 ≤ (IntKind.u64.wrap (wrap64 (8 * x6))) then (if x5.length < 140737488355328 then (spec_l1Bytes.l0 k x0 (x5 ++ [(shr .i64 x0 (IntKind.u64.wrap (wrap64 (8 * x6)))) % 256]) (wrap64 (x6 - 1))) else (none)) else (none)) else (some x5)
def spec_l1Bytes.f (k : Nat) (a0 : Int) (a1 : Int) : Option (List Int) := spec_l1Bytes.l0 k a0 (([] : List Int)) (wrap64 (a1 - 1))
set_option maxHeartbeats 8000000 in
set_option maxRecDepth 100000 in
theorem spec_l1Bytes.calls (k : Nat) (a0 : Int) (a1 : Int) (r : List Int) (w : World) (h : spec_l1Bytes.f k a0 a1 = some r) :
  Calls Try.prog 52 #[.int .i64 a0, .int .i64 a1] w fun e w' => ∃ v0_ : Value, e = .returned (v0_) ∧ Kd.R (Kd.int .u8) 5 w' w.heap.size (fun _ => True) v0_ r ∧ Below w.heap.size w w' := by
 have HB := Aside0.mk (Below.refl w.heap.size w)
 have H : (spec_l1Bytes.l0 k a0 (([] : List Int)) (wrap64 (a1 - 1))) = some r := h
 clear h
 obtain ⟨y102, hy102⟩ : ∃ y_ : List Int, y_ = (([] : List Int)) := ⟨_, rfl⟩
 replace H : (spec_l1Bytes.l0 k a0 y102 (wrap64 (a1 - 1))) = some r := by first | (rw [hy102]; with_reducible exact H) | (have H2_ := (Option.bind_some _ _).symm.trans H; rw [hy102]; with_reducible exact H2_) | (have H2_ := (Option.bind_some _ _).symm.trans H; with_reducible exact H2_) | with_reducible exact H | (rw [hy102]; exact H) | exact H
 have a3 := Aside0.mk hy102
 clear hy102
 have H' := Aside0.mk H
 clear H
 go_enter Try.func52, Try.ntmps52
 go_wp2_with (first | ((with_reducible refine gate_dst (N := 7) rfl ?_); refine Kd.R_lit (Kd.int .u8) _ 5 ?hg (N := 7) ?hd (xs := ([] : List Int)) (inner := []) (ok := fun _ => True) (okp := fun _ => True) ?hr ?hp (fun _ hk => hk) trivial (Below.refl _ _) (Nat.le_refl _) (by simp) ?_; (case hd => rfl); (case hg => rfl); (case hr => first | (go_simp; done) | (go_simp; rfl)); (case hp => exact (Reps.none _ _)); intro v103 w3 ho4 hb hg_ hnew_; clear hg_ hnew_; (first | rw [← a3.out] at ho4 | (simp only [Int.reduceToNat] at ho4; rw [← a3.out] at ho4)); have n0_ := Aside0.mk (Kd.R_lower ho4 (below_size (by repeat (first | (with_reducible first | exact HB.out | apply lA1_ | apply lN_ | apply lD_) | exact HB.out)))); have n1_ := Aside0.mk (lP_ (by repeat (first | (with_reducible first | exact HB.out | apply lA1_ | apply lN_ | apply lD_) | exact HB.out)) hb); clear HB; have a4 := n0_; have HB := n1_; clear n0_ n1_ hb ho4))
 go_loopg [5, 6] k (fun kq v5 v6 w' => ∃ (x5_1 : List Int) (x6_1 : Int), v6 = .int .i64 x6_1 ∧ Aside0 (spec_l1Bytes.l0 kq a0 x5_1 x6_1 = some r) ∧ Aside0 (kq ≤ k) ∧ Aside0 (Kd.R (Kd.int .u8) 5 w' w.heap.size (fun _ => True) v5 x5_1) ∧ Aside0 (Below w.heap.size w w'))
 case atStart => exact ⟨(y102), (wrap64 (a1 - 1)), (by first | rfl | (simp; done) | (simp [*]; done)), H', ⟨Nat.le_refl _⟩, ⟨by (with_reducible repeat first | apply rA_ | apply rN_ | apply rD_); exact a4.out⟩, ⟨by repeat (first | (with_reducible first | exact HB.out | apply lA1_ | apply lN_ | apply lD_) | exact HB.out)⟩⟩
 case round =>
  clear H'
  try clear p2
  obtain ⟨x5_1, x6_1, rfl, HA, HK1, a2, HB⟩ := hrel
  cases gk with
  | zero => exact absurd HA.out (by simp [spec_l1Bytes.l0])
  | succ k1 =>
   have H := HA.out
   clear HA
   simp only [spec_l1Bytes.l0] at H
   by_cases c5 : x6_1 ≥ 0
   ·rw [if_pos c5] at H
    have c5b0 : decide (0 ≤ x6_1) = true := decide_eq_true c5
    clear c5
    obtain ⟨ji6, hji6⟩ : ∃ j_ : Int, (IntKind.u64.wrap (wrap64 (8 * x6_1))) = j_ := ⟨_, rfl⟩
    replace H : (if 0 ≤ (ji6) then (if x5_1.length < 140737488355328 then (spec_l1Bytes.l0 k1 a0 (x5_1 ++ [(shr .i64 a0 (ji6)) % 256]) (wrap64 (x6_1 - 1))) else (none)) else (none)) = some r := by first | (rw [hji6] at H; exact H) | (simp only [hji6] at H ⊢; exact H)
    by_cases c7 : 0 ≤ (ji6)
    ·rw [if_pos c7] at H
     have c7b0 := eq_true c7
     have c7b1 : decide (0 ≤ (ji6)) = true := decide_eq_true c7
     clear c7
     obtain ⟨ji8, hji8⟩ : ∃ j_ : Int, (shr .i64 a0 (ji6)) = j_ := ⟨_, rfl⟩
     replace H : (if x5_1.length < 140737488355328 then (spec_l1Bytes.l0 k1 a0 (x5_1 ++ [(ji8) % 256]) (wrap64 (x6_1 - 1))) else (none)) = some r := by first | (rw [hji8] at H; exact H) | (simp only [hji8] at H ⊢; exact H)
     have hji8_ : (a0 / 2 ^ min (ji6).toNat 64) = ji8 := hji8
     have hji8z : (ji6) ≤ 64 → (a0 / 2 ^ (ji6).toNat) = ji8 := shr_small hji8
     by_cases c9 : x5_1.length < 140737488355328
     ·rw [if_pos c9] at H
      have a7 := Aside0.mk c9
      clear c9
      obtain ⟨y105, hy105⟩ : ∃ y_ : List Int, y_ = (x5_1 ++ [(ji8) % 256]) := ⟨_, rfl⟩
      replace H : (spec_l1Bytes.l0 k1 a0 y105 (wrap64 (x6_1 - 1))) = some r := by first | (rw [hy105]; with_reducible exact H) | (have H2_ := (Option.bind_some _ _).symm.trans H; rw [hy105]; with_reducible exact H2_) | (have H2_ := (Option.bind_some _ _).symm.trans H; with_reducible exact H2_) | with_reducible exact H | (rw [hy105]; exact H) | exact H
      have a5 := Aside0.mk hy105
      clear hy105
      have H' := Aside0.mk H
      clear H
      go_wp2_with (first | ((with_reducible refine gate_builtin (b := .append) (xs := #[.tmp 14, .tmp 21]) rfl ?_); at_builtin; refine Kd.R_append (Kd.int .u8) (w0 := w) w.heap.size rfl (.tmp 14) (.tmp 21) 22 5 (.int .u8 0) 1 rfl Try.underlying22 info5 rfl (by decide) (by omega) u5 x5_1 ((ji8) % 256) [.int .u8 ((ji8) % 256)] (fun _ => True) (fun _ => False) rfl rfl ?aP (fun _ hk => hk.elim) ?aF ?aO ?aB ?aS ?aL ?_; (case aP => exact rfl); (case aB => exact (by repeat (first | (with_reducible first | exact HB.out | apply lA1_ | apply lN_ | apply lD_) | exact HB.out))); (case aF => exact (fun _ _ => trivial)); (case aO => exact (by (with_reducible repeat first | apply rA_ | apply rN_ | apply rD_); exact a2.out)); (case aS => exact (below_size (by repeat (first | (with_reducible first | exact HB.out | apply lA1_ | apply lN_ | apply lD_) | exact HB.out)))); (case aL => have := a7.out; omega); intro v106 w10 ho hb hg hat; rw [← a5.out] at ho; have n0_ := Aside0.mk (hb); have n1_ := Aside0.mk (ho); clear HB a2; have HB := n0_; have a6 := n1_; clear n0_ n1_ ho hb hg hat))
      go_roundg k1
      case measure => have := HK1.out; omega
      case rel => exact ⟨(y105), (wrap64 (x6_1 - 1)), (by first | rfl | (simp; done) | (simp [*]; done)), H', ⟨by have := HK1.out; omega⟩, ⟨by (with_reducible repeat first | apply rA_ | apply rN_ | apply rD_); exact a6.out⟩, ⟨by repeat (first | (with_reducible first | exact HB.out | apply lA1_ | apply lN_ | apply lD_) | exact HB.out)⟩⟩
     ·rw [if_neg c9] at H
      exact absurd H (by simp)
    ·rw [if_neg c7] at H
     exact absurd H (by simp)
   ·rw [if_neg c5] at H
    have c5b0 : decide (0 ≤ x6_1) = false := decide_eq_false c5
    clear c5
    obtain rfl := Option.some.inj H
    go_wp2
    go_ret
    exact ⟨_, by first | rfl | (simp [errW_none, errW_some] <;> rfl) | (simp [*, errW_none, errW_some] <;> rfl), by (with_reducible repeat first | apply rA_ | apply rN_ | apply rD_); exact a2.out, by repeat (first | (with_reducible first | exact HB.out | apply lA1_ | apply lN_ | apply lD_) | exact HB.out)⟩
end Go.Proofs.Ytidejdfbapjfiaa.G
namespace Go.Proofs.Ytidejdfbapjfiaa.G
open Go.RowKit Go.Proofs.YtidejdfbapjfiaaW.PrintWords Go.Proofs.YtidejdfbapjfiaaW.PrintLast Go.Proofs.YtidejdfbapjfiaaW.PrintMore
attribute [local go_sem] max2_int min2_int max_two min_two max_three min_three max_four min_four   -- for this text's walks alone
set_option linter.unusedVariables false
set_option linter.unusedSimpArgs false
def spec_l2Build.j0 : Nat → List Int → Int → Int → Int → Int → Int → Int → List Int → Option (List Int)
 | 0, _, _, _, _, _, _, _, _ => none
 | k + 1, x3, x581000, x581001, x581002, x581003, x581004, x581005, x581006 => (some (([69, 0] : List Int) : List Int)).bind fun y600 => ((spec_l1Bytes.f k (wrap64 (20 + (x3.length : Int))) 2).bind fun t603 => (if y600.length + t603.length < 140737488355328 then ((some (y600 ++ t603 : List Int)).bind fun y606 => ((some (([0, 0, 64, 0, (x581003) % 256, (x581002) % 256] : List Int) : List Int)).bind fun y609 => (if y606.length + y609.length < 140737488355328 then ((some (y606 ++ y609 : List Int)).bind fun y612 => ((spec_l1Bytes.f k x581000 4).bind fun t615 => ((spec_l1Bytes.f k x581001 4).bind fun t618 => (if t615.length + t618.length < 140737488355328 then ((some (t615 ++ t618 : List Int)).bind fun y621 => ((some (([] : List Int) : List Int)).bind fun y624 => (if y624.length + y612.length < 140737488355328 then ((some (y624 ++ y612 : List Int)).bind fun y627 => ((some (([0, 0] : List Int) : List Int)).bind fun y630 => (if y627.length + y630.length < 140737488355328 then ((some (y627 ++ y630 : List Int)).bind fun y633 => (if y633.length + y621.length < 140737488355328 then ((some (([] : List Int) : List Int)).bind fun y639 => (if y639.length + y612.length < 140737488355328 then ((some (y639 ++ y612 : List Int)).bind fun y642 => ((spec_SumWords.f k (y633 ++ y621)).bind fun t645 => ((spec_l1Bytes.f k t645 2).bind fun t646 => (if y642.length + t646.length < 140737488355328 then ((some (y642 ++ t646 : List Int)).bind fun y649 => (if y649.length + y621.length < 140737488355328 then ((some (y649 ++ y621 : List Int)).bind fun y652 => (if y652.length + x3.length < 140737488355328 then (some (y652 ++ x3)) else (none))) else (none))) else (none))))) else (none))) else (none))) else (none)))) else (none)))) else (none))))) else (none)))) else (none)))
def spec_l2Build.f (k : Nat) (a0_0 : Int) (a0_1 : Int) (a0_2 : Int) (a0_3 : Int) (a0_4 : Int) (a0_5 : Int) (l0_6 : List Int) : Option (List Int) := (some (([] : List Int) : List Int)).bind fun y581 => (if y581.length + l0_6.length < 140737488355328 then ((some (y581 ++ l0_6 : List Int)).bind fun y584 => ((spec_HasPorts.f a0_2).bind fun t587 => (if t587 = true then ((spec_l1Bytes.f k a0_4 2).bind fun t588 => ((spec_l1Bytes.f k a0_5 2).bind fun t591 => (if t588.length + t591.length < 140737488355328 then ((some (t588 ++ t591 : List Int)).bind fun y594 => (if y594.length + y584.length < 140737488355328 then (spec_l2Build.j0 k (y594 ++ y584) a0_0 a0_1 a0_2 a0_3 a0_4 a0_5 l0_6) else (none))) else (none)))) else (spec_l2Build.j0 k y584 a0_0 a0_1 a0_2 a0_3 a0_4 a0_5 l0_6)))) else (none))
def spec_l2Build.T3 : Bool × List (List Nat × List Nat) := (true, [([], []), ([0], [0]), ([1], [1]), ([], []), ([3], [3]), ([4, 2], [4]), ([2, 5, 5], [2, 5]), ([], []), ([6, 7, 6], [6, 7]), ([8, 8, 0, 1, 2, 3, 4, 5, 6, 7, 8], [7, 8])])
def spec_l2Build.B3 : List Nat := [0, 1, 3, 0, 8, 31, 63, 0, 255, 511]
theorem spec_l2Build.tab3 : rtab .any (opsOf Try.f61 3) = spec_l2Build.T3 := by kernel_rfl
theorem spec_l2Build.bits3 : waitsOk spec_l2Build.T3.2 spec_l2Build.B3 = true := by kernel_rfl
def spec_l2Build.T6 : Bool × List (List Nat × List Nat) := (true, [([], []), ([0], [0]), ([1], [1]), ([], []), ([3], [3]), ([4, 2], [4]), ([2, 5, 5], [2, 5]), ([6, 6, 0, 1, 2, 3, 4, 5, 6], [6])])
def spec_l2Build.B6 : List Nat := [0, 1, 3, 0, 8, 31, 63, 127]
theorem spec_l2Build.tab6 : rtab .any (opsOf Try.f61 6) = spec_l2Build.T6 := by kernel_rfl
theorem spec_l2Build.bits6 : waitsOk spec_l2Build.T6.2 spec_l2Build.B6 = true := by kernel_rfl
set_option maxHeartbeats 8000000 in
set_option maxRecDepth 100000 in
theorem spec_l2Build.calls (k : Nat) (a0_0 : Int) (a0_1 : Int) (a0_2 : Int) (a0_3 : Int) (a0_4 : Int) (a0_5 : Int) (A0_6 : Option Addr) (c0_6 : Nat) (l0_6 : List Int) (r : List Int) (w : World) (hr0_6 : Kd.C (Kd.int .u8) w A0_6 l0_6.length l0_6) (hc0_6 : l0_6.length ≤ c0_6) (h : spec_l2Build.f k a0_0 a0_1 a0_2 a0_3 a0_4 a0_5 l0_6 = some r) :
  Calls Try.prog 61 #[.agg #[.int .i64 a0_0, .int .i64 a0_1, .int .i64 a0_2, .int .i64 a0_3, .int .i64 a0_4, .int .i64 a0_5, .slice A0_6 l0_6.length c0_6]] w fun e w' => ∃ v0_ : Value, e = .returned (v0_) ∧ Kd.R (Kd.int .u8) 5 w' w.heap.size (fun _ => True) v0_ r ∧ Below w.heap.size w w' := by
 have hu34 := Try.underlying34
 have HR0_6 := Aside0.mk hr0_6
 have HC0_6 := Aside0.mk hc0_6
 clear hr0_6 hc0_6
 have HB := Aside0.mk (Below.refl w.heap.size w)
 have H : ((some (([] : List Int) : List Int)).bind fun y581 => (if y581.length + l0_6.length < 140737488355328 then ((some (y581 ++ l0_6 : List Int)).bind fun y584 => ((spec_HasPorts.f a0_2).bind fun t587 => (if t587 = true then ((spec_l1Bytes.f k a0_4 2).bind fun t588 => ((spec_l1Bytes.f k a0_5 2).bind fun t591 => (if t588.length + t591.length < 140737488355328 then ((some (t588 ++ t591 : List Int)).bind fun y594 => (if y594.length + y584.length < 140737488355328 then (spec_l2Build.j0 k (y594 ++ y584) a0_0 a0_1 a0_2 a0_3 a0_4 a0_5 l0_6) else (none))) else (none)))) else (spec_l2Build.j0 k y584 a0_0 a0_1 a0_2 a0_3 a0_4 a0_5 l0_6)))) else (none))) = some r := h
 clear h
 obtain ⟨y581, hy581⟩ : ∃ y_ : List Int, y_ = (([] : List Int)) := ⟨_, rfl⟩
 replace H : (if y581.length + l0_6.length < 140737488355328 then ((some (y581 ++ l0_6 : List Int)).bind fun y584 => ((spec_HasPorts.f a0_2).bind fun t587 => (if t587 = true then ((spec_l1Bytes.f k a0_4 2).bind fun t588 => ((spec_l1Bytes.f k a0_5 2).bind fun t591 => (if t588.length + t591.length < 140737488355328 then ((some (t588 ++ t591 : List Int)).bind fun y594 => (if y594.length + y584.length < 140737488355328 then (spec_l2Build.j0 k (y594 ++ y584) a0_0 a0_1 a0_2 a0_3 a0_4 a0_5 l0_6) else (none))) else (none)))) else (spec_l2Build.j0 k y584 a0_0 a0_1 a0_2 a0_3 a0_4 a0_5 l0_6)))) else (none)) = some r := by first | (rw [hy581]; with_reducible exact H) | (have H2_ := (Option.bind_some _ _).symm.trans H; rw [hy581]; with_reducible exact H2_) | (have H2_ := (Option.bind_some _ _).symm.trans H; with_reducible exact H2_) | with_reducible exact H | (rw [hy581]; exact H) | exact H
 have b8 := Aside0.mk hy581
 clear hy581
 by_cases c2 : y581.length + l0_6.length < 140737488355328
 ·rw [if_pos c2] at H
  have cq := Aside0.mk c2
  clear c2
  obtain ⟨y584, hy584⟩ : ∃ y_ : List Int, y_ = (y581 ++ l0_6) := ⟨_, rfl⟩
  replace H : ((spec_HasPorts.f a0_2).bind fun t587 => (if t587 = true then ((spec_l1Bytes.f k a0_4 2).bind fun t588 => ((spec_l1Bytes.f k a0_5 2).bind fun t591 => (if t588.length + t591.length < 140737488355328 then ((some (t588 ++ t591 : List Int)).bind fun y594 => (if y594.length + y584.length < 140737488355328 then (spec_l2Build.j0 k (y594 ++ y584) a0_0 a0_1 a0_2 a0_3 a0_4 a0_5 l0_6) else (none))) else (none)))) else (spec_l2Build.j0 k y584 a0_0 a0_1 a0_2 a0_3 a0_4 a0_5 l0_6))) = some r := by first | (rw [hy584]; with_reducible exact H) | (have H2_ := (Option.bind_some _ _).symm.trans H; rw [hy584]; with_reducible exact H2_) | (have H2_ := (Option.bind_some _ _).symm.trans H; with_reducible exact H2_) | with_reducible exact H | (rw [hy584]; exact H) | exact H
  have bt := Aside0.mk hy584
  clear hy584
  replace H := Option.bind_eq_some_iff.mp H
  obtain ⟨t587, cp, H⟩ := H
  try dsimp only at H
  have A3 := Aside0.mk cp
  clear cp
  have bj := Aside0.mk H
  clear H
  go_enter Try.func61, Try.ntmps61
  go_upto_if 14 with (first | ((with_reducible refine gate_dst (N := 1) rfl ?_); refine box_event ?hg (N := 1) ?hd (cs := #[.int .i64 a0_0, .int .i64 a0_1, .int .i64 a0_2, .int .i64 a0_3, .int .i64 a0_4, .int .i64 a0_5, .slice A0_6 l0_6.length c0_6]) (t := 34) ?hr ?_; (case hd => rfl); (case hg => rfl); (case hr => first | (go_simp; done) | (go_simp; rfl)); intro ak hg w5 hbox hb; have n0_ := Aside0.mk (lP_ (by repeat (first | (with_reducible first | exact HB.out | apply lA1_ | apply lN_ | apply lD_) | exact HB.out)) hb); have n1_ := Aside0.mk (hbox); have n2_ := Aside0.mk ((by rw [hg]; exact (below_size (by repeat (first | (with_reducible first | exact HB.out | apply lA1_ | apply lN_ | apply lD_) | exact HB.out))) : w.heap.size ≤ ak)); have n3_ := Aside0.mk ((by rw [hg]; exact (below_size (by repeat (first | (with_reducible first | exact HB.out | apply lA1_ | apply lN_ | apply lD_) | exact HB.out))) : w.heap.size ≤ ak)); clear HB; have HB := n0_; have a0 := n1_; have cz := n2_; have a5 := n3_; clear n0_ n1_ n2_ n3_ hb hbox hg) | ((with_reducible refine gate_dst (N := 8) rfl ?_); refine Kd.R_lit (Kd.int .u8) _ 5 ?hg (N := 8) ?hd (xs := ([] : List Int)) (inner := []) (ok := fun _ => True) (okp := fun _ => True) ?hr ?hp (fun _ hk => hk) trivial (Below.refl _ _) (Nat.le_refl _) (by simp) ?_; (case hd => rfl); (case hg => rfl); (case hr => first | (go_simp; done) | (go_simp; rfl)); (case hp => exact (Reps.none _ _)); intro v582 w6 ho7 hb hg_ hnew_; clear hg_ hnew_; (first | rw [← b8.out] at ho7 | (simp only [Int.reduceToNat] at ho7; rw [← b8.out] at ho7)); have n0_ := Aside0.mk (Kd.R_lower ho7 (below_size (by repeat (first | (with_reducible first | exact HB.out | apply lA1_ | apply lN_ | apply lD_ | refine lS1_ ?_ a5.out) | exact HB.out)))); have n1_ := Aside0.mk (bB_ (g := ak) (o := .cells #[.int .i64 a0_0, .int .i64 a0_1, .int .i64 a0_2, .int .i64 a0_3, .int .i64 a0_4, .int .i64 a0_5, .slice A0_6 l0_6.length c0_6] 34 (0, 0)) (by (with_reducible repeat first | apply bN_ | apply bD_ | apply bA_); exact a0.out) hb); have n2_ := Aside0.mk (lP_ (by repeat (first | (with_reducible first | exact HB.out | apply lA1_ | apply lN_ | apply lD_ | refine lS1_ ?_ a5.out) | exact HB.out)) hb); clear a0 HB; have b4 := n0_; have a0 := n1_; have HB := n2_; clear n0_ n1_ n2_ hb ho7; obtain ⟨_, _, _, _, _, _, _, _, _, _, _, _, _, _⟩ := bc7 a0.out) | ((with_reducible refine gate_builtin (b := .append) (xs := #[.tmp 8, .tmp 10]) rfl ?_); at_builtin; refine Kd.R_append_rows (Kd.int .u8) (w0 := w) w.heap.size rfl (.tmp 8) (.tmp 10) 22 5 (.int .u8 0) 1 rfl Try.underlying22 info5 rfl (by decide) (by omega) v582 y581 l0_6 _ _ _ (fun _ => True) (fun _ => False) rfl rfl ?aO ?aR (fun _ _ h => h) (fun _ h => h.elim) ?aF ?aB ?aS ?aL ?_; (case aR => repeat (first | exact (Kd.C_below HR0_6.out HB.out) | (with_reducible refine Kd.C_alloc ?_ _) | (with_reducible refine Kd.C_drewN ?_ _) | (with_reducible refine Kd.C_drew ?_))); (case aB => exact (by repeat (first | (with_reducible first | exact HB.out | apply lA1_ | apply lN_ | apply lD_ | refine lS1_ ?_ a5.out) | exact HB.out))); (case aF => exact (fun _ _ => trivial)); (case aO => exact (by (with_reducible repeat first | apply rA_ | apply rN_ | apply rD_); exact b4.out)); (case aS => exact (below_size (by repeat (first | (with_reducible first | exact HB.out | apply lA1_ | apply lN_ | apply lD_ | refine lS1_ ?_ a5.out) | exact HB.out)))); (case aL => have := cq.out; omega); intro v585 w9 ho hb hg hat; rw [← bt.out] at ho; have n0_ := Aside0.mk (blk_grown (g := ak) (o := .cells #[.int .i64 a0_0, .int .i64 a0_1, .int .i64 a0_2, .int .i64 a0_3, .int .i64 a0_4, .int .i64 a0_5, .slice A0_6 l0_6.length c0_6] 34 (0, 0)) (by (with_reducible repeat first | apply bN_ | apply bD_ | apply bA_); exact a0.out) hg (Kd.R_ne b4.out a0.out (by decide))); have n1_ := Aside0.mk (hb); have n2_ := Aside0.mk (ho); clear a0 HB b4; have a0 := n0_; have HB := n1_; have am := n2_; clear n0_ n1_ n2_ ho hb hg hat; obtain ⟨_, _, _, _, _, _, _, _, _, _, _, _, _, _⟩ := bc7 a0.out) | ((with_reducible refine gate_callee (f := 55) rfl ?_); refine goesA_ (some 14) rfl rfl Try.func55 (by kernel_rfl) rfl #[.int .i64 a0_2] rfl ?_; (with_reducible refine (spec_HasPorts.calls a0_2 t587 _ A3.out).mono ?_); rintro e w' ⟨rfl, ⟨nd, rfl⟩⟩; refine ⟨_, rfl, ?_⟩))
  (try simp only [Act.put, lA_, lZ_, lS_])
  go_cut [3] (fun v3 wc => ∃ (kq : Nat) (x3_3 : List Int), Aside0 (spec_l2Build.j0 kq x3_3 a0_0 a0_1 a0_2 a0_3 a0_4 a0_5 l0_6 = some r) ∧ Aside0 (kq ≤ k) ∧ Aside0 (Kd.R (Kd.int .u8) 5 wc w.heap.size (fun _ => True) v3 x3_3) ∧ Aside0 (wc.heap[ak]? = some (.cells #[.int .i64 a0_0, .int .i64 a0_1, .int .i64 a0_2, .int .i64 a0_3, .int .i64 a0_4, .int .i64 a0_5, (.slice A0_6 l0_6.length c0_6)] 34 (0, 0))) ∧ Aside0 (Below w.heap.size w wc))
  case first =>
   have H := bj.out
   clear bj
   by_cases c11 : t587 = true
   ·subst c11
    rw [if_pos rfl] at H
    replace H := Option.bind_eq_some_iff.mp H
    obtain ⟨t588, bk, H⟩ := H
    try dsimp only at H
    have cr := Aside0.mk bk
    clear bk
    replace H := Option.bind_eq_some_iff.mp H
    obtain ⟨t591, bl, H⟩ := H
    try dsimp only at H
    have ct := Aside0.mk bl
    clear bl
    by_cases c14 : t588.length + t591.length < 140737488355328
    ·rw [if_pos c14] at H
     have bu := Aside0.mk c14
     clear c14
     obtain ⟨y594, hy594⟩ : ∃ y_ : List Int, y_ = (t588 ++ t591) := ⟨_, rfl⟩
     replace H : (if y594.length + y584.length < 140737488355328 then (spec_l2Build.j0 k (y594 ++ y584) a0_0 a0_1 a0_2 a0_3 a0_4 a0_5 l0_6) else (none)) = some r := by first | (rw [hy594]; with_reducible exact H) | (have H2_ := (Option.bind_some _ _).symm.trans H; rw [hy594]; with_reducible exact H2_) | (have H2_ := (Option.bind_some _ _).symm.trans H; with_reducible exact H2_) | with_reducible exact H | (rw [hy594]; exact H) | exact H
     have bv := Aside0.mk hy594
     clear hy594
     by_cases c15 : y594.length + y584.length < 140737488355328
     ·rw [if_pos c15] at H
      have bw := Aside0.mk c15
      clear c15
      obtain ⟨y597, hy597⟩ : ∃ y_ : List Int, y_ = (y594 ++ y584) := ⟨_, rfl⟩
      replace H : (spec_l2Build.j0 k y597 a0_0 a0_1 a0_2 a0_3 a0_4 a0_5 l0_6) = some r := by first | (rw [hy597]; with_reducible exact H) | (have H2_ := (Option.bind_some _ _).symm.trans H; rw [hy597]; with_reducible exact H2_) | (have H2_ := (Option.bind_some _ _).symm.trans H; with_reducible exact H2_) | with_reducible exact H | (rw [hy597]; exact H) | exact H
      have bx := Aside0.mk hy597
      clear hy597
      have H' := Aside0.mk H
      clear H
      try go_wp2
      try (have m0_ := Aside0.mk (rN_ am.out nd); have m1_ := Aside0.mk (bN_ a0.out nd); have m2_ := Aside0.mk (lN_ HB.out nd); clear am a0 HB; generalize hw_ : World.drewN w9 nd = wz_ at m0_ m1_ m2_ ⊢; have am := m0_; have a0 := m1_; have HB := m2_; clear m0_ m1_ m2_ hw_)
      have n0_ := Aside0.mk (rD_ am.out)
      have n1_ := Aside0.mk (bD_ a0.out)
      have n2_ := Aside0.mk (lD_ HB.out)
      clear am
      clear a0
      clear HB
      have am := n0_
      have a0 := n1_
      have HB := n2_
      clear n0_ n1_ n2_
      refine start_ (n := 10) (S := fun w' => w'.cell? ⟨ak, 0, none⟩ = some (.int .i64 a0_0) ∧ w'.cell? ⟨ak, 1, none⟩ = some (.int .i64 a0_1) ∧ w'.cell? ⟨ak, 2, none⟩ = some (.int .i64 a0_2) ∧ w'.cell? ⟨ak, 3, none⟩ = some (.int .i64 a0_3) ∧ w'.cell? ⟨ak, 4, none⟩ = some (.int .i64 a0_4) ∧ w'.cell? ⟨ak, 5, none⟩ = some (.int .i64 a0_5) ∧ w'.cell? ⟨ak, 6, none⟩ = some (.slice A0_6 l0_6.length c0_6)) (ds := []) #[false, false, false, false, false, false, false, false, false, false] (by kernel_rfl) rfl rfl ⟨(blk_cell a0.out 0).trans rfl, (blk_cell a0.out 1).trans rfl, (blk_cell a0.out 2).trans rfl, (blk_cell a0.out 3).trans rfl, (blk_cell a0.out 4).trans rfl, (blk_cell a0.out 5).trans rfl, (blk_cell a0.out 6).trans rfl⟩ (fun hHeld => ?_); refine with_tabW spec_l2Build.tab3 spec_l2Build.bits3 (fun HT_ HW_ => ?_)
      first | generalize wz_.drew = w16 at am a0 HB hHeld ⊢ | generalize w9.drew = w16 at am a0 HB hHeld ⊢
      refine pure_ (i := 0) (N := some 15) (v := ?_) (a' := ?_) #[true, false, false, false, false, false, false, false, false, false] rfl rfl (any_of HT_.out (by kernel_rfl)) (fun _ _ _ h => h) (Or.inl ⟨by rfl, ?_⟩) ?_ ?_
      rotate_left
      ·intro w'
       go_simp
       with_reducible rfl
      rotate_left
      ·simp only [Act.put, lA_, lZ_, lS_, i64_w, i32_w]
       rfl
      refine pure_ (i := 3) (N := some 18) (v := ?_) (a' := ?_) #[true, false, false, true, false, false, false, false, false, false] rfl rfl (any_of HT_.out (by kernel_rfl)) (fun _ _ _ h => h) (Or.inl ⟨by rfl, ?_⟩) ?_ ?_
      rotate_left
      ·intro w'
       go_simp
       with_reducible rfl
      rotate_left
      ·simp only [Act.put, lA_, lZ_, lS_, i64_w, i32_w]
       rfl
      refine pure_ (i := 7) (N := some 22) (v := ?_) (a' := ?_) #[true, false, false, true, false, false, false, true, false, false] rfl rfl (any_of HT_.out (by kernel_rfl)) (fun _ _ _ h => h) (Or.inl ⟨by rfl, ?_⟩) ?_ ?_
      rotate_left
      ·intro w'
       go_simp
       with_reducible rfl
      rotate_left
      ·simp only [Act.put, lA_, lZ_, lS_, i64_w, i32_w]
       rfl
      refine take_ (i := 1) (N := some 16) (v := ?_) (a' := ?_) #[true, true, false, true, false, false, false, true, false, false] rfl rfl (take_ofW HT_.out HW_.out (by kernel_rfl)) (fun _ _ _ h => h) (Or.inl ⟨by rfl, ?_⟩) hHeld ?_ ?_
      rotate_left
      ·rintro w' ⟨s0, s1, s2, s3, s4, s5, s6⟩
       go_simp
       with_reducible rfl
      rotate_left
      ·simp only [Act.put, lA_, lZ_, lS_, i64_w, i32_w]
       rfl
      refine take_ (i := 4) (N := some 19) (v := ?_) (a' := ?_) #[true, true, false, true, true, false, false, true, false, false] rfl rfl (take_ofW HT_.out HW_.out (by kernel_rfl)) (fun _ _ _ h => h) (Or.inl ⟨by rfl, ?_⟩) hHeld ?_ ?_
      rotate_left
      ·rintro w' ⟨s0, s1, s2, s3, s4, s5, s6⟩
       go_simp
       with_reducible rfl
      rotate_left
      ·simp only [Act.put, lA_, lZ_, lS_, i64_w, i32_w]
       rfl
      refine one_ (i := 2) (N := some 17) #[true, true, true, true, true, false, false, true, false, false] rfl rfl (one_of HT_.out (by kernel_rfl)) (by decide) (fun K hK => ?_)
      refine goes_ Try.func52 (by kernel_rfl) rfl #[.int .i64 a0_4, .int .i64 2] (by rfl) rfl rfl (by (try simp only [List.map_toArray, List.map_cons, List.map_nil]); first | done | rfl | (simp only [List.length_drop, List.length_take]; rfl)) ?_
      with_reducible refine (spec_l1Bytes.calls k a0_4 2 t588 _ cr.out).mono ?_
      rintro e w17 ⟨v589, rfl, ho0, hb⟩
      refine ⟨_, rfl, ?_⟩
      have n0_ := Aside0.mk (Kd.R_elder' (by (with_reducible repeat first | apply rA_ | apply rN_ | apply rD_); exact am.out) (Kd.R_base ho0) hb)
      have n1_ := Aside0.mk (Kd.R_lower (Kd.R_new' ho0 (Kd.R_lt (by (with_reducible repeat first | apply rA_ | apply rN_ | apply rD_); exact am.out))) (below_size (by repeat (first | (with_reducible first | exact HB.out | apply lA1_ | apply lN_ | apply lD_ | refine lS1_ ?_ a5.out) | exact HB.out))))
      have n2_ := Aside0.mk (bB_ (g := ak) (o := .cells #[.int .i64 a0_0, .int .i64 a0_1, .int .i64 a0_2, .int .i64 a0_3, .int .i64 a0_4, .int .i64 a0_5, .slice A0_6 l0_6.length c0_6] 34 (0, 0)) (by (with_reducible repeat first | apply bN_ | apply bD_ | apply bA_); exact a0.out) hb)
      have n3_ := Aside0.mk (lP_ (by repeat (first | (with_reducible first | exact HB.out | apply lA1_ | apply lN_ | apply lD_ | refine lS1_ ?_ a5.out) | exact HB.out)) hb)
      clear am
      clear a0
      clear HB
      have am := n0_
      have ay := n1_
      have a0 := n2_
      have HB := n3_
      clear n0_ n1_ n2_ n3_
      (try clear hb)
      (try clear hb2)
      (try clear hk)
      (try clear hi)
      (try clear ho0)
      refine hK.out _ _ ⟨(blk_cell a0.out 0).trans rfl, (blk_cell a0.out 1).trans rfl, (blk_cell a0.out 2).trans rfl, (blk_cell a0.out 3).trans rfl, (blk_cell a0.out 4).trans rfl, (blk_cell a0.out 5).trans rfl, (blk_cell a0.out 6).trans rfl⟩ (fun hHeld => ?_)
      clear hK K
      refine norm_ (a' := ?_) ?_ ?_
      rotate_left
      ·show Act.put _ (some 17) _ = _
       simp only [Act.put, lA_, lZ_, lS_, i64_w, i32_w]
       rfl
      refine one_ (i := 5) (N := some 20) #[true, true, true, true, true, true, false, true, false, false] rfl rfl (one_of HT_.out (by kernel_rfl)) (by decide) (fun K hK => ?_)
      refine goes_ Try.func52 (by kernel_rfl) rfl #[.int .i64 a0_5, .int .i64 2] (by rfl) rfl rfl (by (try simp only [List.map_toArray, List.map_cons, List.map_nil]); first | done | rfl | (simp only [List.length_drop, List.length_take]; rfl)) ?_
      with_reducible refine (spec_l1Bytes.calls k a0_5 2 t591 _ ct.out).mono ?_
      rintro e w18 ⟨v592, rfl, ho0, hb⟩
      refine ⟨_, rfl, ?_⟩
      have n0_ := Aside0.mk (Kd.R_elder' (by (with_reducible repeat first | apply rA_ | apply rN_ | apply rD_); exact am.out) (Kd.R_base ho0) hb)
      have n1_ := Aside0.mk (Kd.R_elder' (by (with_reducible repeat first | apply rA_ | apply rN_ | apply rD_); exact ay.out) (Kd.R_base ho0) hb)
      have n2_ := Aside0.mk (Kd.R_lower (Kd.R_new' (Kd.R_new' ho0 (Kd.R_lt (by (with_reducible repeat first | apply rA_ | apply rN_ | apply rD_); exact am.out))) (Kd.R_lt (by (with_reducible repeat first | apply rA_ | apply rN_ | apply rD_); exact ay.out))) (below_size (by repeat (first | (with_reducible first | exact HB.out | apply lA1_ | apply lN_ | apply lD_ | refine lS1_ ?_ a5.out) | exact HB.out))))
      have n3_ := Aside0.mk (bB_ (g := ak) (o := .cells #[.int .i64 a0_0, .int .i64 a0_1, .int .i64 a0_2, .int .i64 a0_3, .int .i64 a0_4, .int .i64 a0_5, .slice A0_6 l0_6.length c0_6] 34 (0, 0)) (by (with_reducible repeat first | apply bN_ | apply bD_ | apply bA_); exact a0.out) hb)
      have n4_ := Aside0.mk (lP_ (by repeat (first | (with_reducible first | exact HB.out | apply lA1_ | apply lN_ | apply lD_ | refine lS1_ ?_ a5.out) | exact HB.out)) hb)
      clear am
      clear ay
      clear a0
      clear HB
      have am := n0_
      have ay := n1_
      have ax := n2_
      have a0 := n3_
      have HB := n4_
      clear n0_ n1_ n2_ n3_ n4_
      (try clear hb)
      (try clear hb2)
      (try clear hk)
      (try clear hi)
      (try clear ho0)
      obtain ⟨b5, b6, eo20⟩ := Kd.R_slice ax.out
      (first | subst eo20 | (injection eo20 with f1_ f2_ f3_; have f4_ := f1_.symm; have f5_ := f3_.symm; clear f1_ f2_ f3_; subst f4_; subst f5_))
      refine hK.out _ _ ⟨(blk_cell a0.out 0).trans rfl, (blk_cell a0.out 1).trans rfl, (blk_cell a0.out 2).trans rfl, (blk_cell a0.out 3).trans rfl, (blk_cell a0.out 4).trans rfl, (blk_cell a0.out 5).trans rfl, (blk_cell a0.out 6).trans rfl⟩ (fun hHeld => ?_)
      clear hK K
      refine norm_ (a' := ?_) ?_ ?_
      rotate_left
      ·show Act.put _ (some 20) _ = _
       simp only [Act.put, lA_, lZ_, lS_, i64_w, i32_w]
       rfl
      refine one_ (i := 6) (N := some 21) #[true, true, true, true, true, true, true, true, false, false] rfl rfl (one_of HT_.out (by kernel_rfl)) (by decide) (fun K hK => ?_)
      refine Kd.R_append_rows_step (Kd.int .u8) (w0 := w) w.heap.size (by rfl) (.tmp 17) (.tmp 20) 22 5 (.int .u8 0) 1 rfl Try.underlying22 info5 rfl (by decide) (by omega) v589 t588 t591 _ _ _ (fun k_ => some k_ ≠ (v585 : Value).ownBlock ∧ some k_ ≠ (.slice b5 t591.length b6 : Value).ownBlock) (fun _ => False) rfl rfl ?aO ?aR (fun _ _ h => h) (fun _ h => h.elim) ?aF ?aB ?aS ?aL ?_
      (case aR => repeat (first | exact (Kd.R_reads' ax.out).2.2 | (with_reducible refine Kd.C_alloc ?_ _) | (with_reducible refine Kd.C_drewN ?_ _) | (with_reducible refine Kd.C_drew ?_)))
      (case aB => exact (by repeat (first | (with_reducible first | exact HB.out | apply lA1_ | apply lN_ | apply lD_ | refine lS1_ ?_ a5.out) | exact HB.out)))
      (case aF => exact (fun k_ hk => ⟨Kd.fresh' (Kd.R_lt (by (with_reducible repeat first | apply rA_ | apply rN_ | apply rD_); exact am.out)) k_ hk, Kd.fresh' (Kd.R_lt (by (with_reducible repeat first | apply rA_ | apply rN_ | apply rD_); exact ax.out)) k_ hk⟩))
      (case aO => exact (by (with_reducible repeat first | apply rA_ | apply rN_ | apply rD_); exact Kd.R_mono ay.out (fun _ hk => ⟨hk.1.2, hk.2⟩)))
      (case aS => exact (below_size (by repeat (first | (with_reducible first | exact HB.out | apply lA1_ | apply lN_ | apply lD_ | refine lS1_ ?_ a5.out) | exact HB.out))))
      (case aL => have := bu.out; omega)
      intro v595 w19 ho hb hg hat
      rw [← bv.out] at ho
      have n0_ := Aside0.mk (blk_grown (g := ak) (o := .cells #[.int .i64 a0_0, .int .i64 a0_1, .int .i64 a0_2, .int .i64 a0_3, .int .i64 a0_4, .int .i64 a0_5, .slice A0_6 l0_6.length c0_6] 34 (0, 0)) (by (with_reducible repeat first | apply bN_ | apply bD_ | apply bA_); exact a0.out) hg (Kd.R_ne ay.out a0.out (by decide)))
      have n1_ := Aside0.mk (Kd.R_after (ok := (fun k_ => some k_ ≠ (.slice b5 t591.length b6 : Value).ownBlock)) (by (with_reducible repeat first | apply rA_ | apply rN_ | apply rD_); exact Kd.R_mono am.out (fun _ hk => ⟨hk.2, hk.1.2⟩)) hg hat)
      have n2_ := Aside0.mk (Kd.R_after (ok := (fun k_ => some k_ ≠ (v585 : Value).ownBlock)) (by (with_reducible repeat first | apply rA_ | apply rN_ | apply rD_); exact Kd.R_mono ax.out (fun _ hk => ⟨hk.1.2, hk.2⟩)) hg hat)
      have n3_ := Aside0.mk (hb)
      have n4_ := Aside0.mk (ho)
      clear a0
      clear am
      clear ax
      clear HB
      clear ay
      have a0 := n0_
      have am := n1_
      have ax := n2_
      have HB := n3_
      have b7 := n4_
      clear n0_ n1_ n2_ n3_ n4_
      clear ho hb hg hat
      obtain ⟨bm, bn, eo22⟩ := Kd.R_slice am.out
      (first | subst eo22 | (injection eo22 with f1_ f2_ f3_; have f4_ := f1_.symm; have f5_ := f3_.symm; clear f1_ f2_ f3_; subst f4_; subst f5_))
      refine hK.out _ _ ⟨(blk_cell a0.out 0).trans rfl, (blk_cell a0.out 1).trans rfl, (blk_cell a0.out 2).trans rfl, (blk_cell a0.out 3).trans rfl, (blk_cell a0.out 4).trans rfl, (blk_cell a0.out 5).trans rfl, (blk_cell a0.out 6).trans rfl⟩ (fun hHeld => ?_)
      clear hK K
      refine norm_ (a' := ?_) ?_ ?_
      rotate_left
      ·show Act.put _ (some 21) _ = _
       simp only [Act.put, lA_, lZ_, lS_, i64_w, i32_w]
       rfl
      refine one_ (i := 8) (N := some 23) #[true, true, true, true, true, true, true, true, true, false] rfl rfl (one_of HT_.out (by kernel_rfl)) (by decide) (fun K hK => ?_)
      refine Kd.R_append_rows_step (Kd.int .u8) (w0 := w) w.heap.size (by rfl) (.tmp 21) (.tmp 22) 22 5 (.int .u8 0) 1 rfl Try.underlying22 info5 rfl (by decide) (by omega) v595 y594 y584 _ _ _ (fun k_ => some k_ ≠ (.slice bm y584.length bn : Value).ownBlock ∧ some k_ ≠ (.slice b5 t591.length b6 : Value).ownBlock) (fun _ => False) rfl rfl ?aO ?aR (fun _ _ h => h) (fun _ h => h.elim) ?aF ?aB ?aS ?aL ?_
      (case aR => repeat (first | exact (Kd.R_reads' am.out).2.2 | (with_reducible refine Kd.C_alloc ?_ _) | (with_reducible refine Kd.C_drewN ?_ _) | (with_reducible refine Kd.C_drew ?_)))
      (case aB => exact (by repeat (first | (with_reducible first | exact HB.out | apply lA1_ | apply lN_ | apply lD_ | refine lS1_ ?_ a5.out) | exact HB.out)))
      (case aF => exact (fun k_ hk => ⟨Kd.fresh' (Kd.R_lt (by (with_reducible repeat first | apply rA_ | apply rN_ | apply rD_); exact am.out)) k_ hk, Kd.fresh' (Kd.R_lt (by (with_reducible repeat first | apply rA_ | apply rN_ | apply rD_); exact ax.out)) k_ hk⟩))
      (case aO => exact (by (with_reducible repeat first | apply rA_ | apply rN_ | apply rD_); exact b7.out))
      (case aS => exact (below_size (by repeat (first | (with_reducible first | exact HB.out | apply lA1_ | apply lN_ | apply lD_ | refine lS1_ ?_ a5.out) | exact HB.out))))
      (case aL => have := bw.out; omega)
      intro v598 w21 ho hb hg hat
      rw [← bx.out] at ho
      have n0_ := Aside0.mk (blk_grown (g := ak) (o := .cells #[.int .i64 a0_0, .int .i64 a0_1, .int .i64 a0_2, .int .i64 a0_3, .int .i64 a0_4, .int .i64 a0_5, .slice A0_6 l0_6.length c0_6] 34 (0, 0)) (by (with_reducible repeat first | apply bN_ | apply bD_ | apply bA_); exact a0.out) hg (Kd.R_ne b7.out a0.out (by decide)))
      have n1_ := Aside0.mk (Kd.R_after (ok := (fun k_ => some k_ ≠ (.slice b5 t591.length b6 : Value).ownBlock)) (by (with_reducible repeat first | apply rA_ | apply rN_ | apply rD_); exact am.out) hg hat)
      have n2_ := Aside0.mk (Kd.R_after (ok := (fun k_ => some k_ ≠ (.slice bm y584.length bn : Value).ownBlock)) (by (with_reducible repeat first | apply rA_ | apply rN_ | apply rD_); exact ax.out) hg hat)
      have n3_ := Aside0.mk (hb)
      have n4_ := Aside0.mk (ho)
      clear a0
      clear am
      clear ax
      clear HB
      clear b7
      have a0 := n0_
      have am := n1_
      have ax := n2_
      have HB := n3_
      have bz := n4_
      clear n0_ n1_ n2_ n3_ n4_
      clear ho hb hg hat
      refine hK.out _ _ ⟨(blk_cell a0.out 0).trans rfl, (blk_cell a0.out 1).trans rfl, (blk_cell a0.out 2).trans rfl, (blk_cell a0.out 3).trans rfl, (blk_cell a0.out 4).trans rfl, (blk_cell a0.out 5).trans rfl, (blk_cell a0.out 6).trans rfl⟩ (fun hHeld => ?_)
      clear hK K
      refine norm_ (a' := ?_) ?_ ?_
      rotate_left
      ·show Act.put _ (some 23) _ = _
       simp only [Act.put, lA_, lZ_, lS_, i64_w, i32_w]
       rfl
      refine pure_ (i := 9) (N := some 3) (v := ?_) (a' := ?_) #[true, true, true, true, true, true, true, true, true, true] rfl rfl (any_of HT_.out (by kernel_rfl)) (fun _ _ _ h => h) (Or.inl ⟨by rfl, ?_⟩) ?_ ?_
      rotate_left
      ·intro w'
       go_simp
       with_reducible rfl
      rotate_left
      ·simp only [Act.put, lA_, lZ_, lS_, i64_w, i32_w]
       rfl
      refine done_ (done_of HT_.out (by kernel_rfl)) ?_
      try go_wp2
      go_meet
      case rel => exact ⟨_, (y597), H', ⟨by first | omega | exact Nat.le_refl _⟩, ⟨by (with_reducible repeat first | apply rA_ | apply rN_ | apply rD_); exact Kd.R_mono bz.out (fun _ hk => trivial)⟩, ⟨by (with_reducible repeat first | apply bN_ | apply bD_ | apply bA_); exact a0.out⟩, ⟨by repeat (first | (with_reducible first | exact HB.out | apply lA1_ | apply lN_ | apply lD_ | refine lS1_ ?_ a5.out) | exact HB.out)⟩⟩
     ·rw [if_neg c15] at H
      exact absurd H (by simp)
    ·rw [if_neg c14] at H
     exact absurd H (by simp)
   ·replace c11 := Bool.eq_false_iff.mpr c11
    subst c11
    rw [if_neg (show ¬ (false = true) by decide)] at H
    have H' := Aside0.mk H
    clear H
    go_wp2
    go_meet
    case rel => exact ⟨_, (y584), H', ⟨by first | omega | exact Nat.le_refl _⟩, ⟨by (with_reducible repeat first | apply rA_ | apply rN_ | apply rD_); exact am.out⟩, ⟨by (with_reducible repeat first | apply bN_ | apply bD_ | apply bA_); exact a0.out⟩, ⟨by repeat (first | (with_reducible first | exact HB.out | apply lA1_ | apply lN_ | apply lD_ | refine lS1_ ?_ a5.out) | exact HB.out)⟩⟩
  case rest =>
   clear bj
   try clear c1
   try clear c2
   try clear p2
   try clear c5
   try clear c6
   try clear c11
   try clear c14
   try clear c15
   try clear hcz10_0
   try clear hcz10_1
   try clear hcz10_2
   try clear hcz10_3
   try clear hcz10_4
   try clear hcz10_5
   try clear hcz10_6
   try clear hcz8_0
   try clear hcz8_1
   try clear hcz8_2
   try clear hcz8_3
   try clear hcz8_4
   try clear hcz8_5
   try clear hcz8_6
   try clear hfz10_0
   try clear hfz10_1
   try clear hfz10_2
   try clear hfz10_3
   try clear hfz10_4
   try clear hfz10_5
   try clear hfz10_6
   try clear hfz8_0
   try clear hfz8_1
   try clear hfz8_2
   try clear hfz8_3
   try clear hfz8_4
   try clear hfz8_5
   try clear hfz8_6
   obtain ⟨kq, x3_3, HA, HJ3, a2, a0, HB⟩ := hcut
   cases kq with
   | zero => exact absurd HA.out (by simp [spec_l2Build.j0])
   | succ kj3 =>
    have H := HA.out
    clear HA
    simp only [spec_l2Build.j0] at H
    obtain ⟨y600, hy600⟩ : ∃ y_ : List Int, y_ = (([69, 0] : List Int)) := ⟨_, rfl⟩
    replace H : ((spec_l1Bytes.f kj3 (wrap64 (20 + (x3_3.length : Int))) 2).bind fun t603 => (if y600.length + t603.length < 140737488355328 then ((some (y600 ++ t603 : List Int)).bind fun y606 => ((some (([0, 0, 64, 0, (a0_3) % 256, (a0_2) % 256] : List Int) : List Int)).bind fun y609 => (if y606.length + y609.length < 140737488355328 then ((some (y606 ++ y609 : List Int)).bind fun y612 => ((spec_l1Bytes.f kj3 a0_0 4).bind fun t615 => ((spec_l1Bytes.f kj3 a0_1 4).bind fun t618 => (if t615.length + t618.length < 140737488355328 then ((some (t615 ++ t618 : List Int)).bind fun y621 => ((some (([] : List Int) : List Int)).bind fun y624 => (if y624.length + y612.length < 140737488355328 then ((some (y624 ++ y612 : List Int)).bind fun y627 => ((some (([0, 0] : List Int) : List Int)).bind fun y630 => (if y627.length + y630.length < 140737488355328 then ((some (y627 ++ y630 : List Int)).bind fun y633 => (if y633.length + y621.length < 140737488355328 then ((some (([] : List Int) : List Int)).bind fun y639 => (if y639.length + y612.length < 140737488355328 then ((some (y639 ++ y612 : List Int)).bind fun y642 => ((spec_SumWords.f kj3 (y633 ++ y621)).bind fun t645 => ((spec_l1Bytes.f kj3 t645 2).bind fun t646 => (if y642.length + t646.length < 140737488355328 then ((some (y642 ++ t646 : List Int)).bind fun y649 => (if y649.length + y621.length < 140737488355328 then ((some (y649 ++ y621 : List Int)).bind fun y652 => (if y652.length + x3_3.length < 140737488355328 then (some (y652 ++ x3_3)) else (none))) else (none))) else (none))))) else (none))) else (none))) else (none)))) else (none)))) else (none))))) else (none)))) else (none))) = some r := by first | (rw [hy600]; with_reducible exact H) | (have H2_ := (Option.bind_some _ _).symm.trans H; rw [hy600]; with_reducible exact H2_) | (have H2_ := (Option.bind_some _ _).symm.trans H; with_reducible exact H2_) | with_reducible exact H | (rw [hy600]; exact H) | exact H
    have b9 := Aside0.mk hy600
    clear hy600
    replace H := Option.bind_eq_some_iff.mp H
    obtain ⟨t603, bo, H⟩ := H
    try dsimp only at H
    have cu := Aside0.mk bo
    clear bo
    by_cases c24 : y600.length + t603.length < 140737488355328
    ·rw [if_pos c24] at H
     have c0 := Aside0.mk c24
     clear c24
     obtain ⟨y606, hy606⟩ : ∃ y_ : List Int, y_ = (y600 ++ t603) := ⟨_, rfl⟩
     replace H : ((some (([0, 0, 64, 0, (a0_3) % 256, (a0_2) % 256] : List Int) : List Int)).bind fun y609 => (if y606.length + y609.length < 140737488355328 then ((some (y606 ++ y609 : List Int)).bind fun y612 => ((spec_l1Bytes.f kj3 a0_0 4).bind fun t615 => ((spec_l1Bytes.f kj3 a0_1 4).bind fun t618 => (if t615.length + t618.length < 140737488355328 then ((some (t615 ++ t618 : List Int)).bind fun y621 => ((some (([] : List Int) : List Int)).bind fun y624 => (if y624.length + y612.length < 140737488355328 then ((some (y624 ++ y612 : List Int)).bind fun y627 => ((some (([0, 0] : List Int) : List Int)).bind fun y630 => (if y627.length + y630.length < 140737488355328 then ((some (y627 ++ y630 : List Int)).bind fun y633 => (if y633.length + y621.length < 140737488355328 then ((some (([] : List Int) : List Int)).bind fun y639 => (if y639.length + y612.length < 140737488355328 then ((some (y639 ++ y612 : List Int)).bind fun y642 => ((spec_SumWords.f kj3 (y633 ++ y621)).bind fun t645 => ((spec_l1Bytes.f kj3 t645 2).bind fun t646 => (if y642.length + t646.length < 140737488355328 then ((some (y642 ++ t646 : List Int)).bind fun y649 => (if y649.length + y621.length < 140737488355328 then ((some (y649 ++ y621 : List Int)).bind fun y652 => (if y652.length + x3_3.length < 140737488355328 then (some (y652 ++ x3_3)) else (none))) else (none))) else (none))))) else (none))) else (none))) else (none)))) else (none)))) else (none))))) else (none))) = some r := by first | (rw [hy606]; with_reducible exact H) | (have H2_ := (Option.bind_some _ _).symm.trans H; rw [hy606]; with_reducible exact H2_) | (have H2_ := (Option.bind_some _ _).symm.trans H; with_reducible exact H2_) | with_reducible exact H | (rw [hy606]; exact H) | exact H
     have c3 := Aside0.mk hy606
     clear hy606
     obtain ⟨y609, hy609⟩ : ∃ y_ : List Int, y_ = (([0, 0, 64, 0, (a0_3) % 256, (a0_2) % 256] : List Int)) := ⟨_, rfl⟩
     replace H : (if y606.length + y609.length < 140737488355328 then ((some (y606 ++ y609 : List Int)).bind fun y612 => ((spec_l1Bytes.f kj3 a0_0 4).bind fun t615 => ((spec_l1Bytes.f kj3 a0_1 4).bind fun t618 => (if t615.length + t618.length < 140737488355328 then ((some (t615 ++ t618 : List Int)).bind fun y621 => ((some (([] : List Int) : List Int)).bind fun y624 => (if y624.length + y612.length < 140737488355328 then ((some (y624 ++ y612 : List Int)).bind fun y627 => ((some (([0, 0] : List Int) : List Int)).bind fun y630 => (if y627.length + y630.length < 140737488355328 then ((some (y627 ++ y630 : List Int)).bind fun y633 => (if y633.length + y621.length < 140737488355328 then ((some (([] : List Int) : List Int)).bind fun y639 => (if y639.length + y612.length < 140737488355328 then ((some (y639 ++ y612 : List Int)).bind fun y642 => ((spec_SumWords.f kj3 (y633 ++ y621)).bind fun t645 => ((spec_l1Bytes.f kj3 t645 2).bind fun t646 => (if y642.length + t646.length < 140737488355328 then ((some (y642 ++ t646 : List Int)).bind fun y649 => (if y649.length + y621.length < 140737488355328 then ((some (y649 ++ y621 : List Int)).bind fun y652 => (if y652.length + x3_3.length < 140737488355328 then (some (y652 ++ x3_3)) else (none))) else (none))) else (none))))) else (none))) else (none))) else (none)))) else (none)))) else (none))))) else (none)) = some r := by first | (rw [hy609]; with_reducible exact H) | (have H2_ := (Option.bind_some _ _).symm.trans H; rw [hy609]; with_reducible exact H2_) | (have H2_ := (Option.bind_some _ _).symm.trans H; with_reducible exact H2_) | with_reducible exact H | (rw [hy609]; exact H) | exact H
     have ba := Aside0.mk hy609
     clear hy609
     by_cases c25 : y606.length + y609.length < 140737488355328
     ·rw [if_pos c25] at H
      have c4 := Aside0.mk c25
      clear c25
      obtain ⟨y612, hy612⟩ : ∃ y_ : List Int, y_ = (y606 ++ y609) := ⟨_, rfl⟩
      replace H : ((spec_l1Bytes.f kj3 a0_0 4).bind fun t615 => ((spec_l1Bytes.f kj3 a0_1 4).bind fun t618 => (if t615.length + t618.length < 140737488355328 then ((some (t615 ++ t618 : List Int)).bind fun y621 => ((some (([] : List Int) : List Int)).bind fun y624 => (if y624.length + y612.length < 140737488355328 then ((some (y624 ++ y612 : List Int)).bind fun y627 => ((some (([0, 0] : List Int) : List Int)).bind fun y630 => (if y627.length + y630.length < 140737488355328 then ((some (y627 ++ y630 : List Int)).bind fun y633 => (if y633.length + y621.length < 140737488355328 then ((some (([] : List Int) : List Int)).bind fun y639 => (if y639.length + y612.length < 140737488355328 then ((some (y639 ++ y612 : List Int)).bind fun y642 => ((spec_SumWords.f kj3 (y633 ++ y621)).bind fun t645 => ((spec_l1Bytes.f kj3 t645 2).bind fun t646 => (if y642.length + t646.length < 140737488355328 then ((some (y642 ++ t646 : List Int)).bind fun y649 => (if y649.length + y621.length < 140737488355328 then ((some (y649 ++ y621 : List Int)).bind fun y652 => (if y652.length + x3_3.length < 140737488355328 then (some (y652 ++ x3_3)) else (none))) else (none))) else (none))))) else (none))) else (none))) else (none)))) else (none)))) else (none)))) = some r := by first | (rw [hy612]; with_reducible exact H) | (have H2_ := (Option.bind_some _ _).symm.trans H; rw [hy612]; with_reducible exact H2_) | (have H2_ := (Option.bind_some _ _).symm.trans H; with_reducible exact H2_) | with_reducible exact H | (rw [hy612]; exact H) | exact H
      have c7 := Aside0.mk hy612
      clear hy612
      replace H := Option.bind_eq_some_iff.mp H
      obtain ⟨t615, bp, H⟩ := H
      try dsimp only at H
      have cv := Aside0.mk bp
      clear bp
      replace H := Option.bind_eq_some_iff.mp H
      obtain ⟨t618, bq, H⟩ := H
      try dsimp only at H
      have cw := Aside0.mk bq
      clear bq
      by_cases c28 : t615.length + t618.length < 140737488355328
      ·rw [if_pos c28] at H
       have c8 := Aside0.mk c28
       clear c28
       obtain ⟨y621, hy621⟩ : ∃ y_ : List Int, y_ = (t615 ++ t618) := ⟨_, rfl⟩
       replace H : ((some (([] : List Int) : List Int)).bind fun y624 => (if y624.length + y612.length < 140737488355328 then ((some (y624 ++ y612 : List Int)).bind fun y627 => ((some (([0, 0] : List Int) : List Int)).bind fun y630 => (if y627.length + y630.length < 140737488355328 then ((some (y627 ++ y630 : List Int)).bind fun y633 => (if y633.length + y621.length < 140737488355328 then ((some (([] : List Int) : List Int)).bind fun y639 => (if y639.length + y612.length < 140737488355328 then ((some (y639 ++ y612 : List Int)).bind fun y642 => ((spec_SumWords.f kj3 (y633 ++ y621)).bind fun t645 => ((spec_l1Bytes.f kj3 t645 2).bind fun t646 => (if y642.length + t646.length < 140737488355328 then ((some (y642 ++ t646 : List Int)).bind fun y649 => (if y649.length + y621.length < 140737488355328 then ((some (y649 ++ y621 : List Int)).bind fun y652 => (if y652.length + x3_3.length < 140737488355328 then (some (y652 ++ x3_3)) else (none))) else (none))) else (none))))) else (none))) else (none))) else (none)))) else (none))) = some r := by first | (rw [hy621]; with_reducible exact H) | (have H2_ := (Option.bind_some _ _).symm.trans H; rw [hy621]; with_reducible exact H2_) | (have H2_ := (Option.bind_some _ _).symm.trans H; with_reducible exact H2_) | with_reducible exact H | (rw [hy621]; exact H) | exact H
       have c9 := Aside0.mk hy621
       clear hy621
       obtain ⟨y624, hy624⟩ : ∃ y_ : List Int, y_ = (([] : List Int)) := ⟨_, rfl⟩
       replace H : (if y624.length + y612.length < 140737488355328 then ((some (y624 ++ y612 : List Int)).bind fun y627 => ((some (([0, 0] : List Int) : List Int)).bind fun y630 => (if y627.length + y630.length < 140737488355328 then ((some (y627 ++ y630 : List Int)).bind fun y633 => (if y633.length + y621.length < 140737488355328 then ((some (([] : List Int) : List Int)).bind fun y639 => (if y639.length + y612.length < 140737488355328 then ((some (y639 ++ y612 : List Int)).bind fun y642 => ((spec_SumWords.f kj3 (y633 ++ y621)).bind fun t645 => ((spec_l1Bytes.f kj3 t645 2).bind fun t646 => (if y642.length + t646.length < 140737488355328 then ((some (y642 ++ t646 : List Int)).bind fun y649 => (if y649.length + y621.length < 140737488355328 then ((some (y649 ++ y621 : List Int)).bind fun y652 => (if y652.length + x3_3.length < 140737488355328 then (some (y652 ++ x3_3)) else (none))) else (none))) else (none))))) else (none))) else (none))) else (none)))) else (none)) = some r := by first | (rw [hy624]; with_reducible exact H) | (have H2_ := (Option.bind_some _ _).symm.trans H; rw [hy624]; with_reducible exact H2_) | (have H2_ := (Option.bind_some _ _).symm.trans H; with_reducible exact H2_) | with_reducible exact H | (rw [hy624]; exact H) | exact H
       have bb := Aside0.mk hy624
       clear hy624
       by_cases c29 : y624.length + y612.length < 140737488355328
       ·rw [if_pos c29] at H
        have ca := Aside0.mk c29
        clear c29
        obtain ⟨y627, hy627⟩ : ∃ y_ : List Int, y_ = (y624 ++ y612) := ⟨_, rfl⟩
        replace H : ((some (([0, 0] : List Int) : List Int)).bind fun y630 => (if y627.length + y630.length < 140737488355328 then ((some (y627 ++ y630 : List Int)).bind fun y633 => (if y633.length + y621.length < 140737488355328 then ((some (([] : List Int) : List Int)).bind fun y639 => (if y639.length + y612.length < 140737488355328 then ((some (y639 ++ y612 : List Int)).bind fun y642 => ((spec_SumWords.f kj3 (y633 ++ y621)).bind fun t645 => ((spec_l1Bytes.f kj3 t645 2).bind fun t646 => (if y642.length + t646.length < 140737488355328 then ((some (y642 ++ t646 : List Int)).bind fun y649 => (if y649.length + y621.length < 140737488355328 then ((some (y649 ++ y621 : List Int)).bind fun y652 => (if y652.length + x3_3.length < 140737488355328 then (some (y652 ++ x3_3)) else (none))) else (none))) else (none))))) else (none))) else (none))) else (none))) = some r := by first | (rw [hy627]; with_reducible exact H) | (have H2_ := (Option.bind_some _ _).symm.trans H; rw [hy627]; with_reducible exact H2_) | (have H2_ := (Option.bind_some _ _).symm.trans H; with_reducible exact H2_) | with_reducible exact H | (rw [hy627]; exact H) | exact H
        have cb := Aside0.mk hy627
        clear hy627
        obtain ⟨y630, hy630⟩ : ∃ y_ : List Int, y_ = (([0, 0] : List Int)) := ⟨_, rfl⟩
        replace H : (if y627.length + y630.length < 140737488355328 then ((some (y627 ++ y630 : List Int)).bind fun y633 => (if y633.length + y621.length < 140737488355328 then ((some (([] : List Int) : List Int)).bind fun y639 => (if y639.length + y612.length < 140737488355328 then ((some (y639 ++ y612 : List Int)).bind fun y642 => ((spec_SumWords.f kj3 (y633 ++ y621)).bind fun t645 => ((spec_l1Bytes.f kj3 t645 2).bind fun t646 => (if y642.length + t646.length < 140737488355328 then ((some (y642 ++ t646 : List Int)).bind fun y649 => (if y649.length + y621.length < 140737488355328 then ((some (y649 ++ y621 : List Int)).bind fun y652 => (if y652.length + x3_3.length < 140737488355328 then (some (y652 ++ x3_3)) else (none))) else (none))) else (none))))) else (none))) else (none))) else (none)) = some r := by first | (rw [hy630]; with_reducible exact H) | (have H2_ := (Option.bind_some _ _).symm.trans H; rw [hy630]; with_reducible exact H2_) | (have H2_ := (Option.bind_some _ _).symm.trans H; with_reducible exact H2_) | with_reducible exact H | (rw [hy630]; exact H) | exact H
        have bc := Aside0.mk hy630
        clear hy630
        by_cases c30 : y627.length + y630.length < 140737488355328
        ·rw [if_pos c30] at H
         have cc := Aside0.mk c30
         clear c30
         obtain ⟨y633, hy633⟩ : ∃ y_ : List Int, y_ = (y627 ++ y630) := ⟨_, rfl⟩
         replace H : (if y633.length + y621.length < 140737488355328 then ((some (([] : List Int) : List Int)).bind fun y639 => (if y639.length + y612.length < 140737488355328 then ((some (y639 ++ y612 : List Int)).bind fun y642 => ((spec_SumWords.f kj3 (y633 ++ y621)).bind fun t645 => ((spec_l1Bytes.f kj3 t645 2).bind fun t646 => (if y642.length + t646.length < 140737488355328 then ((some (y642 ++ t646 : List Int)).bind fun y649 => (if y649.length + y621.length < 140737488355328 then ((some (y649 ++ y621 : List Int)).bind fun y652 => (if y652.length + x3_3.length < 140737488355328 then (some (y652 ++ x3_3)) else (none))) else (none))) else (none))))) else (none))) else (none)) = some r := by first | (rw [hy633]; with_reducible exact H) | (have H2_ := (Option.bind_some _ _).symm.trans H; rw [hy633]; with_reducible exact H2_) | (have H2_ := (Option.bind_some _ _).symm.trans H; with_reducible exact H2_) | with_reducible exact H | (rw [hy633]; exact H) | exact H
         have cd := Aside0.mk hy633
         clear hy633
         by_cases c31 : y633.length + y621.length < 140737488355328
         ·rw [if_pos c31] at H
          have ce := Aside0.mk c31
          clear c31
          obtain ⟨y636, hy636⟩ : ∃ y_ : List Int, y_ = (y633 ++ y621) := ⟨_, rfl⟩
          replace H : ((some (([] : List Int) : List Int)).bind fun y639 => (if y639.length + y612.length < 140737488355328 then ((some (y639 ++ y612 : List Int)).bind fun y642 => ((spec_SumWords.f kj3 y636).bind fun t645 => ((spec_l1Bytes.f kj3 t645 2).bind fun t646 => (if y642.length + t646.length < 140737488355328 then ((some (y642 ++ t646 : List Int)).bind fun y649 => (if y649.length + y621.length < 140737488355328 then ((some (y649 ++ y621 : List Int)).bind fun y652 => (if y652.length + x3_3.length < 140737488355328 then (some (y652 ++ x3_3)) else (none))) else (none))) else (none))))) else (none))) = some r := by first | (rw [hy636]; with_reducible exact H) | (have H2_ := (Option.bind_some _ _).symm.trans H; rw [hy636]; with_reducible exact H2_) | (have H2_ := (Option.bind_some _ _).symm.trans H; with_reducible exact H2_) | with_reducible exact H | (rw [hy636]; exact H) | exact H
          have cf := Aside0.mk hy636
          clear hy636
          obtain ⟨y639, hy639⟩ : ∃ y_ : List Int, y_ = (([] : List Int)) := ⟨_, rfl⟩
          replace H : (if y639.length + y612.length < 140737488355328 then ((some (y639 ++ y612 : List Int)).bind fun y642 => ((spec_SumWords.f kj3 y636).bind fun t645 => ((spec_l1Bytes.f kj3 t645 2).bind fun t646 => (if y642.length + t646.length < 140737488355328 then ((some (y642 ++ t646 : List Int)).bind fun y649 => (if y649.length + y621.length < 140737488355328 then ((some (y649 ++ y621 : List Int)).bind fun y652 => (if y652.length + x3_3.length < 140737488355328 then (some (y652 ++ x3_3)) else (none))) else (none))) else (none))))) else (none)) = some r := by first | (rw [hy639]; with_reducible exact H) | (have H2_ := (Option.bind_some _ _).symm.trans H; rw [hy639]; with_reducible exact H2_) | (have H2_ := (Option.bind_some _ _).symm.trans H; with_reducible exact H2_) | with_reducible exact H | (rw [hy639]; exact H) | exact H
          have bd := Aside0.mk hy639
          clear hy639
          by_cases c32 : y639.length + y612.length < 140737488355328
          ·rw [if_pos c32] at H
           have cg := Aside0.mk c32
           clear c32
           obtain ⟨y642, hy642⟩ : ∃ y_ : List Int, y_ = (y639 ++ y612) := ⟨_, rfl⟩
           replace H : ((spec_SumWords.f kj3 y636).bind fun t645 => ((spec_l1Bytes.f kj3 t645 2).bind fun t646 => (if y642.length + t646.length < 140737488355328 then ((some (y642 ++ t646 : List Int)).bind fun y649 => (if y649.length + y621.length < 140737488355328 then ((some (y649 ++ y621 : List Int)).bind fun y652 => (if y652.length + x3_3.length < 140737488355328 then (some (y652 ++ x3_3)) else (none))) else (none))) else (none)))) = some r := by first | (rw [hy642]; with_reducible exact H) | (have H2_ := (Option.bind_some _ _).symm.trans H; rw [hy642]; with_reducible exact H2_) | (have H2_ := (Option.bind_some _ _).symm.trans H; with_reducible exact H2_) | with_reducible exact H | (rw [hy642]; exact H) | exact H
           have ch := Aside0.mk hy642
           clear hy642
           replace H := Option.bind_eq_some_iff.mp H
           obtain ⟨t645, br, H⟩ := H
           try dsimp only at H
           have cx := Aside0.mk br
           clear br
           replace H := Option.bind_eq_some_iff.mp H
           obtain ⟨t646, bs, H⟩ := H
           try dsimp only at H
           have cy := Aside0.mk bs
           clear bs
           by_cases c35 : y642.length + t646.length < 140737488355328
           ·rw [if_pos c35] at H
            have ci := Aside0.mk c35
            clear c35
            obtain ⟨y649, hy649⟩ : ∃ y_ : List Int, y_ = (y642 ++ t646) := ⟨_, rfl⟩
            replace H : (if y649.length + y621.length < 140737488355328 then ((some (y649 ++ y621 : List Int)).bind fun y652 => (if y652.length + x3_3.length < 140737488355328 then (some (y652 ++ x3_3)) else (none))) else (none)) = some r := by first | (rw [hy649]; with_reducible exact H) | (have H2_ := (Option.bind_some _ _).symm.trans H; rw [hy649]; with_reducible exact H2_) | (have H2_ := (Option.bind_some _ _).symm.trans H; with_reducible exact H2_) | with_reducible exact H | (rw [hy649]; exact H) | exact H
            have cj := Aside0.mk hy649
            clear hy649
            by_cases c36 : y649.length + y621.length < 140737488355328
            ·rw [if_pos c36] at H
             have ck := Aside0.mk c36
             clear c36
             obtain ⟨y652, hy652⟩ : ∃ y_ : List Int, y_ = (y649 ++ y621) := ⟨_, rfl⟩
             replace H : (if y652.length + x3_3.length < 140737488355328 then (some (y652 ++ x3_3)) else (none)) = some r := by first | (rw [hy652]; with_reducible exact H) | (have H2_ := (Option.bind_some _ _).symm.trans H; rw [hy652]; with_reducible exact H2_) | (have H2_ := (Option.bind_some _ _).symm.trans H; with_reducible exact H2_) | with_reducible exact H | (rw [hy652]; exact H) | exact H
             have cl := Aside0.mk hy652
             clear hy652
             by_cases c37 : y652.length + x3_3.length < 140737488355328
             ·rw [if_pos c37] at H
              have cm := Aside0.mk c37
              clear c37
              obtain ⟨y655, hy655⟩ : ∃ y_ : List Int, y_ = (y652 ++ x3_3) := ⟨_, rfl⟩
              replace H : (some y655) = some r := by first | (rw [hy655]; with_reducible exact H) | (have H2_ := (Option.bind_some _ _).symm.trans H; rw [hy655]; with_reducible exact H2_) | (have H2_ := (Option.bind_some _ _).symm.trans H; with_reducible exact H2_) | with_reducible exact H | (rw [hy655]; exact H) | exact H
              have cn := Aside0.mk hy655
              clear hy655
              obtain rfl := Option.some.inj H
              try go_wp2_with (first | ((with_reducible refine gate_dst (N := 24) rfl ?_); refine Kd.R_lit (Kd.int .u8) _ 5 ?hg (N := 24) ?hd (xs := ([69, 0] : List Int)) (inner := [.int .u8 69, .int .u8 0]) (ok := fun _ => True) (okp := fun _ => True) ?hr ?hp (fun _ hk => hk) trivial (Below.refl _ _) (Nat.le_refl _) (by simp) ?_; (case hd => rfl); (case hg => rfl); (case hr => first | (go_simp; done) | (go_simp; rfl)); (case hp => exact (Reps.one (show Kd.M (Kd.int .u8) _ _ _ 69 [.int .u8 69] from rfl) (Reps.one (show Kd.M (Kd.int .u8) _ _ _ 0 [.int .u8 0] from rfl) (Reps.none _ _)))); intro v601 w38 ho39 hb hg_ hnew_; clear hg_ hnew_; (first | rw [← b9.out] at ho39 | (simp only [Int.reduceToNat] at ho39; rw [← b9.out] at ho39)); have n0_ := Aside0.mk (Kd.R_elder' (by (with_reducible repeat first | apply rA_ | apply rN_ | apply rD_); exact a2.out) (Kd.R_base ho39) hb); have n1_ := Aside0.mk (Kd.R_lower (Kd.R_new' ho39 (Kd.R_lt (by (with_reducible repeat first | apply rA_ | apply rN_ | apply rD_); exact a2.out))) (below_size (by repeat (first | (with_reducible first | exact HB.out | apply lA1_ | apply lN_ | apply lD_ | refine lS1_ ?_ a5.out) | exact HB.out)))); have n2_ := Aside0.mk (bB_ (g := ak) (o := .cells #[.int .i64 a0_0, .int .i64 a0_1, .int .i64 a0_2, .int .i64 a0_3, .int .i64 a0_4, .int .i64 a0_5, .slice A0_6 l0_6.length c0_6] 34 (0, 0)) (by (with_reducible repeat first | apply bN_ | apply bD_ | apply bA_); exact a0.out) hb); have n3_ := Aside0.mk (lP_ (by repeat (first | (with_reducible first | exact HB.out | apply lA1_ | apply lN_ | apply lD_ | refine lS1_ ?_ a5.out) | exact HB.out)) hb); clear a2 a0 HB; have a2 := n0_; have az := n1_; have a0 := n2_; have HB := n3_; clear n0_ n1_ n2_ n3_ hb ho39; obtain ⟨a7, a8, eo40⟩ := Kd.R_slice a2.out; subst eo40) | ((with_reducible refine gate_callee (f := 52) rfl ?_); refine goesA_ (some 28) rfl rfl Try.func52 (by kernel_rfl) rfl #[.int .i64 (wrap64 (20 + (x3_3.length : Int))), .int .i64 2] rfl ?_; (with_reducible refine (spec_l1Bytes.calls kj3 (wrap64 (20 + (x3_3.length : Int))) 2 t603 _ cu.out).mono ?_); rintro e w41 ⟨v604, rfl, ho0, hb⟩; refine ⟨_, rfl, ?_⟩; have n0_ := Aside0.mk (Kd.R_elder' (by (with_reducible repeat first | apply rA_ | apply rN_ | apply rD_); exact a2.out) (Kd.R_base ho0) hb); have n1_ := Aside0.mk (Kd.R_elder' (by (with_reducible repeat first | apply rA_ | apply rN_ | apply rD_); exact az.out) (Kd.R_base ho0) hb); have n2_ := Aside0.mk (Kd.R_lower (Kd.R_new' (Kd.R_new' ho0 (Kd.R_lt (by (with_reducible repeat first | apply rA_ | apply rN_ | apply rD_); exact a2.out))) (Kd.R_lt (by (with_reducible repeat first | apply rA_ | apply rN_ | apply rD_); exact az.out))) (below_size (by repeat (first | (with_reducible first | exact HB.out | apply lA1_ | apply lN_ | apply lD_ | refine lS1_ ?_ a5.out) | exact HB.out)))); have n3_ := Aside0.mk (bB_ (g := ak) (o := .cells #[.int .i64 a0_0, .int .i64 a0_1, .int .i64 a0_2, .int .i64 a0_3, .int .i64 a0_4, .int .i64 a0_5, .slice A0_6 l0_6.length c0_6] 34 (0, 0)) (by (with_reducible repeat first | apply bN_ | apply bD_ | apply bA_); exact a0.out) hb); have n4_ := Aside0.mk (lP_ (by repeat (first | (with_reducible first | exact HB.out | apply lA1_ | apply lN_ | apply lD_ | refine lS1_ ?_ a5.out) | exact HB.out)) hb); clear a2 az a0 HB; have a2 := n0_; have az := n1_; have a1 := n2_; have a0 := n3_; have HB := n4_; clear n0_ n1_ n2_ n3_ n4_; (try clear hb); (try clear hb2); (try clear hk); (try clear hi); (try clear ho0); obtain ⟨a9, aa, eo43⟩ := Kd.R_slice a1.out; subst eo43) | ((with_reducible refine gate_builtin (b := .append) (xs := #[.tmp 24, .tmp 28]) rfl ?_); at_builtin; refine Kd.R_append_rows (Kd.int .u8) (w0 := w) w.heap.size rfl (.tmp 24) (.tmp 28) 22 5 (.int .u8 0) 1 rfl Try.underlying22 info5 rfl (by decide) (by omega) v601 y600 t603 _ _ _ (fun k_ => some k_ ≠ (.slice a7 x3_3.length a8 : Value).ownBlock ∧ some k_ ≠ (.slice a9 t603.length aa : Value).ownBlock) (fun _ => False) rfl rfl ?aO ?aR (fun _ _ h => h) (fun _ h => h.elim) ?aF ?aB ?aS ?aL ?_; (case aR => repeat (first | exact (Kd.R_reads' a1.out).2.2 | (with_reducible refine Kd.C_alloc ?_ _) | (with_reducible refine Kd.C_drewN ?_ _) | (with_reducible refine Kd.C_drew ?_))); (case aB => exact (by repeat (first | (with_reducible first | exact HB.out | apply lA1_ | apply lN_ | apply lD_ | refine lS1_ ?_ a5.out) | exact HB.out))); (case aF => exact (fun k_ hk => ⟨Kd.fresh' (Kd.R_lt (by (with_reducible repeat first | apply rA_ | apply rN_ | apply rD_); exact a2.out)) k_ hk, Kd.fresh' (Kd.R_lt (by (with_reducible repeat first | apply rA_ | apply rN_ | apply rD_); exact a1.out)) k_ hk⟩)); (case aO => exact (by (with_reducible repeat first | apply rA_ | apply rN_ | apply rD_); exact Kd.R_mono az.out (fun _ hk => ⟨hk.1.2, hk.2⟩))); (case aS => exact (below_size (by repeat (first | (with_reducible first | exact HB.out | apply lA1_ | apply lN_ | apply lD_ | refine lS1_ ?_ a5.out) | exact HB.out)))); (case aL => have := c0.out; omega); intro v607 w42 ho hb hg hat; rw [← c3.out] at ho; have n0_ := Aside0.mk (Kd.R_after (ok := (fun k_ => some k_ ≠ (.slice a9 t603.length aa : Value).ownBlock)) (by (with_reducible repeat first | apply rA_ | apply rN_ | apply rD_); exact Kd.R_mono a2.out (fun _ hk => ⟨hk.2, hk.1.2⟩)) hg hat); have n1_ := Aside0.mk (blk_grown (g := ak) (o := .cells #[.int .i64 a0_0, .int .i64 a0_1, .int .i64 a0_2, .int .i64 a0_3, .int .i64 a0_4, .int .i64 a0_5, .slice A0_6 l0_6.length c0_6] 34 (0, 0)) (by (with_reducible repeat first | apply bN_ | apply bD_ | apply bA_); exact a0.out) hg (Kd.R_ne az.out a0.out (by decide))); have n2_ := Aside0.mk (Kd.R_after (ok := (fun k_ => some k_ ≠ (.slice a7 x3_3.length a8 : Value).ownBlock)) (by (with_reducible repeat first | apply rA_ | apply rN_ | apply rD_); exact Kd.R_mono a1.out (fun _ hk => ⟨hk.1.2, hk.2⟩)) hg hat); have n3_ := Aside0.mk (hb); have n4_ := Aside0.mk (ho); clear a2 a0 a1 HB az; have a2 := n0_; have a0 := n1_; have a1 := n2_; have HB := n3_; have b0 := n4_; clear n0_ n1_ n2_ n3_ n4_ ho hb hg hat; obtain ⟨_, _, _, _, _, _, _, _, _, _, _, _, _, _⟩ := bc7 a0.out) | ((with_reducible refine gate_dst (N := 37) rfl ?_); refine Kd.R_lit (Kd.int .u8) _ 5 ?hg (N := 37) ?hd (xs := ([0, 0, 64, 0, (a0_3) % 256, (a0_2) % 256] : List Int)) (inner := [.int .u8 0, .int .u8 0, .int .u8 64, .int .u8 0, .int .u8 ((a0_3) % 256), .int .u8 ((a0_2) % 256)]) (ok := fun _ => True) (okp := fun _ => True) ?hr ?hp (fun _ hk => hk) trivial (Below.refl _ _) (Nat.le_refl _) (by simp) ?_; (case hd => rfl); (case hg => rfl); (case hr => first | (go_simp; done) | (go_simp; rfl)); (case hp => exact (Reps.one (show Kd.M (Kd.int .u8) _ _ _ 0 [.int .u8 0] from rfl) (Reps.one (show Kd.M (Kd.int .u8) _ _ _ 0 [.int .u8 0] from rfl) (Reps.one (show Kd.M (Kd.int .u8) _ _ _ 64 [.int .u8 64] from rfl) (Reps.one (show Kd.M (Kd.int .u8) _ _ _ 0 [.int .u8 0] from rfl) (Reps.one (show Kd.M (Kd.int .u8) _ _ _ ((a0_3) % 256) [.int .u8 ((a0_3) % 256)] from rfl) (Reps.one (show Kd.M (Kd.int .u8) _ _ _ ((a0_2) % 256) [.int .u8 ((a0_2) % 256)] from rfl) (Reps.none _ _)))))))); intro v610 w45 ho46 hb hg_ hnew_; clear hg_ hnew_; (first | rw [← ba.out] at ho46 | (simp only [Int.reduceToNat] at ho46; rw [← ba.out] at ho46)); have n0_ := Aside0.mk (Kd.R_elder' (by (with_reducible repeat first | apply rA_ | apply rN_ | apply rD_); exact a2.out) (Kd.R_base ho46) hb); have n1_ := Aside0.mk (Kd.R_elder' (by (with_reducible repeat first | apply rA_ | apply rN_ | apply rD_); exact a1.out) (Kd.R_base ho46) hb); have n2_ := Aside0.mk (Kd.R_elder' (by (with_reducible repeat first | apply rA_ | apply rN_ | apply rD_); exact b0.out) (Kd.R_base ho46) hb); have n3_ := Aside0.mk (Kd.R_lower (Kd.R_new' (Kd.R_new' (Kd.R_new' ho46 (Kd.R_lt (by (with_reducible repeat first | apply rA_ | apply rN_ | apply rD_); exact a2.out))) (Kd.R_lt (by (with_reducible repeat first | apply rA_ | apply rN_ | apply rD_); exact a1.out))) (Kd.R_lt (by (with_reducible repeat first | apply rA_ | apply rN_ | apply rD_); exact b0.out))) (below_size (by repeat (first | (with_reducible first | exact HB.out | apply lA1_ | apply lN_ | apply lD_ | refine lS1_ ?_ a5.out) | exact HB.out)))); have n4_ := Aside0.mk (bB_ (g := ak) (o := .cells #[.int .i64 a0_0, .int .i64 a0_1, .int .i64 a0_2, .int .i64 a0_3, .int .i64 a0_4, .int .i64 a0_5, .slice A0_6 l0_6.length c0_6] 34 (0, 0)) (by (with_reducible repeat first | apply bN_ | apply bD_ | apply bA_); exact a0.out) hb); have n5_ := Aside0.mk (lP_ (by repeat (first | (with_reducible first | exact HB.out | apply lA1_ | apply lN_ | apply lD_ | refine lS1_ ?_ a5.out) | exact HB.out)) hb); clear a2 a1 b0 a0 HB; have a2 := n0_; have a1 := n1_; have b0 := n2_; have a3 := n3_; have a0 := n4_; have HB := n5_; clear n0_ n1_ n2_ n3_ n4_ n5_ hb ho46; obtain ⟨ac, ad, eo48⟩ := Kd.R_slice a3.out; subst eo48) | ((with_reducible refine gate_builtin (b := .append) (xs := #[.tmp 30, .tmp 37]) rfl ?_); at_builtin; refine Kd.R_append_rows (Kd.int .u8) (w0 := w) w.heap.size rfl (.tmp 30) (.tmp 37) 22 5 (.int .u8 0) 1 rfl Try.underlying22 info5 rfl (by decide) (by omega) v607 y606 y609 _ _ _ (fun k_ => some k_ ≠ (.slice a7 x3_3.length a8 : Value).ownBlock ∧ some k_ ≠ (.slice a9 t603.length aa : Value).ownBlock ∧ some k_ ≠ (.slice ac y609.length ad : Value).ownBlock) (fun _ => False) rfl rfl ?aO ?aR (fun _ _ h => h) (fun _ h => h.elim) ?aF ?aB ?aS ?aL ?_; (case aR => repeat (first | exact (Kd.R_reads' a3.out).2.2 | (with_reducible refine Kd.C_alloc ?_ _) | (with_reducible refine Kd.C_drewN ?_ _) | (with_reducible refine Kd.C_drew ?_))); (case aB => exact (by repeat (first | (with_reducible first | exact HB.out | apply lA1_ | apply lN_ | apply lD_ | refine lS1_ ?_ a5.out) | exact HB.out))); (case aF => exact (fun k_ hk => ⟨Kd.fresh' (Kd.R_lt (by (with_reducible repeat first | apply rA_ | apply rN_ | apply rD_); exact a2.out)) k_ hk, Kd.fresh' (Kd.R_lt (by (with_reducible repeat first | apply rA_ | apply rN_ | apply rD_); exact a1.out)) k_ hk, Kd.fresh' (Kd.R_lt (by (with_reducible repeat first | apply rA_ | apply rN_ | apply rD_); exact a3.out)) k_ hk⟩)); (case aO => exact (by (with_reducible repeat first | apply rA_ | apply rN_ | apply rD_); exact Kd.R_mono b0.out (fun _ hk => ⟨hk.1.1, ⟨hk.1.2, hk.2⟩⟩))); (case aS => exact (below_size (by repeat (first | (with_reducible first | exact HB.out | apply lA1_ | apply lN_ | apply lD_ | refine lS1_ ?_ a5.out) | exact HB.out)))); (case aL => have := c4.out; omega); intro v613 w47 ho hb hg hat; rw [← c7.out] at ho; have n0_ := Aside0.mk (Kd.R_after (ok := (fun k_ => some k_ ≠ (.slice a9 t603.length aa : Value).ownBlock ∧ some k_ ≠ (.slice ac y609.length ad : Value).ownBlock)) (by (with_reducible repeat first | apply rA_ | apply rN_ | apply rD_); exact Kd.R_mono a2.out (fun _ hk => ⟨⟨hk.1.1, hk.2⟩, hk.1.2⟩)) hg hat); have n1_ := Aside0.mk (blk_grown (g := ak) (o := .cells #[.int .i64 a0_0, .int .i64 a0_1, .int .i64 a0_2, .int .i64 a0_3, .int .i64 a0_4, .int .i64 a0_5, .slice A0_6 l0_6.length c0_6] 34 (0, 0)) (by (with_reducible repeat first | apply bN_ | apply bD_ | apply bA_); exact a0.out) hg (Kd.R_ne b0.out a0.out (by decide))); have n2_ := Aside0.mk (Kd.R_after (ok := (fun k_ => some k_ ≠ (.slice a7 x3_3.length a8 : Value).ownBlock ∧ some k_ ≠ (.slice ac y609.length ad : Value).ownBlock)) (by (with_reducible repeat first | apply rA_ | apply rN_ | apply rD_); exact Kd.R_mono a1.out (fun _ hk => ⟨⟨hk.1.1, hk.2⟩, hk.1.2⟩)) hg hat); have n3_ := Aside0.mk (Kd.R_after (ok := (fun k_ => some k_ ≠ (.slice a7 x3_3.length a8 : Value).ownBlock ∧ some k_ ≠ (.slice a9 t603.length aa : Value).ownBlock)) (by (with_reducible repeat first | apply rA_ | apply rN_ | apply rD_); exact Kd.R_mono a3.out (fun _ hk => ⟨⟨hk.1.1.2, hk.1.2⟩, hk.2⟩)) hg hat); have n4_ := Aside0.mk (hb); have n5_ := Aside0.mk (ho); clear a2 a0 a1 a3 HB b0; have a2 := n0_; have a0 := n1_; have a1 := n2_; have a3 := n3_; have HB := n4_; have a4 := n5_; clear n0_ n1_ n2_ n3_ n4_ n5_ ho hb hg hat))
              have n0_ := Aside0.mk (rD_ a2.out)
              have n1_ := Aside0.mk (rD_ a1.out)
              have n2_ := Aside0.mk (rD_ a3.out)
              have n3_ := Aside0.mk (rD_ a4.out)
              have n4_ := Aside0.mk (bD_ a0.out)
              have n5_ := Aside0.mk (lD_ HB.out)
              clear a2
              clear a1
              clear a3
              clear a4
              clear a0
              clear HB
              have a2 := n0_
              have a1 := n1_
              have a3 := n2_
              have a4 := n3_
              have a0 := n4_
              have HB := n5_
              clear n0_ n1_ n2_ n3_ n4_ n5_
              refine start_ (n := 8) (S := fun w' => w'.cell? ⟨ak, 0, none⟩ = some (.int .i64 a0_0) ∧ w'.cell? ⟨ak, 1, none⟩ = some (.int .i64 a0_1) ∧ w'.cell? ⟨ak, 2, none⟩ = some (.int .i64 a0_2) ∧ w'.cell? ⟨ak, 3, none⟩ = some (.int .i64 a0_3) ∧ w'.cell? ⟨ak, 4, none⟩ = some (.int .i64 a0_4) ∧ w'.cell? ⟨ak, 5, none⟩ = some (.int .i64 a0_5) ∧ w'.cell? ⟨ak, 6, none⟩ = some (.slice A0_6 l0_6.length c0_6)) (ds := []) #[false, false, false, false, false, false, false, false] (by kernel_rfl) rfl rfl ⟨(blk_cell a0.out 0).trans rfl, (blk_cell a0.out 1).trans rfl, (blk_cell a0.out 2).trans rfl, (blk_cell a0.out 3).trans rfl, (blk_cell a0.out 4).trans rfl, (blk_cell a0.out 5).trans rfl, (blk_cell a0.out 6).trans rfl⟩ (fun hHeld => ?_); refine with_tabW spec_l2Build.tab6 spec_l2Build.bits6 (fun HT_ HW_ => ?_)
              generalize w47.drew = w49 at a2 a1 a3 a4 a0 HB hHeld ⊢
              refine pure_ (i := 0) (N := some 39) (v := ?_) (a' := ?_) #[true, false, false, false, false, false, false, false] rfl rfl (any_of HT_.out (by kernel_rfl)) (fun _ _ _ h => h) (Or.inl ⟨by rfl, ?_⟩) ?_ ?_
              rotate_left
              ·intro w'
               go_simp
               with_reducible rfl
              rotate_left
              ·simp only [Act.put, lA_, lZ_, lS_, i64_w, i32_w]
               rfl
              refine pure_ (i := 3) (N := some 42) (v := ?_) (a' := ?_) #[true, false, false, true, false, false, false, false] rfl rfl (any_of HT_.out (by kernel_rfl)) (fun _ _ _ h => h) (Or.inl ⟨by rfl, ?_⟩) ?_ ?_
              rotate_left
              ·intro w'
               go_simp
               with_reducible rfl
              rotate_left
              ·simp only [Act.put, lA_, lZ_, lS_, i64_w, i32_w]
               rfl
              refine take_ (i := 1) (N := some 40) (v := ?_) (a' := ?_) #[true, true, false, true, false, false, false, false] rfl rfl (take_ofW HT_.out HW_.out (by kernel_rfl)) (fun _ _ _ h => h) (Or.inl ⟨by rfl, ?_⟩) hHeld ?_ ?_
              rotate_left
              ·rintro w' ⟨s0, s1, s2, s3, s4, s5, s6⟩
               go_simp
               with_reducible rfl
              rotate_left
              ·simp only [Act.put, lA_, lZ_, lS_, i64_w, i32_w]
               rfl
              refine take_ (i := 4) (N := some 43) (v := ?_) (a' := ?_) #[true, true, false, true, true, false, false, false] rfl rfl (take_ofW HT_.out HW_.out (by kernel_rfl)) (fun _ _ _ h => h) (Or.inl ⟨by rfl, ?_⟩) hHeld ?_ ?_
              rotate_left
              ·rintro w' ⟨s0, s1, s2, s3, s4, s5, s6⟩
               go_simp
               with_reducible rfl
              rotate_left
              ·simp only [Act.put, lA_, lZ_, lS_, i64_w, i32_w]
               rfl
              refine one_ (i := 2) (N := some 41) #[true, true, true, true, true, false, false, false] rfl rfl (one_of HT_.out (by kernel_rfl)) (by decide) (fun K hK => ?_)
              refine goes_ Try.func52 (by kernel_rfl) rfl #[.int .i64 a0_0, .int .i64 4] (by rfl) rfl rfl (by (try simp only [List.map_toArray, List.map_cons, List.map_nil]); first | done | rfl | (simp only [List.length_drop, List.length_take]; rfl)) ?_
              with_reducible refine (spec_l1Bytes.calls kj3 a0_0 4 t615 _ cv.out).mono ?_
              rintro e w50 ⟨v616, rfl, ho0, hb⟩
              refine ⟨_, rfl, ?_⟩
              have n0_ := Aside0.mk (Kd.R_elder' (by (with_reducible repeat first | apply rA_ | apply rN_ | apply rD_); exact a2.out) (Kd.R_base ho0) hb)
              have n1_ := Aside0.mk (Kd.R_elder' (by (with_reducible repeat first | apply rA_ | apply rN_ | apply rD_); exact a1.out) (Kd.R_base ho0) hb)
              have n2_ := Aside0.mk (Kd.R_elder' (by (with_reducible repeat first | apply rA_ | apply rN_ | apply rD_); exact a3.out) (Kd.R_base ho0) hb)
              have n3_ := Aside0.mk (Kd.R_elder' (by (with_reducible repeat first | apply rA_ | apply rN_ | apply rD_); exact a4.out) (Kd.R_base ho0) hb)
              have n4_ := Aside0.mk (Kd.R_lower (Kd.R_new' (Kd.R_new' (Kd.R_new' (Kd.R_new' ho0 (Kd.R_lt (by (with_reducible repeat first | apply rA_ | apply rN_ | apply rD_); exact a2.out))) (Kd.R_lt (by (with_reducible repeat first | apply rA_ | apply rN_ | apply rD_); exact a1.out))) (Kd.R_lt (by (with_reducible repeat first | apply rA_ | apply rN_ | apply rD_); exact a3.out))) (Kd.R_lt (by (with_reducible repeat first | apply rA_ | apply rN_ | apply rD_); exact a4.out))) (below_size (by repeat (first | (with_reducible first | exact HB.out | apply lA1_ | apply lN_ | apply lD_ | refine lS1_ ?_ a5.out) | exact HB.out))))
              have n5_ := Aside0.mk (bB_ (g := ak) (o := .cells #[.int .i64 a0_0, .int .i64 a0_1, .int .i64 a0_2, .int .i64 a0_3, .int .i64 a0_4, .int .i64 a0_5, .slice A0_6 l0_6.length c0_6] 34 (0, 0)) (by (with_reducible repeat first | apply bN_ | apply bD_ | apply bA_); exact a0.out) hb)
              have n6_ := Aside0.mk (lP_ (by repeat (first | (with_reducible first | exact HB.out | apply lA1_ | apply lN_ | apply lD_ | refine lS1_ ?_ a5.out) | exact HB.out)) hb)
              clear a2
              clear a1
              clear a3
              clear a4
              clear a0
              clear HB
              have a2 := n0_
              have a1 := n1_
              have a3 := n2_
              have a4 := n3_
              have b1 := n4_
              have a0 := n5_
              have HB := n6_
              clear n0_ n1_ n2_ n3_ n4_ n5_ n6_
              (try clear hb)
              (try clear hb2)
              (try clear hk)
              (try clear hi)
              (try clear ho0)
              refine hK.out _ _ ⟨(blk_cell a0.out 0).trans rfl, (blk_cell a0.out 1).trans rfl, (blk_cell a0.out 2).trans rfl, (blk_cell a0.out 3).trans rfl, (blk_cell a0.out 4).trans rfl, (blk_cell a0.out 5).trans rfl, (blk_cell a0.out 6).trans rfl⟩ (fun hHeld => ?_)
              clear hK K
              refine norm_ (a' := ?_) ?_ ?_
              rotate_left
              ·show Act.put _ (some 41) _ = _
               simp only [Act.put, lA_, lZ_, lS_, i64_w, i32_w]
               rfl
              refine one_ (i := 5) (N := some 44) #[true, true, true, true, true, true, false, false] rfl rfl (one_of HT_.out (by kernel_rfl)) (by decide) (fun K hK => ?_)
              refine goes_ Try.func52 (by kernel_rfl) rfl #[.int .i64 a0_1, .int .i64 4] (by rfl) rfl rfl (by (try simp only [List.map_toArray, List.map_cons, List.map_nil]); first | done | rfl | (simp only [List.length_drop, List.length_take]; rfl)) ?_
              with_reducible refine (spec_l1Bytes.calls kj3 a0_1 4 t618 _ cw.out).mono ?_
              rintro e w51 ⟨v619, rfl, ho0, hb⟩
              refine ⟨_, rfl, ?_⟩
              have n0_ := Aside0.mk (Kd.R_elder' (by (with_reducible repeat first | apply rA_ | apply rN_ | apply rD_); exact a2.out) (Kd.R_base ho0) hb)
              have n1_ := Aside0.mk (Kd.R_elder' (by (with_reducible repeat first | apply rA_ | apply rN_ | apply rD_); exact a1.out) (Kd.R_base ho0) hb)
              have n2_ := Aside0.mk (Kd.R_elder' (by (with_reducible repeat first | apply rA_ | apply rN_ | apply rD_); exact a3.out) (Kd.R_base ho0) hb)
              have n3_ := Aside0.mk (Kd.R_elder' (by (with_reducible repeat first | apply rA_ | apply rN_ | apply rD_); exact a4.out) (Kd.R_base ho0) hb)
              have n4_ := Aside0.mk (Kd.R_elder' (by (with_reducible repeat first | apply rA_ | apply rN_ | apply rD_); exact b1.out) (Kd.R_base ho0) hb)
              have n5_ := Aside0.mk (Kd.R_lower (Kd.R_new' (Kd.R_new' (Kd.R_new' (Kd.R_new' (Kd.R_new' ho0 (Kd.R_lt (by (with_reducible repeat first | apply rA_ | apply rN_ | apply rD_); exact a2.out))) (Kd.R_lt (by (with_reducible repeat first | apply rA_ | apply rN_ | apply rD_); exact a1.out))) (Kd.R_lt (by (with_reducible repeat first | apply rA_ | apply rN_ | apply rD_); exact a3.out))) (Kd.R_lt (by (with_reducible repeat first | apply rA_ | apply rN_ | apply rD_); exact a4.out))) (Kd.R_lt (by (with_reducible repeat first | apply rA_ | apply rN_ | apply rD_); exact b1.out))) (below_size (by repeat (first | (with_reducible first | exact HB.out | apply lA1_ | apply lN_ | apply lD_ | refine lS1_ ?_ a5.out) | exact HB.out))))
              have n6_ := Aside0.mk (bB_ (g := ak) (o := .cells #[.int .i64 a0_0, .int .i64 a0_1, .int .i64 a0_2, .int .i64 a0_3, .int .i64 a0_4, .int .i64 a0_5, .slice A0_6 l0_6.length c0_6] 34 (0, 0)) (by (with_reducible repeat first | apply bN_ | apply bD_ | apply bA_); exact a0.out) hb)
              have n7_ := Aside0.mk (lP_ (by repeat (first | (with_reducible first | exact HB.out | apply lA1_ | apply lN_ | apply lD_ | refine lS1_ ?_ a5.out) | exact HB.out)) hb)
              clear a2
              clear a1
              clear a3
              clear a4
              clear b1
              clear a0
              clear HB
              have a2 := n0_
              have a1 := n1_
              have a3 := n2_
              have a4 := n3_
              have b1 := n4_
              have a6 := n5_
              have a0 := n6_
              have HB := n7_
              clear n0_ n1_ n2_ n3_ n4_ n5_ n6_ n7_
              (try clear hb)
              (try clear hb2)
              (try clear hk)
              (try clear hi)
              (try clear ho0)
              obtain ⟨ae, af, eo53⟩ := Kd.R_slice a6.out
              (first | subst eo53 | (injection eo53 with f1_ f2_ f3_; have f4_ := f1_.symm; have f5_ := f3_.symm; clear f1_ f2_ f3_; subst f4_; subst f5_))
              refine hK.out _ _ ⟨(blk_cell a0.out 0).trans rfl, (blk_cell a0.out 1).trans rfl, (blk_cell a0.out 2).trans rfl, (blk_cell a0.out 3).trans rfl, (blk_cell a0.out 4).trans rfl, (blk_cell a0.out 5).trans rfl, (blk_cell a0.out 6).trans rfl⟩ (fun hHeld => ?_)
              clear hK K
              refine norm_ (a' := ?_) ?_ ?_
              rotate_left
              ·show Act.put _ (some 44) _ = _
               simp only [Act.put, lA_, lZ_, lS_, i64_w, i32_w]
               rfl
              refine one_ (i := 6) (N := some 45) #[true, true, true, true, true, true, true, false] rfl rfl (one_of HT_.out (by kernel_rfl)) (by decide) (fun K hK => ?_)
              refine Kd.R_append_rows_step (Kd.int .u8) (w0 := w) w.heap.size (by rfl) (.tmp 41) (.tmp 44) 22 5 (.int .u8 0) 1 rfl Try.underlying22 info5 rfl (by decide) (by omega) v616 t615 t618 _ _ _ (fun k_ => some k_ ≠ (.slice a7 x3_3.length a8 : Value).ownBlock ∧ some k_ ≠ (.slice a9 t603.length aa : Value).ownBlock ∧ some k_ ≠ (.slice ac y609.length ad : Value).ownBlock ∧ some k_ ≠ (v613 : Value).ownBlock ∧ some k_ ≠ (.slice ae t618.length af : Value).ownBlock) (fun _ => False) rfl rfl ?aO ?aR (fun _ _ h => h) (fun _ h => h.elim) ?aF ?aB ?aS ?aL ?_
              (case aR => repeat (first | exact (Kd.R_reads' a6.out).2.2 | (with_reducible refine Kd.C_alloc ?_ _) | (with_reducible refine Kd.C_drewN ?_ _) | (with_reducible refine Kd.C_drew ?_)))
              (case aB => exact (by repeat (first | (with_reducible first | exact HB.out | apply lA1_ | apply lN_ | apply lD_ | refine lS1_ ?_ a5.out) | exact HB.out)))
              (case aF => exact (fun k_ hk => ⟨Kd.fresh' (Kd.R_lt (by (with_reducible repeat first | apply rA_ | apply rN_ | apply rD_); exact a2.out)) k_ hk, Kd.fresh' (Kd.R_lt (by (with_reducible repeat first | apply rA_ | apply rN_ | apply rD_); exact a1.out)) k_ hk, Kd.fresh' (Kd.R_lt (by (with_reducible repeat first | apply rA_ | apply rN_ | apply rD_); exact a3.out)) k_ hk, Kd.fresh' (Kd.R_lt (by (with_reducible repeat first | apply rA_ | apply rN_ | apply rD_); exact a4.out)) k_ hk, Kd.fresh' (Kd.R_lt (by (with_reducible repeat first | apply rA_ | apply rN_ | apply rD_); exact a6.out)) k_ hk⟩))
              (case aO => exact (by (with_reducible repeat first | apply rA_ | apply rN_ | apply rD_); exact Kd.R_mono b1.out (fun _ hk => ⟨hk.1.1.1.1.2, ⟨hk.1.1.1.2, ⟨hk.1.1.2, ⟨hk.1.2, hk.2⟩⟩⟩⟩)))
              (case aS => exact (below_size (by repeat (first | (with_reducible first | exact HB.out | apply lA1_ | apply lN_ | apply lD_ | refine lS1_ ?_ a5.out) | exact HB.out))))
              (case aL => have := c8.out; omega)
              intro v622 w52 ho hb hg hat
              rw [← c9.out] at ho
              have n0_ := Aside0.mk (Kd.R_after (ok := (fun k_ => some k_ ≠ (.slice a9 t603.length aa : Value).ownBlock ∧ some k_ ≠ (.slice ac y609.length ad : Value).ownBlock ∧ some k_ ≠ (v613 : Value).ownBlock ∧ some k_ ≠ (.slice ae t618.length af : Value).ownBlock)) (by (with_reducible repeat first | apply rA_ | apply rN_ | apply rD_); exact Kd.R_mono a2.out (fun _ hk => ⟨⟨hk.1.1.1.1, ⟨hk.1.1.1.2, ⟨hk.1.1.2, hk.2⟩⟩⟩, hk.1.2⟩)) hg hat)
              have n1_ := Aside0.mk (blk_grown (g := ak) (o := .cells #[.int .i64 a0_0, .int .i64 a0_1, .int .i64 a0_2, .int .i64 a0_3, .int .i64 a0_4, .int .i64 a0_5, .slice A0_6 l0_6.length c0_6] 34 (0, 0)) (by (with_reducible repeat first | apply bN_ | apply bD_ | apply bA_); exact a0.out) hg (Kd.R_ne b1.out a0.out (by decide)))
              have n2_ := Aside0.mk (Kd.R_after (ok := (fun k_ => some k_ ≠ (.slice a7 x3_3.length a8 : Value).ownBlock ∧ some k_ ≠ (.slice ac y609.length ad : Value).ownBlock ∧ some k_ ≠ (v613 : Value).ownBlock ∧ some k_ ≠ (.slice ae t618.length af : Value).ownBlock)) (by (with_reducible repeat first | apply rA_ | apply rN_ | apply rD_); exact Kd.R_mono a1.out (fun _ hk => ⟨⟨hk.1.1.1.1, ⟨hk.1.1.1.2, ⟨hk.1.1.2, hk.2⟩⟩⟩, hk.1.2⟩)) hg hat)
              have n3_ := Aside0.mk (Kd.R_after (ok := (fun k_ => some k_ ≠ (.slice a7 x3_3.length a8 : Value).ownBlock ∧ some k_ ≠ (.slice a9 t603.length aa : Value).ownBlock ∧ some k_ ≠ (v613 : Value).ownBlock ∧ some k_ ≠ (.slice ae t618.length af : Value).ownBlock)) (by (with_reducible repeat first | apply rA_ | apply rN_ | apply rD_); exact Kd.R_mono a3.out (fun _ hk => ⟨⟨hk.1.1.1.1, ⟨hk.1.1.1.2, ⟨hk.1.1.2, hk.2⟩⟩⟩, hk.1.2⟩)) hg hat)
              have n4_ := Aside0.mk (Kd.R_after (ok := (fun k_ => some k_ ≠ (.slice a7 x3_3.length a8 : Value).ownBlock ∧ some k_ ≠ (.slice a9 t603.length aa : Value).ownBlock ∧ some k_ ≠ (.slice ac y609.length ad : Value).ownBlock ∧ some k_ ≠ (.slice ae t618.length af : Value).ownBlock)) (by (with_reducible repeat first | apply rA_ | apply rN_ | apply rD_); exact Kd.R_mono a4.out (fun _ hk => ⟨⟨hk.1.1.1, ⟨hk.1.1.2.1, ⟨hk.1.1.2.2, hk.2⟩⟩⟩, hk.1.2⟩)) hg hat)
              have n5_ := Aside0.mk (Kd.R_after (ok := (fun k_ => some k_ ≠ (.slice a7 x3_3.length a8 : Value).ownBlock ∧ some k_ ≠ (.slice a9 t603.length aa : Value).ownBlock ∧ some k_ ≠ (.slice ac y609.length ad : Value).ownBlock ∧ some k_ ≠ (v613 : Value).ownBlock)) (by (with_reducible repeat first | apply rA_ | apply rN_ | apply rD_); exact Kd.R_mono a6.out (fun _ hk => ⟨⟨hk.1.1.1.1.2, ⟨hk.1.1.1.2, ⟨hk.1.1.2, hk.1.2⟩⟩⟩, hk.2⟩)) hg hat)
              have n6_ := Aside0.mk (hb)
              have n7_ := Aside0.mk (ho)
              clear a2
              clear a0
              clear a1
              clear a3
              clear a4
              clear a6
              clear HB
              clear b1
              have a2 := n0_
              have a0 := n1_
              have a1 := n2_
              have a3 := n3_
              have a4 := n4_
              have a6 := n5_
              have HB := n6_
              have ab := n7_
              clear n0_ n1_ n2_ n3_ n4_ n5_ n6_ n7_
              clear ho hb hg hat
              refine hK.out _ _ ⟨(blk_cell a0.out 0).trans rfl, (blk_cell a0.out 1).trans rfl, (blk_cell a0.out 2).trans rfl, (blk_cell a0.out 3).trans rfl, (blk_cell a0.out 4).trans rfl, (blk_cell a0.out 5).trans rfl, (blk_cell a0.out 6).trans rfl⟩ (fun hHeld => ?_)
              clear hK K
              refine norm_ (a' := ?_) ?_ ?_
              rotate_left
              ·show Act.put _ (some 45) _ = _
               simp only [Act.put, lA_, lZ_, lS_, i64_w, i32_w]
               rfl
              refine pure_ (i := 7) (N := some 5) (v := ?_) (a' := ?_) #[true, true, true, true, true, true, true, true] rfl rfl (any_of HT_.out (by kernel_rfl)) (fun _ _ _ h => h) (Or.inl ⟨by rfl, ?_⟩) ?_ ?_
              rotate_left
              ·intro w'
               go_simp
               with_reducible rfl
              rotate_left
              ·simp only [Act.put, lA_, lZ_, lS_, i64_w, i32_w]
               rfl
              refine done_ (done_of HT_.out (by kernel_rfl)) ?_
              try go_wp2_with (first | ((with_reducible refine gate_dst (N := 46) rfl ?_); refine Kd.R_lit (Kd.int .u8) _ 5 ?hg (N := 46) ?hd (xs := ([] : List Int)) (inner := []) (ok := fun _ => True) (okp := fun _ => True) ?hr ?hp (fun _ hk => hk) trivial (Below.refl _ _) (Nat.le_refl _) (by simp) ?_; (case hd => rfl); (case hg => rfl); (case hr => first | (go_simp; done) | (go_simp; rfl)); (case hp => exact (Reps.none _ _)); intro v625 w54 ho55 hb hg_ hnew_; clear hg_ hnew_; (first | rw [← bb.out] at ho55 | (simp only [Int.reduceToNat] at ho55; rw [← bb.out] at ho55)); have n0_ := Aside0.mk (Kd.R_elder' (by (with_reducible repeat first | apply rA_ | apply rN_ | apply rD_); exact a2.out) (Kd.R_base ho55) hb); have n1_ := Aside0.mk (Kd.R_elder' (by (with_reducible repeat first | apply rA_ | apply rN_ | apply rD_); exact a1.out) (Kd.R_base ho55) hb); have n2_ := Aside0.mk (Kd.R_elder' (by (with_reducible repeat first | apply rA_ | apply rN_ | apply rD_); exact a3.out) (Kd.R_base ho55) hb); have n3_ := Aside0.mk (Kd.R_elder' (by (with_reducible repeat first | apply rA_ | apply rN_ | apply rD_); exact a4.out) (Kd.R_base ho55) hb); have n4_ := Aside0.mk (Kd.R_elder' (by (with_reducible repeat first | apply rA_ | apply rN_ | apply rD_); exact a6.out) (Kd.R_base ho55) hb); have n5_ := Aside0.mk (Kd.R_elder' (by (with_reducible repeat first | apply rA_ | apply rN_ | apply rD_); exact ab.out) (Kd.R_base ho55) hb); have n6_ := Aside0.mk (Kd.R_lower (Kd.R_new' (Kd.R_new' (Kd.R_new' (Kd.R_new' (Kd.R_new' (Kd.R_new' ho55 (Kd.R_lt (by (with_reducible repeat first | apply rA_ | apply rN_ | apply rD_); exact a2.out))) (Kd.R_lt (by (with_reducible repeat first | apply rA_ | apply rN_ | apply rD_); exact a1.out))) (Kd.R_lt (by (with_reducible repeat first | apply rA_ | apply rN_ | apply rD_); exact a3.out))) (Kd.R_lt (by (with_reducible repeat first | apply rA_ | apply rN_ | apply rD_); exact a4.out))) (Kd.R_lt (by (with_reducible repeat first | apply rA_ | apply rN_ | apply rD_); exact a6.out))) (Kd.R_lt (by (with_reducible repeat first | apply rA_ | apply rN_ | apply rD_); exact ab.out))) (below_size (by repeat (first | (with_reducible first | exact HB.out | apply lA1_ | apply lN_ | apply lD_ | refine lS1_ ?_ a5.out) | exact HB.out)))); have n8_ := Aside0.mk (lP_ (by repeat (first | (with_reducible first | exact HB.out | apply lA1_ | apply lN_ | apply lD_ | refine lS1_ ?_ a5.out) | exact HB.out)) hb); clear a2 a1 a3 a4 a6 ab HB; have a2 := n0_; have a1 := n1_; have a3 := n2_; have a4 := n3_; have a6 := n4_; have ab := n5_; have be := n6_; have HB := n8_; clear n0_ n1_ n2_ n3_ n4_ n5_ n6_ n8_ hb ho55; obtain ⟨ag, ah, eo57⟩ := Kd.R_slice a4.out; subst eo57) | ((with_reducible refine gate_builtin (b := .append) (xs := #[.tmp 46, .tmp 47]) rfl ?_); at_builtin; refine Kd.R_append_rows (Kd.int .u8) (w0 := w) w.heap.size rfl (.tmp 46) (.tmp 47) 22 5 (.int .u8 0) 1 rfl Try.underlying22 info5 rfl (by decide) (by omega) v625 y624 y612 _ _ _ (fun k_ => some k_ ≠ (.slice a7 x3_3.length a8 : Value).ownBlock ∧ some k_ ≠ (.slice a9 t603.length aa : Value).ownBlock ∧ some k_ ≠ (.slice ac y609.length ad : Value).ownBlock ∧ some k_ ≠ (.slice ag y612.length ah : Value).ownBlock ∧ some k_ ≠ (.slice ae t618.length af : Value).ownBlock ∧ some k_ ≠ (v622 : Value).ownBlock) (fun _ => False) rfl rfl ?aO ?aR (fun _ _ h => h) (fun _ h => h.elim) ?aF ?aB ?aS ?aL ?_; (case aR => repeat (first | exact (Kd.R_reads' a4.out).2.2 | (with_reducible refine Kd.C_alloc ?_ _) | (with_reducible refine Kd.C_drewN ?_ _) | (with_reducible refine Kd.C_drew ?_))); (case aB => exact (by repeat (first | (with_reducible first | exact HB.out | apply lA1_ | apply lN_ | apply lD_ | refine lS1_ ?_ a5.out) | exact HB.out))); (case aF => exact (fun k_ hk => ⟨Kd.fresh' (Kd.R_lt (by (with_reducible repeat first | apply rA_ | apply rN_ | apply rD_); exact a2.out)) k_ hk, Kd.fresh' (Kd.R_lt (by (with_reducible repeat first | apply rA_ | apply rN_ | apply rD_); exact a1.out)) k_ hk, Kd.fresh' (Kd.R_lt (by (with_reducible repeat first | apply rA_ | apply rN_ | apply rD_); exact a3.out)) k_ hk, Kd.fresh' (Kd.R_lt (by (with_reducible repeat first | apply rA_ | apply rN_ | apply rD_); exact a4.out)) k_ hk, Kd.fresh' (Kd.R_lt (by (with_reducible repeat first | apply rA_ | apply rN_ | apply rD_); exact a6.out)) k_ hk, Kd.fresh' (Kd.R_lt (by (with_reducible repeat first | apply rA_ | apply rN_ | apply rD_); exact ab.out)) k_ hk⟩)); (case aO => exact (by (with_reducible repeat first | apply rA_ | apply rN_ | apply rD_); exact Kd.R_mono be.out (fun _ hk => ⟨hk.1.1.1.1.1.2, ⟨hk.1.1.1.1.2, ⟨hk.1.1.1.2, ⟨hk.1.1.2, ⟨hk.1.2, hk.2⟩⟩⟩⟩⟩))); (case aS => exact (below_size (by repeat (first | (with_reducible first | exact HB.out | apply lA1_ | apply lN_ | apply lD_ | refine lS1_ ?_ a5.out) | exact HB.out)))); (case aL => have := ca.out; omega); intro v628 w56 ho hb hg hat; rw [← cb.out] at ho; have n0_ := Aside0.mk (Kd.R_after (ok := (fun k_ => some k_ ≠ (.slice a9 t603.length aa : Value).ownBlock ∧ some k_ ≠ (.slice ac y609.length ad : Value).ownBlock ∧ some k_ ≠ (.slice ag y612.length ah : Value).ownBlock ∧ some k_ ≠ (.slice ae t618.length af : Value).ownBlock ∧ some k_ ≠ (v622 : Value).ownBlock)) (by (with_reducible repeat first | apply rA_ | apply rN_ | apply rD_); exact Kd.R_mono a2.out (fun _ hk => ⟨⟨hk.1.1.1, ⟨hk.1.1.2.1, ⟨hk.1.1.2.2.1, ⟨hk.1.1.2.2.2, hk.1.2⟩⟩⟩⟩, hk.2⟩)) hg hat); have n2_ := Aside0.mk (Kd.R_after (ok := (fun k_ => some k_ ≠ (.slice a7 x3_3.length a8 : Value).ownBlock ∧ some k_ ≠ (.slice ac y609.length ad : Value).ownBlock ∧ some k_ ≠ (.slice ag y612.length ah : Value).ownBlock ∧ some k_ ≠ (.slice ae t618.length af : Value).ownBlock ∧ some k_ ≠ (v622 : Value).ownBlock)) (by (with_reducible repeat first | apply rA_ | apply rN_ | apply rD_); exact Kd.R_mono a1.out (fun _ hk => ⟨⟨hk.1.1.1, ⟨hk.1.1.2.1, ⟨hk.1.1.2.2.1, ⟨hk.1.1.2.2.2, hk.1.2⟩⟩⟩⟩, hk.2⟩)) hg hat); have n3_ := Aside0.mk (Kd.R_after (ok := (fun k_ => some k_ ≠ (.slice a7 x3_3.length a8 : Value).ownBlock ∧ some k_ ≠ (.slice a9 t603.length aa : Value).ownBlock ∧ some k_ ≠ (.slice ag y612.length ah : Value).ownBlock ∧ some k_ ≠ (.slice ae t618.length af : Value).ownBlock ∧ some k_ ≠ (v622 : Value).ownBlock)) (by (with_reducible repeat first | apply rA_ | apply rN_ | apply rD_); exact Kd.R_mono a3.out (fun _ hk => ⟨⟨hk.1.1.1, ⟨hk.1.1.2.1, ⟨hk.1.1.2.2.1, ⟨hk.1.1.2.2.2, hk.1.2⟩⟩⟩⟩, hk.2⟩)) hg hat); have n4_ := Aside0.mk (Kd.R_after (ok := (fun k_ => some k_ ≠ (.slice a7 x3_3.length a8 : Value).ownBlock ∧ some k_ ≠ (.slice a9 t603.length aa : Value).ownBlock ∧ some k_ ≠ (.slice ac y609.length ad : Value).ownBlock ∧ some k_ ≠ (.slice ae t618.length af : Value).ownBlock ∧ some k_ ≠ (v622 : Value).ownBlock)) (by (with_reducible repeat first | apply rA_ | apply rN_ | apply rD_); exact Kd.R_mono a4.out (fun _ hk => ⟨⟨hk.1.1.1, ⟨hk.1.1.2.1, ⟨hk.1.1.2.2.1, ⟨hk.1.1.2.2.2, hk.1.2⟩⟩⟩⟩, hk.2⟩)) hg hat); have n5_ := Aside0.mk (Kd.R_after (ok := (fun k_ => some k_ ≠ (.slice a7 x3_3.length a8 : Value).ownBlock ∧ some k_ ≠ (.slice a9 t603.length aa : Value).ownBlock ∧ some k_ ≠ (.slice ac y609.length ad : Value).ownBlock ∧ some k_ ≠ (.slice ag y612.length ah : Value).ownBlock ∧ some k_ ≠ (v622 : Value).ownBlock)) (by (with_reducible repeat first | apply rA_ | apply rN_ | apply rD_); exact Kd.R_mono a6.out (fun _ hk => ⟨⟨hk.1.1.1, ⟨hk.1.1.2.1, ⟨hk.1.1.2.2.1, ⟨hk.1.1.2.2.2, hk.1.2⟩⟩⟩⟩, hk.2⟩)) hg hat); have n6_ := Aside0.mk (Kd.R_after (ok := (fun k_ => some k_ ≠ (.slice a7 x3_3.length a8 : Value).ownBlock ∧ some k_ ≠ (.slice a9 t603.length aa : Value).ownBlock ∧ some k_ ≠ (.slice ac y609.length ad : Value).ownBlock ∧ some k_ ≠ (.slice ag y612.length ah : Value).ownBlock ∧ some k_ ≠ (.slice ae t618.length af : Value).ownBlock)) (by (with_reducible repeat first | apply rA_ | apply rN_ | apply rD_); exact ab.out) hg hat); have n7_ := Aside0.mk (hb); have n8_ := Aside0.mk (ho); clear a2 a1 a3 a4 a6 ab HB be; have a2 := n0_; have a1 := n2_; have a3 := n3_; have a4 := n4_; have a6 := n5_; have ab := n6_; have HB := n7_; have b2 := n8_; clear n0_ n2_ n3_ n4_ n5_ n6_ n7_ n8_ ho hb hg hat) | ((with_reducible refine gate_dst (N := 49) rfl ?_); refine Kd.R_lit (Kd.int .u8) _ 5 ?hg (N := 49) ?hd (xs := ([0, 0] : List Int)) (inner := [.int .u8 0, .int .u8 0]) (ok := fun _ => True) (okp := fun _ => True) ?hr ?hp (fun _ hk => hk) trivial (Below.refl _ _) (Nat.le_refl _) (by simp) ?_; (case hd => rfl); (case hg => rfl); (case hr => first | (go_simp; done) | (go_simp; rfl)); (case hp => exact (Reps.one (show Kd.M (Kd.int .u8) _ _ _ 0 [.int .u8 0] from rfl) (Reps.one (show Kd.M (Kd.int .u8) _ _ _ 0 [.int .u8 0] from rfl) (Reps.none _ _)))); intro v631 w58 ho59 hb hg_ hnew_; clear hg_ hnew_; (first | rw [← bc.out] at ho59 | (simp only [Int.reduceToNat] at ho59; rw [← bc.out] at ho59)); have n0_ := Aside0.mk (Kd.R_elder' (by (with_reducible repeat first | apply rA_ | apply rN_ | apply rD_); exact a2.out) (Kd.R_base ho59) hb); have n1_ := Aside0.mk (Kd.R_elder' (by (with_reducible repeat first | apply rA_ | apply rN_ | apply rD_); exact a1.out) (Kd.R_base ho59) hb); have n2_ := Aside0.mk (Kd.R_elder' (by (with_reducible repeat first | apply rA_ | apply rN_ | apply rD_); exact a3.out) (Kd.R_base ho59) hb); have n3_ := Aside0.mk (Kd.R_elder' (by (with_reducible repeat first | apply rA_ | apply rN_ | apply rD_); exact a4.out) (Kd.R_base ho59) hb); have n4_ := Aside0.mk (Kd.R_elder' (by (with_reducible repeat first | apply rA_ | apply rN_ | apply rD_); exact a6.out) (Kd.R_base ho59) hb); have n5_ := Aside0.mk (Kd.R_elder' (by (with_reducible repeat first | apply rA_ | apply rN_ | apply rD_); exact ab.out) (Kd.R_base ho59) hb); have n6_ := Aside0.mk (Kd.R_elder' (by (with_reducible repeat first | apply rA_ | apply rN_ | apply rD_); exact b2.out) (Kd.R_base ho59) hb); have n7_ := Aside0.mk (Kd.R_lower (Kd.R_new' (Kd.R_new' (Kd.R_new' (Kd.R_new' (Kd.R_new' (Kd.R_new' (Kd.R_new' ho59 (Kd.R_lt (by (with_reducible repeat first | apply rA_ | apply rN_ | apply rD_); exact a2.out))) (Kd.R_lt (by (with_reducible repeat first | apply rA_ | apply rN_ | apply rD_); exact a1.out))) (Kd.R_lt (by (with_reducible repeat first | apply rA_ | apply rN_ | apply rD_); exact a3.out))) (Kd.R_lt (by (with_reducible repeat first | apply rA_ | apply rN_ | apply rD_); exact a4.out))) (Kd.R_lt (by (with_reducible repeat first | apply rA_ | apply rN_ | apply rD_); exact a6.out))) (Kd.R_lt (by (with_reducible repeat first | apply rA_ | apply rN_ | apply rD_); exact ab.out))) (Kd.R_lt (by (with_reducible repeat first | apply rA_ | apply rN_ | apply rD_); exact b2.out))) (below_size (by repeat (first | (with_reducible first | exact HB.out | apply lA1_ | apply lN_ | apply lD_ | refine lS1_ ?_ a5.out) | exact HB.out)))); have n9_ := Aside0.mk (lP_ (by repeat (first | (with_reducible first | exact HB.out | apply lA1_ | apply lN_ | apply lD_ | refine lS1_ ?_ a5.out) | exact HB.out)) hb); clear a2 a1 a3 a4 a6 ab b2 HB; have a2 := n0_; have a1 := n1_; have a3 := n2_; have a4 := n3_; have a6 := n4_; have ab := n5_; have b2 := n6_; have al := n7_; have HB := n9_; clear n0_ n1_ n2_ n3_ n4_ n5_ n6_ n7_ n9_ hb ho59; obtain ⟨ai, aj, eo61⟩ := Kd.R_slice al.out; subst eo61) | ((with_reducible refine gate_builtin (b := .append) (xs := #[.tmp 48, .tmp 49]) rfl ?_); at_builtin; refine Kd.R_append_rows (Kd.int .u8) (w0 := w) w.heap.size rfl (.tmp 48) (.tmp 49) 22 5 (.int .u8 0) 1 rfl Try.underlying22 info5 rfl (by decide) (by omega) v628 y627 y630 _ _ _ (fun k_ => some k_ ≠ (.slice a7 x3_3.length a8 : Value).ownBlock ∧ some k_ ≠ (.slice a9 t603.length aa : Value).ownBlock ∧ some k_ ≠ (.slice ac y609.length ad : Value).ownBlock ∧ some k_ ≠ (.slice ag y612.length ah : Value).ownBlock ∧ some k_ ≠ (.slice ae t618.length af : Value).ownBlock ∧ some k_ ≠ (v622 : Value).ownBlock ∧ some k_ ≠ (.slice ai y630.length aj : Value).ownBlock) (fun _ => False) rfl rfl ?aO ?aR (fun _ _ h => h) (fun _ h => h.elim) ?aF ?aB ?aS ?aL ?_; (case aR => repeat (first | exact (Kd.R_reads' al.out).2.2 | (with_reducible refine Kd.C_alloc ?_ _) | (with_reducible refine Kd.C_drewN ?_ _) | (with_reducible refine Kd.C_drew ?_))); (case aB => exact (by repeat (first | (with_reducible first | exact HB.out | apply lA1_ | apply lN_ | apply lD_ | refine lS1_ ?_ a5.out) | exact HB.out))); (case aF => exact (fun k_ hk => ⟨Kd.fresh' (Kd.R_lt (by (with_reducible repeat first | apply rA_ | apply rN_ | apply rD_); exact a2.out)) k_ hk, Kd.fresh' (Kd.R_lt (by (with_reducible repeat first | apply rA_ | apply rN_ | apply rD_); exact a1.out)) k_ hk, Kd.fresh' (Kd.R_lt (by (with_reducible repeat first | apply rA_ | apply rN_ | apply rD_); exact a3.out)) k_ hk, Kd.fresh' (Kd.R_lt (by (with_reducible repeat first | apply rA_ | apply rN_ | apply rD_); exact a4.out)) k_ hk, Kd.fresh' (Kd.R_lt (by (with_reducible repeat first | apply rA_ | apply rN_ | apply rD_); exact a6.out)) k_ hk, Kd.fresh' (Kd.R_lt (by (with_reducible repeat first | apply rA_ | apply rN_ | apply rD_); exact ab.out)) k_ hk, Kd.fresh' (Kd.R_lt (by (with_reducible repeat first | apply rA_ | apply rN_ | apply rD_); exact al.out)) k_ hk⟩)); (case aO => exact (by (with_reducible repeat first | apply rA_ | apply rN_ | apply rD_); exact Kd.R_mono b2.out (fun _ hk => ⟨hk.1.1, ⟨hk.1.2.1, ⟨hk.1.2.2.1, ⟨hk.1.2.2.2.1, ⟨hk.1.2.2.2.2.1, ⟨hk.1.2.2.2.2.2, hk.2⟩⟩⟩⟩⟩⟩))); (case aS => exact (below_size (by repeat (first | (with_reducible first | exact HB.out | apply lA1_ | apply lN_ | apply lD_ | refine lS1_ ?_ a5.out) | exact HB.out)))); (case aL => have := cc.out; omega); intro v634 w60 ho hb hg hat; rw [← cd.out] at ho; have n0_ := Aside0.mk (Kd.R_after (ok := (fun k_ => some k_ ≠ (.slice a9 t603.length aa : Value).ownBlock ∧ some k_ ≠ (.slice ac y609.length ad : Value).ownBlock ∧ some k_ ≠ (.slice ag y612.length ah : Value).ownBlock ∧ some k_ ≠ (.slice ae t618.length af : Value).ownBlock ∧ some k_ ≠ (v622 : Value).ownBlock ∧ some k_ ≠ (.slice ai y630.length aj : Value).ownBlock)) (by (with_reducible repeat first | apply rA_ | apply rN_ | apply rD_); exact Kd.R_mono a2.out (fun _ hk => ⟨⟨hk.1.1.1, ⟨hk.1.1.2.1, ⟨hk.1.1.2.2.1, ⟨hk.1.1.2.2.2.1, ⟨hk.1.1.2.2.2.2, hk.2⟩⟩⟩⟩⟩, hk.1.2⟩)) hg hat); have n2_ := Aside0.mk (Kd.R_after (ok := (fun k_ => some k_ ≠ (.slice a7 x3_3.length a8 : Value).ownBlock ∧ some k_ ≠ (.slice ac y609.length ad : Value).ownBlock ∧ some k_ ≠ (.slice ag y612.length ah : Value).ownBlock ∧ some k_ ≠ (.slice ae t618.length af : Value).ownBlock ∧ some k_ ≠ (v622 : Value).ownBlock ∧ some k_ ≠ (.slice ai y630.length aj : Value).ownBlock)) (by (with_reducible repeat first | apply rA_ | apply rN_ | apply rD_); exact Kd.R_mono a1.out (fun _ hk => ⟨⟨hk.1.1.1, ⟨hk.1.1.2.1, ⟨hk.1.1.2.2.1, ⟨hk.1.1.2.2.2.1, ⟨hk.1.1.2.2.2.2, hk.2⟩⟩⟩⟩⟩, hk.1.2⟩)) hg hat); have n3_ := Aside0.mk (Kd.R_after (ok := (fun k_ => some k_ ≠ (.slice a7 x3_3.length a8 : Value).ownBlock ∧ some k_ ≠ (.slice a9 t603.length aa : Value).ownBlock ∧ some k_ ≠ (.slice ag y612.length ah : Value).ownBlock ∧ some k_ ≠ (.slice ae t618.length af : Value).ownBlock ∧ some k_ ≠ (v622 : Value).ownBlock ∧ some k_ ≠ (.slice ai y630.length aj : Value).ownBlock)) (by (with_reducible repeat first | apply rA_ | apply rN_ | apply rD_); exact Kd.R_mono a3.out (fun _ hk => ⟨⟨hk.1.1.1, ⟨hk.1.1.2.1, ⟨hk.1.1.2.2.1, ⟨hk.1.1.2.2.2.1, ⟨hk.1.1.2.2.2.2, hk.2⟩⟩⟩⟩⟩, hk.1.2⟩)) hg hat); have n4_ := Aside0.mk (Kd.R_after (ok := (fun k_ => some k_ ≠ (.slice a7 x3_3.length a8 : Value).ownBlock ∧ some k_ ≠ (.slice a9 t603.length aa : Value).ownBlock ∧ some k_ ≠ (.slice ac y609.length ad : Value).ownBlock ∧ some k_ ≠ (.slice ae t618.length af : Value).ownBlock ∧ some k_ ≠ (v622 : Value).ownBlock ∧ some k_ ≠ (.slice ai y630.length aj : Value).ownBlock)) (by (with_reducible repeat first | apply rA_ | apply rN_ | apply rD_); exact Kd.R_mono a4.out (fun _ hk => ⟨⟨hk.1.1.1, ⟨hk.1.1.2.1, ⟨hk.1.1.2.2.1, ⟨hk.1.1.2.2.2.1, ⟨hk.1.1.2.2.2.2, hk.2⟩⟩⟩⟩⟩, hk.1.2⟩)) hg hat); have n5_ := Aside0.mk (Kd.R_after (ok := (fun k_ => some k_ ≠ (.slice a7 x3_3.length a8 : Value).ownBlock ∧ some k_ ≠ (.slice a9 t603.length aa : Value).ownBlock ∧ some k_ ≠ (.slice ac y609.length ad : Value).ownBlock ∧ some k_ ≠ (.slice ag y612.length ah : Value).ownBlock ∧ some k_ ≠ (v622 : Value).ownBlock ∧ some k_ ≠ (.slice ai y630.length aj : Value).ownBlock)) (by (with_reducible repeat first | apply rA_ | apply rN_ | apply rD_); exact Kd.R_mono a6.out (fun _ hk => ⟨⟨hk.1.1.1, ⟨hk.1.1.2.1, ⟨hk.1.1.2.2.1, ⟨hk.1.1.2.2.2.1, ⟨hk.1.1.2.2.2.2, hk.2⟩⟩⟩⟩⟩, hk.1.2⟩)) hg hat); have n6_ := Aside0.mk (Kd.R_after (ok := (fun k_ => some k_ ≠ (.slice a7 x3_3.length a8 : Value).ownBlock ∧ some k_ ≠ (.slice a9 t603.length aa : Value).ownBlock ∧ some k_ ≠ (.slice ac y609.length ad : Value).ownBlock ∧ some k_ ≠ (.slice ag y612.length ah : Value).ownBlock ∧ some k_ ≠ (.slice ae t618.length af : Value).ownBlock ∧ some k_ ≠ (.slice ai y630.length aj : Value).ownBlock)) (by (with_reducible repeat first | apply rA_ | apply rN_ | apply rD_); exact Kd.R_mono ab.out (fun _ hk => ⟨⟨hk.1.1.1, ⟨hk.1.1.2.1, ⟨hk.1.1.2.2.1, ⟨hk.1.1.2.2.2.1, ⟨hk.1.1.2.2.2.2, hk.2⟩⟩⟩⟩⟩, hk.1.2⟩)) hg hat); have n7_ := Aside0.mk (Kd.R_after (ok := (fun k_ => some k_ ≠ (.slice a7 x3_3.length a8 : Value).ownBlock ∧ some k_ ≠ (.slice a9 t603.length aa : Value).ownBlock ∧ some k_ ≠ (.slice ac y609.length ad : Value).ownBlock ∧ some k_ ≠ (.slice ag y612.length ah : Value).ownBlock ∧ some k_ ≠ (.slice ae t618.length af : Value).ownBlock ∧ some k_ ≠ (v622 : Value).ownBlock)) (by (with_reducible repeat first | apply rA_ | apply rN_ | apply rD_); exact Kd.R_mono al.out (fun _ hk => ⟨⟨hk.1.1.1.1.1.1.2, ⟨hk.1.1.1.1.1.2, ⟨hk.1.1.1.1.2, ⟨hk.1.1.1.2, ⟨hk.1.1.2, hk.1.2⟩⟩⟩⟩⟩, hk.2⟩)) hg hat); have n8_ := Aside0.mk (hb); have n9_ := Aside0.mk (ho); clear a2 a1 a3 a4 a6 ab al HB b2; have a2 := n0_; have a1 := n2_; have a3 := n3_; have a4 := n4_; have a6 := n5_; have ab := n6_; have al := n7_; have HB := n8_; have bf := n9_; clear n0_ n2_ n3_ n4_ n5_ n6_ n7_ n8_ n9_ ho hb hg hat; obtain ⟨an, ao, eo63⟩ := Kd.R_slice ab.out; subst eo63) | ((with_reducible refine gate_builtin (b := .append) (xs := #[.tmp 50, .tmp 51]) rfl ?_); at_builtin; refine Kd.R_append_rows (Kd.int .u8) (w0 := w) w.heap.size rfl (.tmp 50) (.tmp 51) 22 5 (.int .u8 0) 1 rfl Try.underlying22 info5 rfl (by decide) (by omega) v634 y633 y621 _ _ _ (fun k_ => some k_ ≠ (.slice a7 x3_3.length a8 : Value).ownBlock ∧ some k_ ≠ (.slice a9 t603.length aa : Value).ownBlock ∧ some k_ ≠ (.slice ac y609.length ad : Value).ownBlock ∧ some k_ ≠ (.slice ag y612.length ah : Value).ownBlock ∧ some k_ ≠ (.slice ae t618.length af : Value).ownBlock ∧ some k_ ≠ (.slice an y621.length ao : Value).ownBlock ∧ some k_ ≠ (.slice ai y630.length aj : Value).ownBlock) (fun _ => False) rfl rfl ?aO ?aR (fun _ _ h => h) (fun _ h => h.elim) ?aF ?aB ?aS ?aL ?_; (case aR => repeat (first | exact (Kd.R_reads' ab.out).2.2 | (with_reducible refine Kd.C_alloc ?_ _) | (with_reducible refine Kd.C_drewN ?_ _) | (with_reducible refine Kd.C_drew ?_))); (case aB => exact (by repeat (first | (with_reducible first | exact HB.out | apply lA1_ | apply lN_ | apply lD_ | refine lS1_ ?_ a5.out) | exact HB.out))); (case aF => exact (fun k_ hk => ⟨Kd.fresh' (Kd.R_lt (by (with_reducible repeat first | apply rA_ | apply rN_ | apply rD_); exact a2.out)) k_ hk, Kd.fresh' (Kd.R_lt (by (with_reducible repeat first | apply rA_ | apply rN_ | apply rD_); exact a1.out)) k_ hk, Kd.fresh' (Kd.R_lt (by (with_reducible repeat first | apply rA_ | apply rN_ | apply rD_); exact a3.out)) k_ hk, Kd.fresh' (Kd.R_lt (by (with_reducible repeat first | apply rA_ | apply rN_ | apply rD_); exact a4.out)) k_ hk, Kd.fresh' (Kd.R_lt (by (with_reducible repeat first | apply rA_ | apply rN_ | apply rD_); exact a6.out)) k_ hk, Kd.fresh' (Kd.R_lt (by (with_reducible repeat first | apply rA_ | apply rN_ | apply rD_); exact ab.out)) k_ hk, Kd.fresh' (Kd.R_lt (by (with_reducible repeat first | apply rA_ | apply rN_ | apply rD_); exact al.out)) k_ hk⟩)); (case aO => exact (by (with_reducible repeat first | apply rA_ | apply rN_ | apply rD_); exact bf.out)); (case aS => exact (below_size (by repeat (first | (with_reducible first | exact HB.out | apply lA1_ | apply lN_ | apply lD_ | refine lS1_ ?_ a5.out) | exact HB.out)))); (case aL => have := ce.out; omega); intro v637 w62 ho hb hg hat; rw [← cf.out] at ho; have n0_ := Aside0.mk (Kd.R_after (ok := (fun k_ => some k_ ≠ (.slice a9 t603.length aa : Value).ownBlock ∧ some k_ ≠ (.slice ac y609.length ad : Value).ownBlock ∧ some k_ ≠ (.slice ag y612.length ah : Value).ownBlock ∧ some k_ ≠ (.slice ae t618.length af : Value).ownBlock ∧ some k_ ≠ (.slice an y621.length ao : Value).ownBlock ∧ some k_ ≠ (.slice ai y630.length aj : Value).ownBlock)) (by (with_reducible repeat first | apply rA_ | apply rN_ | apply rD_); exact a2.out) hg hat); have n2_ := Aside0.mk (Kd.R_after (ok := (fun k_ => some k_ ≠ (.slice a7 x3_3.length a8 : Value).ownBlock ∧ some k_ ≠ (.slice ac y609.length ad : Value).ownBlock ∧ some k_ ≠ (.slice ag y612.length ah : Value).ownBlock ∧ some k_ ≠ (.slice ae t618.length af : Value).ownBlock ∧ some k_ ≠ (.slice an y621.length ao : Value).ownBlock ∧ some k_ ≠ (.slice ai y630.length aj : Value).ownBlock)) (by (with_reducible repeat first | apply rA_ | apply rN_ | apply rD_); exact a1.out) hg hat); have n3_ := Aside0.mk (Kd.R_after (ok := (fun k_ => some k_ ≠ (.slice a7 x3_3.length a8 : Value).ownBlock ∧ some k_ ≠ (.slice a9 t603.length aa : Value).ownBlock ∧ some k_ ≠ (.slice ag y612.length ah : Value).ownBlock ∧ some k_ ≠ (.slice ae t618.length af : Value).ownBlock ∧ some k_ ≠ (.slice an y621.length ao : Value).ownBlock ∧ some k_ ≠ (.slice ai y630.length aj : Value).ownBlock)) (by (with_reducible repeat first | apply rA_ | apply rN_ | apply rD_); exact a3.out) hg hat); have n4_ := Aside0.mk (Kd.R_after (ok := (fun k_ => some k_ ≠ (.slice a7 x3_3.length a8 : Value).ownBlock ∧ some k_ ≠ (.slice a9 t603.length aa : Value).ownBlock ∧ some k_ ≠ (.slice ac y609.length ad : Value).ownBlock ∧ some k_ ≠ (.slice ae t618.length af : Value).ownBlock ∧ some k_ ≠ (.slice an y621.length ao : Value).ownBlock ∧ some k_ ≠ (.slice ai y630.length aj : Value).ownBlock)) (by (with_reducible repeat first | apply rA_ | apply rN_ | apply rD_); exact a4.out) hg hat); have n5_ := Aside0.mk (Kd.R_after (ok := (fun k_ => some k_ ≠ (.slice a7 x3_3.length a8 : Value).ownBlock ∧ some k_ ≠ (.slice a9 t603.length aa : Value).ownBlock ∧ some k_ ≠ (.slice ac y609.length ad : Value).ownBlock ∧ some k_ ≠ (.slice ag y612.length ah : Value).ownBlock ∧ some k_ ≠ (.slice an y621.length ao : Value).ownBlock ∧ some k_ ≠ (.slice ai y630.length aj : Value).ownBlock)) (by (with_reducible repeat first | apply rA_ | apply rN_ | apply rD_); exact a6.out) hg hat); have n6_ := Aside0.mk (Kd.R_after (ok := (fun k_ => some k_ ≠ (.slice a7 x3_3.length a8 : Value).ownBlock ∧ some k_ ≠ (.slice a9 t603.length aa : Value).ownBlock ∧ some k_ ≠ (.slice ac y609.length ad : Value).ownBlock ∧ some k_ ≠ (.slice ag y612.length ah : Value).ownBlock ∧ some k_ ≠ (.slice ae t618.length af : Value).ownBlock ∧ some k_ ≠ (.slice ai y630.length aj : Value).ownBlock)) (by (with_reducible repeat first | apply rA_ | apply rN_ | apply rD_); exact ab.out) hg hat); have n7_ := Aside0.mk (Kd.R_after (ok := (fun k_ => some k_ ≠ (.slice a7 x3_3.length a8 : Value).ownBlock ∧ some k_ ≠ (.slice a9 t603.length aa : Value).ownBlock ∧ some k_ ≠ (.slice ac y609.length ad : Value).ownBlock ∧ some k_ ≠ (.slice ag y612.length ah : Value).ownBlock ∧ some k_ ≠ (.slice ae t618.length af : Value).ownBlock ∧ some k_ ≠ (.slice an y621.length ao : Value).ownBlock)) (by (with_reducible repeat first | apply rA_ | apply rN_ | apply rD_); exact al.out) hg hat); have n8_ := Aside0.mk (hb); have n9_ := Aside0.mk (ho); clear a2 a1 a3 a4 a6 ab al HB bf; have a2 := n0_; have a1 := n2_; have a3 := n3_; have a4 := n4_; have a6 := n5_; have ab := n6_; have al := n7_; have HB := n8_; have ap := n9_; clear n0_ n2_ n3_ n4_ n5_ n6_ n7_ n8_ n9_ ho hb hg hat) | ((with_reducible refine gate_dst (N := 53) rfl ?_); refine Kd.R_lit (Kd.int .u8) _ 5 ?hg (N := 53) ?hd (xs := ([] : List Int)) (inner := []) (ok := fun _ => True) (okp := fun _ => True) ?hr ?hp (fun _ hk => hk) trivial (Below.refl _ _) (Nat.le_refl _) (by simp) ?_; (case hd => rfl); (case hg => rfl); (case hr => first | (go_simp; done) | (go_simp; rfl)); (case hp => exact (Reps.none _ _)); intro v640 w64 ho65 hb hg_ hnew_; clear hg_ hnew_; (first | rw [← bd.out] at ho65 | (simp only [Int.reduceToNat] at ho65; rw [← bd.out] at ho65)); have n0_ := Aside0.mk (Kd.R_elder' (by (with_reducible repeat first | apply rA_ | apply rN_ | apply rD_); exact a2.out) (Kd.R_base ho65) hb); have n1_ := Aside0.mk (Kd.R_elder' (by (with_reducible repeat first | apply rA_ | apply rN_ | apply rD_); exact a1.out) (Kd.R_base ho65) hb); have n2_ := Aside0.mk (Kd.R_elder' (by (with_reducible repeat first | apply rA_ | apply rN_ | apply rD_); exact a3.out) (Kd.R_base ho65) hb); have n3_ := Aside0.mk (Kd.R_elder' (by (with_reducible repeat first | apply rA_ | apply rN_ | apply rD_); exact a4.out) (Kd.R_base ho65) hb); have n4_ := Aside0.mk (Kd.R_elder' (by (with_reducible repeat first | apply rA_ | apply rN_ | apply rD_); exact a6.out) (Kd.R_base ho65) hb); have n5_ := Aside0.mk (Kd.R_elder' (by (with_reducible repeat first | apply rA_ | apply rN_ | apply rD_); exact ab.out) (Kd.R_base ho65) hb); have n6_ := Aside0.mk (Kd.R_elder' (by (with_reducible repeat first | apply rA_ | apply rN_ | apply rD_); exact al.out) (Kd.R_base ho65) hb); have n7_ := Aside0.mk (Kd.R_elder' (by (with_reducible repeat first | apply rA_ | apply rN_ | apply rD_); exact ap.out) (Kd.R_base ho65) hb); have n8_ := Aside0.mk (Kd.R_lower (Kd.R_new' (Kd.R_new' (Kd.R_new' (Kd.R_new' (Kd.R_new' (Kd.R_new' (Kd.R_new' (Kd.R_new' ho65 (Kd.R_lt (by (with_reducible repeat first | apply rA_ | apply rN_ | apply rD_); exact a2.out))) (Kd.R_lt (by (with_reducible repeat first | apply rA_ | apply rN_ | apply rD_); exact a1.out))) (Kd.R_lt (by (with_reducible repeat first | apply rA_ | apply rN_ | apply rD_); exact a3.out))) (Kd.R_lt (by (with_reducible repeat first | apply rA_ | apply rN_ | apply rD_); exact a4.out))) (Kd.R_lt (by (with_reducible repeat first | apply rA_ | apply rN_ | apply rD_); exact a6.out))) (Kd.R_lt (by (with_reducible repeat first | apply rA_ | apply rN_ | apply rD_); exact ab.out))) (Kd.R_lt (by (with_reducible repeat first | apply rA_ | apply rN_ | apply rD_); exact al.out))) (Kd.R_lt (by (with_reducible repeat first | apply rA_ | apply rN_ | apply rD_); exact ap.out))) (below_size (by repeat (first | (with_reducible first | exact HB.out | apply lA1_ | apply lN_ | apply lD_ | refine lS1_ ?_ a5.out) | exact HB.out)))); have n10_ := Aside0.mk (lP_ (by repeat (first | (with_reducible first | exact HB.out | apply lA1_ | apply lN_ | apply lD_ | refine lS1_ ?_ a5.out) | exact HB.out)) hb); clear a2 a1 a3 a4 a6 ab al ap HB; have a2 := n0_; have a1 := n1_; have a3 := n2_; have a4 := n3_; have a6 := n4_; have ab := n5_; have al := n6_; have ap := n7_; have bg := n8_; have HB := n10_; clear n0_ n1_ n2_ n3_ n4_ n5_ n6_ n7_ n8_ n10_ hb ho65) | ((with_reducible refine gate_builtin (b := .append) (xs := #[.tmp 53, .tmp 54]) rfl ?_); at_builtin; refine Kd.R_append_rows (Kd.int .u8) (w0 := w) w.heap.size rfl (.tmp 53) (.tmp 54) 22 5 (.int .u8 0) 1 rfl Try.underlying22 info5 rfl (by decide) (by omega) v640 y639 y612 _ _ _ (fun k_ => some k_ ≠ (.slice a7 x3_3.length a8 : Value).ownBlock ∧ some k_ ≠ (.slice a9 t603.length aa : Value).ownBlock ∧ some k_ ≠ (.slice ac y609.length ad : Value).ownBlock ∧ some k_ ≠ (.slice ag y612.length ah : Value).ownBlock ∧ some k_ ≠ (.slice ae t618.length af : Value).ownBlock ∧ some k_ ≠ (.slice an y621.length ao : Value).ownBlock ∧ some k_ ≠ (.slice ai y630.length aj : Value).ownBlock ∧ some k_ ≠ (v637 : Value).ownBlock) (fun _ => False) rfl rfl ?aO ?aR (fun _ _ h => h) (fun _ h => h.elim) ?aF ?aB ?aS ?aL ?_; (case aR => repeat (first | exact (Kd.R_reads' a4.out).2.2 | (with_reducible refine Kd.C_alloc ?_ _) | (with_reducible refine Kd.C_drewN ?_ _) | (with_reducible refine Kd.C_drew ?_))); (case aB => exact (by repeat (first | (with_reducible first | exact HB.out | apply lA1_ | apply lN_ | apply lD_ | refine lS1_ ?_ a5.out) | exact HB.out))); (case aF => exact (fun k_ hk => ⟨Kd.fresh' (Kd.R_lt (by (with_reducible repeat first | apply rA_ | apply rN_ | apply rD_); exact a2.out)) k_ hk, Kd.fresh' (Kd.R_lt (by (with_reducible repeat first | apply rA_ | apply rN_ | apply rD_); exact a1.out)) k_ hk, Kd.fresh' (Kd.R_lt (by (with_reducible repeat first | apply rA_ | apply rN_ | apply rD_); exact a3.out)) k_ hk, Kd.fresh' (Kd.R_lt (by (with_reducible repeat first | apply rA_ | apply rN_ | apply rD_); exact a4.out)) k_ hk, Kd.fresh' (Kd.R_lt (by (with_reducible repeat first | apply rA_ | apply rN_ | apply rD_); exact a6.out)) k_ hk, Kd.fresh' (Kd.R_lt (by (with_reducible repeat first | apply rA_ | apply rN_ | apply rD_); exact ab.out)) k_ hk, Kd.fresh' (Kd.R_lt (by (with_reducible repeat first | apply rA_ | apply rN_ | apply rD_); exact al.out)) k_ hk, Kd.fresh' (Kd.R_lt (by (with_reducible repeat first | apply rA_ | apply rN_ | apply rD_); exact ap.out)) k_ hk⟩)); (case aO => exact (by (with_reducible repeat first | apply rA_ | apply rN_ | apply rD_); exact Kd.R_mono bg.out (fun _ hk => ⟨hk.1.1.1.1.1.1.1.2, ⟨hk.1.1.1.1.1.1.2, ⟨hk.1.1.1.1.1.2, ⟨hk.1.1.1.1.2, ⟨hk.1.1.1.2, ⟨hk.1.1.2, ⟨hk.1.2, hk.2⟩⟩⟩⟩⟩⟩⟩))); (case aS => exact (below_size (by repeat (first | (with_reducible first | exact HB.out | apply lA1_ | apply lN_ | apply lD_ | refine lS1_ ?_ a5.out) | exact HB.out)))); (case aL => have := cg.out; omega); intro v643 w66 ho hb hg hat; rw [← ch.out] at ho; have n0_ := Aside0.mk (Kd.R_after (ok := (fun k_ => some k_ ≠ (.slice a9 t603.length aa : Value).ownBlock ∧ some k_ ≠ (.slice ac y609.length ad : Value).ownBlock ∧ some k_ ≠ (.slice ag y612.length ah : Value).ownBlock ∧ some k_ ≠ (.slice ae t618.length af : Value).ownBlock ∧ some k_ ≠ (.slice an y621.length ao : Value).ownBlock ∧ some k_ ≠ (.slice ai y630.length aj : Value).ownBlock ∧ some k_ ≠ (v637 : Value).ownBlock)) (by (with_reducible repeat first | apply rA_ | apply rN_ | apply rD_); exact Kd.R_mono a2.out (fun _ hk => ⟨⟨hk.1.1.1, ⟨hk.1.1.2.1, ⟨hk.1.1.2.2.1, ⟨hk.1.1.2.2.2.1, ⟨hk.1.1.2.2.2.2.1, ⟨hk.1.1.2.2.2.2.2, hk.1.2⟩⟩⟩⟩⟩⟩, hk.2⟩)) hg hat); have n2_ := Aside0.mk (Kd.R_after (ok := (fun k_ => some k_ ≠ (.slice a7 x3_3.length a8 : Value).ownBlock ∧ some k_ ≠ (.slice ac y609.length ad : Value).ownBlock ∧ some k_ ≠ (.slice ag y612.length ah : Value).ownBlock ∧ some k_ ≠ (.slice ae t618.length af : Value).ownBlock ∧ some k_ ≠ (.slice an y621.length ao : Value).ownBlock ∧ some k_ ≠ (.slice ai y630.length aj : Value).ownBlock ∧ some k_ ≠ (v637 : Value).ownBlock)) (by (with_reducible repeat first | apply rA_ | apply rN_ | apply rD_); exact Kd.R_mono a1.out (fun _ hk => ⟨⟨hk.1.1.1, ⟨hk.1.1.2.1, ⟨hk.1.1.2.2.1, ⟨hk.1.1.2.2.2.1, ⟨hk.1.1.2.2.2.2.1, ⟨hk.1.1.2.2.2.2.2, hk.1.2⟩⟩⟩⟩⟩⟩, hk.2⟩)) hg hat); have n3_ := Aside0.mk (Kd.R_after (ok := (fun k_ => some k_ ≠ (.slice a7 x3_3.length a8 : Value).ownBlock ∧ some k_ ≠ (.slice a9 t603.length aa : Value).ownBlock ∧ some k_ ≠ (.slice ag y612.length ah : Value).ownBlock ∧ some k_ ≠ (.slice ae t618.length af : Value).ownBlock ∧ some k_ ≠ (.slice an y621.length ao : Value).ownBlock ∧ some k_ ≠ (.slice ai y630.length aj : Value).ownBlock ∧ some k_ ≠ (v637 : Value).ownBlock)) (by (with_reducible repeat first | apply rA_ | apply rN_ | apply rD_); exact Kd.R_mono a3.out (fun _ hk => ⟨⟨hk.1.1.1, ⟨hk.1.1.2.1, ⟨hk.1.1.2.2.1, ⟨hk.1.1.2.2.2.1, ⟨hk.1.1.2.2.2.2.1, ⟨hk.1.1.2.2.2.2.2, hk.1.2⟩⟩⟩⟩⟩⟩, hk.2⟩)) hg hat); have n4_ := Aside0.mk (Kd.R_after (ok := (fun k_ => some k_ ≠ (.slice a7 x3_3.length a8 : Value).ownBlock ∧ some k_ ≠ (.slice a9 t603.length aa : Value).ownBlock ∧ some k_ ≠ (.slice ac y609.length ad : Value).ownBlock ∧ some k_ ≠ (.slice ae t618.length af : Value).ownBlock ∧ some k_ ≠ (.slice an y621.length ao : Value).ownBlock ∧ some k_ ≠ (.slice ai y630.length aj : Value).ownBlock ∧ some k_ ≠ (v637 : Value).ownBlock)) (by (with_reducible repeat first | apply rA_ | apply rN_ | apply rD_); exact Kd.R_mono a4.out (fun _ hk => ⟨⟨hk.1.1.1, ⟨hk.1.1.2.1, ⟨hk.1.1.2.2.1, ⟨hk.1.1.2.2.2.1, ⟨hk.1.1.2.2.2.2.1, ⟨hk.1.1.2.2.2.2.2, hk.1.2⟩⟩⟩⟩⟩⟩, hk.2⟩)) hg hat); have n5_ := Aside0.mk (Kd.R_after (ok := (fun k_ => some k_ ≠ (.slice a7 x3_3.length a8 : Value).ownBlock ∧ some k_ ≠ (.slice a9 t603.length aa : Value).ownBlock ∧ some k_ ≠ (.slice ac y609.length ad : Value).ownBlock ∧ some k_ ≠ (.slice ag y612.length ah : Value).ownBlock ∧ some k_ ≠ (.slice an y621.length ao : Value).ownBlock ∧ some k_ ≠ (.slice ai y630.length aj : Value).ownBlock ∧ some k_ ≠ (v637 : Value).ownBlock)) (by (with_reducible repeat first | apply rA_ | apply rN_ | apply rD_); exact Kd.R_mono a6.out (fun _ hk => ⟨⟨hk.1.1.1, ⟨hk.1.1.2.1, ⟨hk.1.1.2.2.1, ⟨hk.1.1.2.2.2.1, ⟨hk.1.1.2.2.2.2.1, ⟨hk.1.1.2.2.2.2.2, hk.1.2⟩⟩⟩⟩⟩⟩, hk.2⟩)) hg hat); have n6_ := Aside0.mk (Kd.R_after (ok := (fun k_ => some k_ ≠ (.slice a7 x3_3.length a8 : Value).ownBlock ∧ some k_ ≠ (.slice a9 t603.length aa : Value).ownBlock ∧ some k_ ≠ (.slice ac y609.length ad : Value).ownBlock ∧ some k_ ≠ (.slice ag y612.length ah : Value).ownBlock ∧ some k_ ≠ (.slice ae t618.length af : Value).ownBlock ∧ some k_ ≠ (.slice ai y630.length aj : Value).ownBlock ∧ some k_ ≠ (v637 : Value).ownBlock)) (by (with_reducible repeat first | apply rA_ | apply rN_ | apply rD_); exact Kd.R_mono ab.out (fun _ hk => ⟨⟨hk.1.1.1, ⟨hk.1.1.2.1, ⟨hk.1.1.2.2.1, ⟨hk.1.1.2.2.2.1, ⟨hk.1.1.2.2.2.2.1, ⟨hk.1.1.2.2.2.2.2, hk.1.2⟩⟩⟩⟩⟩⟩, hk.2⟩)) hg hat); have n7_ := Aside0.mk (Kd.R_after (ok := (fun k_ => some k_ ≠ (.slice a7 x3_3.length a8 : Value).ownBlock ∧ some k_ ≠ (.slice a9 t603.length aa : Value).ownBlock ∧ some k_ ≠ (.slice ac y609.length ad : Value).ownBlock ∧ some k_ ≠ (.slice ag y612.length ah : Value).ownBlock ∧ some k_ ≠ (.slice ae t618.length af : Value).ownBlock ∧ some k_ ≠ (.slice an y621.length ao : Value).ownBlock ∧ some k_ ≠ (v637 : Value).ownBlock)) (by (with_reducible repeat first | apply rA_ | apply rN_ | apply rD_); exact Kd.R_mono al.out (fun _ hk => ⟨⟨hk.1.1.1, ⟨hk.1.1.2.1, ⟨hk.1.1.2.2.1, ⟨hk.1.1.2.2.2.1, ⟨hk.1.1.2.2.2.2.1, ⟨hk.1.1.2.2.2.2.2, hk.1.2⟩⟩⟩⟩⟩⟩, hk.2⟩)) hg hat); have n8_ := Aside0.mk (Kd.R_after (ok := (fun k_ => some k_ ≠ (.slice a7 x3_3.length a8 : Value).ownBlock ∧ some k_ ≠ (.slice a9 t603.length aa : Value).ownBlock ∧ some k_ ≠ (.slice ac y609.length ad : Value).ownBlock ∧ some k_ ≠ (.slice ag y612.length ah : Value).ownBlock ∧ some k_ ≠ (.slice ae t618.length af : Value).ownBlock ∧ some k_ ≠ (.slice an y621.length ao : Value).ownBlock ∧ some k_ ≠ (.slice ai y630.length aj : Value).ownBlock)) (by (with_reducible repeat first | apply rA_ | apply rN_ | apply rD_); exact ap.out) hg hat); have n9_ := Aside0.mk (hb); have n10_ := Aside0.mk (ho); clear a2 a1 a3 a4 a6 ab al ap HB bg; have a2 := n0_; have a1 := n2_; have a3 := n3_; have a4 := n4_; have a6 := n5_; have ab := n6_; have al := n7_; have ap := n8_; have HB := n9_; have b3 := n10_; clear n0_ n2_ n3_ n4_ n5_ n6_ n7_ n8_ n9_ n10_ ho hb hg hat; obtain ⟨aq, ar, eo67⟩ := Kd.R_slice ap.out; subst eo67) | ((with_reducible refine gate_callee (f := 74) rfl ?_); refine goesA_ (some 57) rfl rfl Try.func74 (by kernel_rfl) rfl #[.slice aq y636.length ar] rfl ?_; (with_reducible refine (spec_SumWords.calls kj3 _ _ y636 t645 _ ?side1 ?side2 cx.out).mono ?_); (case side1 => repeat (first | exact (Kd.R_reads' ap.out).2.2 | (with_reducible refine Kd.C_alloc ?_ _) | (with_reducible refine Kd.C_drewN ?_ _) | (with_reducible refine Kd.C_drew ?_))); (case side2 => exact (Kd.R_reads' ap.out).2.1); rintro e w' ⟨rfl, ⟨nd, rfl⟩⟩; refine ⟨_, rfl, ?_⟩) | ((with_reducible refine gate_callee (f := 52) rfl ?_); refine goesA_ (some 58) rfl rfl Try.func52 (by kernel_rfl) rfl #[.int .i64 t645, .int .i64 2] rfl ?_; (with_reducible refine (spec_l1Bytes.calls kj3 t645 2 t646 _ cy.out).mono ?_); rintro e w68 ⟨v647, rfl, ho0, hb⟩; refine ⟨_, rfl, ?_⟩; have n0_ := Aside0.mk (Kd.R_elder' (by (with_reducible repeat first | apply rA_ | apply rN_ | apply rD_); exact a2.out) (Kd.R_base ho0) hb); have n1_ := Aside0.mk (Kd.R_elder' (by (with_reducible repeat first | apply rA_ | apply rN_ | apply rD_); exact a1.out) (Kd.R_base ho0) hb); have n2_ := Aside0.mk (Kd.R_elder' (by (with_reducible repeat first | apply rA_ | apply rN_ | apply rD_); exact a3.out) (Kd.R_base ho0) hb); have n3_ := Aside0.mk (Kd.R_elder' (by (with_reducible repeat first | apply rA_ | apply rN_ | apply rD_); exact a4.out) (Kd.R_base ho0) hb); have n4_ := Aside0.mk (Kd.R_elder' (by (with_reducible repeat first | apply rA_ | apply rN_ | apply rD_); exact a6.out) (Kd.R_base ho0) hb); have n5_ := Aside0.mk (Kd.R_elder' (by (with_reducible repeat first | apply rA_ | apply rN_ | apply rD_); exact ab.out) (Kd.R_base ho0) hb); have n6_ := Aside0.mk (Kd.R_elder' (by (with_reducible repeat first | apply rA_ | apply rN_ | apply rD_); exact al.out) (Kd.R_base ho0) hb); have n7_ := Aside0.mk (Kd.R_elder' (by (with_reducible repeat first | apply rA_ | apply rN_ | apply rD_); exact ap.out) (Kd.R_base ho0) hb); have n8_ := Aside0.mk (Kd.R_elder' (by (with_reducible repeat first | apply rA_ | apply rN_ | apply rD_); exact b3.out) (Kd.R_base ho0) hb); have n9_ := Aside0.mk (Kd.R_lower (Kd.R_new' (Kd.R_new' (Kd.R_new' (Kd.R_new' (Kd.R_new' (Kd.R_new' (Kd.R_new' (Kd.R_new' (Kd.R_new' ho0 (Kd.R_lt (by (with_reducible repeat first | apply rA_ | apply rN_ | apply rD_); exact a2.out))) (Kd.R_lt (by (with_reducible repeat first | apply rA_ | apply rN_ | apply rD_); exact a1.out))) (Kd.R_lt (by (with_reducible repeat first | apply rA_ | apply rN_ | apply rD_); exact a3.out))) (Kd.R_lt (by (with_reducible repeat first | apply rA_ | apply rN_ | apply rD_); exact a4.out))) (Kd.R_lt (by (with_reducible repeat first | apply rA_ | apply rN_ | apply rD_); exact a6.out))) (Kd.R_lt (by (with_reducible repeat first | apply rA_ | apply rN_ | apply rD_); exact ab.out))) (Kd.R_lt (by (with_reducible repeat first | apply rA_ | apply rN_ | apply rD_); exact al.out))) (Kd.R_lt (by (with_reducible repeat first | apply rA_ | apply rN_ | apply rD_); exact ap.out))) (Kd.R_lt (by (with_reducible repeat first | apply rA_ | apply rN_ | apply rD_); exact b3.out))) (below_size (by repeat (first | (with_reducible first | exact HB.out | apply lA1_ | apply lN_ | apply lD_ | refine lS1_ ?_ a5.out) | exact HB.out)))); have n11_ := Aside0.mk (lP_ (by repeat (first | (with_reducible first | exact HB.out | apply lA1_ | apply lN_ | apply lD_ | refine lS1_ ?_ a5.out) | exact HB.out)) hb); clear a2 a1 a3 a4 a6 ab al ap b3 HB; have a2 := n0_; have a1 := n1_; have a3 := n2_; have a4 := n3_; have a6 := n4_; have ab := n5_; have al := n6_; have ap := n7_; have b3 := n8_; have aw := n9_; have HB := n11_; clear n0_ n1_ n2_ n3_ n4_ n5_ n6_ n7_ n8_ n9_ n11_; (try clear hb); (try clear hb2); (try clear hk); (try clear hi); (try clear ho0); obtain ⟨au, av, eo70⟩ := Kd.R_slice aw.out; subst eo70) | ((with_reducible refine gate_builtin (b := .append) (xs := #[.tmp 55, .tmp 58]) rfl ?_); at_builtin; refine Kd.R_append_rows (Kd.int .u8) (w0 := w) w.heap.size rfl (.tmp 55) (.tmp 58) 22 5 (.int .u8 0) 1 rfl Try.underlying22 info5 rfl (by decide) (by omega) v643 y642 t646 _ _ _ (fun k_ => some k_ ≠ (.slice a7 x3_3.length a8 : Value).ownBlock ∧ some k_ ≠ (.slice a9 t603.length aa : Value).ownBlock ∧ some k_ ≠ (.slice ac y609.length ad : Value).ownBlock ∧ some k_ ≠ (.slice ag y612.length ah : Value).ownBlock ∧ some k_ ≠ (.slice ae t618.length af : Value).ownBlock ∧ some k_ ≠ (.slice an y621.length ao : Value).ownBlock ∧ some k_ ≠ (.slice ai y630.length aj : Value).ownBlock ∧ some k_ ≠ (.slice aq y636.length ar : Value).ownBlock ∧ some k_ ≠ (.slice au t646.length av : Value).ownBlock) (fun _ => False) rfl rfl ?aO ?aR (fun _ _ h => h) (fun _ h => h.elim) ?aF ?aB ?aS ?aL ?_; (case aR => repeat (first | exact (Kd.R_reads' aw.out).2.2 | (with_reducible refine Kd.C_alloc ?_ _) | (with_reducible refine Kd.C_drewN ?_ _) | (with_reducible refine Kd.C_drew ?_))); (case aB => exact (by repeat (first | (with_reducible first | exact HB.out | apply lA1_ | apply lN_ | apply lD_ | refine lS1_ ?_ a5.out) | exact HB.out))); (case aF => exact (fun k_ hk => ⟨Kd.fresh' (Kd.R_lt (by (with_reducible repeat first | apply rA_ | apply rN_ | apply rD_); exact a2.out)) k_ hk, Kd.fresh' (Kd.R_lt (by (with_reducible repeat first | apply rA_ | apply rN_ | apply rD_); exact a1.out)) k_ hk, Kd.fresh' (Kd.R_lt (by (with_reducible repeat first | apply rA_ | apply rN_ | apply rD_); exact a3.out)) k_ hk, Kd.fresh' (Kd.R_lt (by (with_reducible repeat first | apply rA_ | apply rN_ | apply rD_); exact a4.out)) k_ hk, Kd.fresh' (Kd.R_lt (by (with_reducible repeat first | apply rA_ | apply rN_ | apply rD_); exact a6.out)) k_ hk, Kd.fresh' (Kd.R_lt (by (with_reducible repeat first | apply rA_ | apply rN_ | apply rD_); exact ab.out)) k_ hk, Kd.fresh' (Kd.R_lt (by (with_reducible repeat first | apply rA_ | apply rN_ | apply rD_); exact al.out)) k_ hk, Kd.fresh' (Kd.R_lt (by (with_reducible repeat first | apply rA_ | apply rN_ | apply rD_); exact ap.out)) k_ hk, Kd.fresh' (Kd.R_lt (by (with_reducible repeat first | apply rA_ | apply rN_ | apply rD_); exact aw.out)) k_ hk⟩)); (case aO => exact (by (with_reducible repeat first | apply rA_ | apply rN_ | apply rD_); exact Kd.R_mono b3.out (fun _ hk => ⟨hk.1.1, ⟨hk.1.2.1, ⟨hk.1.2.2.1, ⟨hk.1.2.2.2.1, ⟨hk.1.2.2.2.2.1, ⟨hk.1.2.2.2.2.2.1, ⟨hk.1.2.2.2.2.2.2.1, ⟨hk.1.2.2.2.2.2.2.2, hk.2⟩⟩⟩⟩⟩⟩⟩⟩))); (case aS => exact (below_size (by repeat (first | (with_reducible first | exact HB.out | apply lA1_ | apply lN_ | apply lD_ | refine lS1_ ?_ a5.out) | exact HB.out)))); (case aL => have := ci.out; omega); intro v650 w69 ho hb hg hat; rw [← cj.out] at ho; have n0_ := Aside0.mk (Kd.R_after (ok := (fun k_ => some k_ ≠ (.slice a9 t603.length aa : Value).ownBlock ∧ some k_ ≠ (.slice ac y609.length ad : Value).ownBlock ∧ some k_ ≠ (.slice ag y612.length ah : Value).ownBlock ∧ some k_ ≠ (.slice ae t618.length af : Value).ownBlock ∧ some k_ ≠ (.slice an y621.length ao : Value).ownBlock ∧ some k_ ≠ (.slice ai y630.length aj : Value).ownBlock ∧ some k_ ≠ (.slice aq y636.length ar : Value).ownBlock ∧ some k_ ≠ (.slice au t646.length av : Value).ownBlock)) (by (with_reducible repeat first | apply rA_ | apply rN_ | apply rD_); exact Kd.R_mono a2.out (fun _ hk => ⟨⟨hk.1.1.1, ⟨hk.1.1.2.1, ⟨hk.1.1.2.2.1, ⟨hk.1.1.2.2.2.1, ⟨hk.1.1.2.2.2.2.1, ⟨hk.1.1.2.2.2.2.2.1, ⟨hk.1.1.2.2.2.2.2.2, hk.2⟩⟩⟩⟩⟩⟩⟩, hk.1.2⟩)) hg hat); have n2_ := Aside0.mk (Kd.R_after (ok := (fun k_ => some k_ ≠ (.slice a7 x3_3.length a8 : Value).ownBlock ∧ some k_ ≠ (.slice ac y609.length ad : Value).ownBlock ∧ some k_ ≠ (.slice ag y612.length ah : Value).ownBlock ∧ some k_ ≠ (.slice ae t618.length af : Value).ownBlock ∧ some k_ ≠ (.slice an y621.length ao : Value).ownBlock ∧ some k_ ≠ (.slice ai y630.length aj : Value).ownBlock ∧ some k_ ≠ (.slice aq y636.length ar : Value).ownBlock ∧ some k_ ≠ (.slice au t646.length av : Value).ownBlock)) (by (with_reducible repeat first | apply rA_ | apply rN_ | apply rD_); exact Kd.R_mono a1.out (fun _ hk => ⟨⟨hk.1.1.1, ⟨hk.1.1.2.1, ⟨hk.1.1.2.2.1, ⟨hk.1.1.2.2.2.1, ⟨hk.1.1.2.2.2.2.1, ⟨hk.1.1.2.2.2.2.2.1, ⟨hk.1.1.2.2.2.2.2.2, hk.2⟩⟩⟩⟩⟩⟩⟩, hk.1.2⟩)) hg hat); have n3_ := Aside0.mk (Kd.R_after (ok := (fun k_ => some k_ ≠ (.slice a7 x3_3.length a8 : Value).ownBlock ∧ some k_ ≠ (.slice a9 t603.length aa : Value).ownBlock ∧ some k_ ≠ (.slice ag y612.length ah : Value).ownBlock ∧ some k_ ≠ (.slice ae t618.length af : Value).ownBlock ∧ some k_ ≠ (.slice an y621.length ao : Value).ownBlock ∧ some k_ ≠ (.slice ai y630.length aj : Value).ownBlock ∧ some k_ ≠ (.slice aq y636.length ar : Value).ownBlock ∧ some k_ ≠ (.slice au t646.length av : Value).ownBlock)) (by (with_reducible repeat first | apply rA_ | apply rN_ | apply rD_); exact Kd.R_mono a3.out (fun _ hk => ⟨⟨hk.1.1.1, ⟨hk.1.1.2.1, ⟨hk.1.1.2.2.1, ⟨hk.1.1.2.2.2.1, ⟨hk.1.1.2.2.2.2.1, ⟨hk.1.1.2.2.2.2.2.1, ⟨hk.1.1.2.2.2.2.2.2, hk.2⟩⟩⟩⟩⟩⟩⟩, hk.1.2⟩)) hg hat); have n4_ := Aside0.mk (Kd.R_after (ok := (fun k_ => some k_ ≠ (.slice a7 x3_3.length a8 : Value).ownBlock ∧ some k_ ≠ (.slice a9 t603.length aa : Value).ownBlock ∧ some k_ ≠ (.slice ac y609.length ad : Value).ownBlock ∧ some k_ ≠ (.slice ae t618.length af : Value).ownBlock ∧ some k_ ≠ (.slice an y621.length ao : Value).ownBlock ∧ some k_ ≠ (.slice ai y630.length aj : Value).ownBlock ∧ some k_ ≠ (.slice aq y636.length ar : Value).ownBlock ∧ some k_ ≠ (.slice au t646.length av : Value).ownBlock)) (by (with_reducible repeat first | apply rA_ | apply rN_ | apply rD_); exact Kd.R_mono a4.out (fun _ hk => ⟨⟨hk.1.1.1, ⟨hk.1.1.2.1, ⟨hk.1.1.2.2.1, ⟨hk.1.1.2.2.2.1, ⟨hk.1.1.2.2.2.2.1, ⟨hk.1.1.2.2.2.2.2.1, ⟨hk.1.1.2.2.2.2.2.2, hk.2⟩⟩⟩⟩⟩⟩⟩, hk.1.2⟩)) hg hat); have n5_ := Aside0.mk (Kd.R_after (ok := (fun k_ => some k_ ≠ (.slice a7 x3_3.length a8 : Value).ownBlock ∧ some k_ ≠ (.slice a9 t603.length aa : Value).ownBlock ∧ some k_ ≠ (.slice ac y609.length ad : Value).ownBlock ∧ some k_ ≠ (.slice ag y612.length ah : Value).ownBlock ∧ some k_ ≠ (.slice an y621.length ao : Value).ownBlock ∧ some k_ ≠ (.slice ai y630.length aj : Value).ownBlock ∧ some k_ ≠ (.slice aq y636.length ar : Value).ownBlock ∧ some k_ ≠ (.slice au t646.length av : Value).ownBlock)) (by (with_reducible repeat first | apply rA_ | apply rN_ | apply rD_); exact Kd.R_mono a6.out (fun _ hk => ⟨⟨hk.1.1.1, ⟨hk.1.1.2.1, ⟨hk.1.1.2.2.1, ⟨hk.1.1.2.2.2.1, ⟨hk.1.1.2.2.2.2.1, ⟨hk.1.1.2.2.2.2.2.1, ⟨hk.1.1.2.2.2.2.2.2, hk.2⟩⟩⟩⟩⟩⟩⟩, hk.1.2⟩)) hg hat); have n6_ := Aside0.mk (Kd.R_after (ok := (fun k_ => some k_ ≠ (.slice a7 x3_3.length a8 : Value).ownBlock ∧ some k_ ≠ (.slice a9 t603.length aa : Value).ownBlock ∧ some k_ ≠ (.slice ac y609.length ad : Value).ownBlock ∧ some k_ ≠ (.slice ag y612.length ah : Value).ownBlock ∧ some k_ ≠ (.slice ae t618.length af : Value).ownBlock ∧ some k_ ≠ (.slice ai y630.length aj : Value).ownBlock ∧ some k_ ≠ (.slice aq y636.length ar : Value).ownBlock ∧ some k_ ≠ (.slice au t646.length av : Value).ownBlock)) (by (with_reducible repeat first | apply rA_ | apply rN_ | apply rD_); exact Kd.R_mono ab.out (fun _ hk => ⟨⟨hk.1.1.1, ⟨hk.1.1.2.1, ⟨hk.1.1.2.2.1, ⟨hk.1.1.2.2.2.1, ⟨hk.1.1.2.2.2.2.1, ⟨hk.1.1.2.2.2.2.2.1, ⟨hk.1.1.2.2.2.2.2.2, hk.2⟩⟩⟩⟩⟩⟩⟩, hk.1.2⟩)) hg hat); have n7_ := Aside0.mk (Kd.R_after (ok := (fun k_ => some k_ ≠ (.slice a7 x3_3.length a8 : Value).ownBlock ∧ some k_ ≠ (.slice a9 t603.length aa : Value).ownBlock ∧ some k_ ≠ (.slice ac y609.length ad : Value).ownBlock ∧ some k_ ≠ (.slice ag y612.length ah : Value).ownBlock ∧ some k_ ≠ (.slice ae t618.length af : Value).ownBlock ∧ some k_ ≠ (.slice an y621.length ao : Value).ownBlock ∧ some k_ ≠ (.slice aq y636.length ar : Value).ownBlock ∧ some k_ ≠ (.slice au t646.length av : Value).ownBlock)) (by (with_reducible repeat first | apply rA_ | apply rN_ | apply rD_); exact Kd.R_mono al.out (fun _ hk => ⟨⟨hk.1.1.1, ⟨hk.1.1.2.1, ⟨hk.1.1.2.2.1, ⟨hk.1.1.2.2.2.1, ⟨hk.1.1.2.2.2.2.1, ⟨hk.1.1.2.2.2.2.2.1, ⟨hk.1.1.2.2.2.2.2.2, hk.2⟩⟩⟩⟩⟩⟩⟩, hk.1.2⟩)) hg hat); have n8_ := Aside0.mk (Kd.R_after (ok := (fun k_ => some k_ ≠ (.slice a7 x3_3.length a8 : Value).ownBlock ∧ some k_ ≠ (.slice a9 t603.length aa : Value).ownBlock ∧ some k_ ≠ (.slice ac y609.length ad : Value).ownBlock ∧ some k_ ≠ (.slice ag y612.length ah : Value).ownBlock ∧ some k_ ≠ (.slice ae t618.length af : Value).ownBlock ∧ some k_ ≠ (.slice an y621.length ao : Value).ownBlock ∧ some k_ ≠ (.slice ai y630.length aj : Value).ownBlock ∧ some k_ ≠ (.slice au t646.length av : Value).ownBlock)) (by (with_reducible repeat first | apply rA_ | apply rN_ | apply rD_); exact Kd.R_mono ap.out (fun _ hk => ⟨⟨hk.1.1.1, ⟨hk.1.1.2.1, ⟨hk.1.1.2.2.1, ⟨hk.1.1.2.2.2.1, ⟨hk.1.1.2.2.2.2.1, ⟨hk.1.1.2.2.2.2.2.1, ⟨hk.1.1.2.2.2.2.2.2, hk.2⟩⟩⟩⟩⟩⟩⟩, hk.1.2⟩)) hg hat); have n9_ := Aside0.mk (Kd.R_after (ok := (fun k_ => some k_ ≠ (.slice a7 x3_3.length a8 : Value).ownBlock ∧ some k_ ≠ (.slice a9 t603.length aa : Value).ownBlock ∧ some k_ ≠ (.slice ac y609.length ad : Value).ownBlock ∧ some k_ ≠ (.slice ag y612.length ah : Value).ownBlock ∧ some k_ ≠ (.slice ae t618.length af : Value).ownBlock ∧ some k_ ≠ (.slice an y621.length ao : Value).ownBlock ∧ some k_ ≠ (.slice ai y630.length aj : Value).ownBlock ∧ some k_ ≠ (.slice aq y636.length ar : Value).ownBlock)) (by (with_reducible repeat first | apply rA_ | apply rN_ | apply rD_); exact Kd.R_mono aw.out (fun _ hk => ⟨⟨hk.1.1.1.1.1.1.1.1.2, ⟨hk.1.1.1.1.1.1.1.2, ⟨hk.1.1.1.1.1.1.2, ⟨hk.1.1.1.1.1.2, ⟨hk.1.1.1.1.2, ⟨hk.1.1.1.2, ⟨hk.1.1.2, hk.1.2⟩⟩⟩⟩⟩⟩⟩, hk.2⟩)) hg hat); have n10_ := Aside0.mk (hb); have n11_ := Aside0.mk (ho); clear a2 a1 a3 a4 a6 ab al ap aw HB b3; have a2 := n0_; have a1 := n2_; have a3 := n3_; have a4 := n4_; have a6 := n5_; have ab := n6_; have al := n7_; have ap := n8_; have aw := n9_; have HB := n10_; have bh := n11_; clear n0_ n2_ n3_ n4_ n5_ n6_ n7_ n8_ n9_ n10_ n11_ ho hb hg hat) | ((with_reducible refine gate_builtin (b := .append) (xs := #[.tmp 59, .tmp 60]) rfl ?_); at_builtin; refine Kd.R_append_rows (Kd.int .u8) (w0 := w) w.heap.size rfl (.tmp 59) (.tmp 60) 22 5 (.int .u8 0) 1 rfl Try.underlying22 info5 rfl (by decide) (by omega) v650 y649 y621 _ _ _ (fun k_ => some k_ ≠ (.slice a7 x3_3.length a8 : Value).ownBlock ∧ some k_ ≠ (.slice a9 t603.length aa : Value).ownBlock ∧ some k_ ≠ (.slice ac y609.length ad : Value).ownBlock ∧ some k_ ≠ (.slice ag y612.length ah : Value).ownBlock ∧ some k_ ≠ (.slice ae t618.length af : Value).ownBlock ∧ some k_ ≠ (.slice an y621.length ao : Value).ownBlock ∧ some k_ ≠ (.slice ai y630.length aj : Value).ownBlock ∧ some k_ ≠ (.slice aq y636.length ar : Value).ownBlock ∧ some k_ ≠ (.slice au t646.length av : Value).ownBlock) (fun _ => False) rfl rfl ?aO ?aR (fun _ _ h => h) (fun _ h => h.elim) ?aF ?aB ?aS ?aL ?_; (case aR => repeat (first | exact (Kd.R_reads' ab.out).2.2 | (with_reducible refine Kd.C_alloc ?_ _) | (with_reducible refine Kd.C_drewN ?_ _) | (with_reducible refine Kd.C_drew ?_))); (case aB => exact (by repeat (first | (with_reducible first | exact HB.out | apply lA1_ | apply lN_ | apply lD_ | refine lS1_ ?_ a5.out) | exact HB.out))); (case aF => exact (fun k_ hk => ⟨Kd.fresh' (Kd.R_lt (by (with_reducible repeat first | apply rA_ | apply rN_ | apply rD_); exact a2.out)) k_ hk, Kd.fresh' (Kd.R_lt (by (with_reducible repeat first | apply rA_ | apply rN_ | apply rD_); exact a1.out)) k_ hk, Kd.fresh' (Kd.R_lt (by (with_reducible repeat first | apply rA_ | apply rN_ | apply rD_); exact a3.out)) k_ hk, Kd.fresh' (Kd.R_lt (by (with_reducible repeat first | apply rA_ | apply rN_ | apply rD_); exact a4.out)) k_ hk, Kd.fresh' (Kd.R_lt (by (with_reducible repeat first | apply rA_ | apply rN_ | apply rD_); exact a6.out)) k_ hk, Kd.fresh' (Kd.R_lt (by (with_reducible repeat first | apply rA_ | apply rN_ | apply rD_); exact ab.out)) k_ hk, Kd.fresh' (Kd.R_lt (by (with_reducible repeat first | apply rA_ | apply rN_ | apply rD_); exact al.out)) k_ hk, Kd.fresh' (Kd.R_lt (by (with_reducible repeat first | apply rA_ | apply rN_ | apply rD_); exact ap.out)) k_ hk, Kd.fresh' (Kd.R_lt (by (with_reducible repeat first | apply rA_ | apply rN_ | apply rD_); exact aw.out)) k_ hk⟩)); (case aO => exact (by (with_reducible repeat first | apply rA_ | apply rN_ | apply rD_); exact bh.out)); (case aS => exact (below_size (by repeat (first | (with_reducible first | exact HB.out | apply lA1_ | apply lN_ | apply lD_ | refine lS1_ ?_ a5.out) | exact HB.out)))); (case aL => have := ck.out; omega); intro v653 w71 ho hb hg hat; rw [← cl.out] at ho; have n0_ := Aside0.mk (Kd.R_after (ok := (fun k_ => some k_ ≠ (.slice a9 t603.length aa : Value).ownBlock ∧ some k_ ≠ (.slice ac y609.length ad : Value).ownBlock ∧ some k_ ≠ (.slice ag y612.length ah : Value).ownBlock ∧ some k_ ≠ (.slice ae t618.length af : Value).ownBlock ∧ some k_ ≠ (.slice an y621.length ao : Value).ownBlock ∧ some k_ ≠ (.slice ai y630.length aj : Value).ownBlock ∧ some k_ ≠ (.slice aq y636.length ar : Value).ownBlock ∧ some k_ ≠ (.slice au t646.length av : Value).ownBlock)) (by (with_reducible repeat first | apply rA_ | apply rN_ | apply rD_); exact a2.out) hg hat); have n2_ := Aside0.mk (Kd.R_after (ok := (fun k_ => some k_ ≠ (.slice a7 x3_3.length a8 : Value).ownBlock ∧ some k_ ≠ (.slice ac y609.length ad : Value).ownBlock ∧ some k_ ≠ (.slice ag y612.length ah : Value).ownBlock ∧ some k_ ≠ (.slice ae t618.length af : Value).ownBlock ∧ some k_ ≠ (.slice an y621.length ao : Value).ownBlock ∧ some k_ ≠ (.slice ai y630.length aj : Value).ownBlock ∧ some k_ ≠ (.slice aq y636.length ar : Value).ownBlock ∧ some k_ ≠ (.slice au t646.length av : Value).ownBlock)) (by (with_reducible repeat first | apply rA_ | apply rN_ | apply rD_); exact a1.out) hg hat); have n3_ := Aside0.mk (Kd.R_after (ok := (fun k_ => some k_ ≠ (.slice a7 x3_3.length a8 : Value).ownBlock ∧ some k_ ≠ (.slice a9 t603.length aa : Value).ownBlock ∧ some k_ ≠ (.slice ag y612.length ah : Value).ownBlock ∧ some k_ ≠ (.slice ae t618.length af : Value).ownBlock ∧ some k_ ≠ (.slice an y621.length ao : Value).ownBlock ∧ some k_ ≠ (.slice ai y630.length aj : Value).ownBlock ∧ some k_ ≠ (.slice aq y636.length ar : Value).ownBlock ∧ some k_ ≠ (.slice au t646.length av : Value).ownBlock)) (by (with_reducible repeat first | apply rA_ | apply rN_ | apply rD_); exact a3.out) hg hat); have n4_ := Aside0.mk (Kd.R_after (ok := (fun k_ => some k_ ≠ (.slice a7 x3_3.length a8 : Value).ownBlock ∧ some k_ ≠ (.slice a9 t603.length aa : Value).ownBlock ∧ some k_ ≠ (.slice ac y609.length ad : Value).ownBlock ∧ some k_ ≠ (.slice ae t618.length af : Value).ownBlock ∧ some k_ ≠ (.slice an y621.length ao : Value).ownBlock ∧ some k_ ≠ (.slice ai y630.length aj : Value).ownBlock ∧ some k_ ≠ (.slice aq y636.length ar : Value).ownBlock ∧ some k_ ≠ (.slice au t646.length av : Value).ownBlock)) (by (with_reducible repeat first | apply rA_ | apply rN_ | apply rD_); exact a4.out) hg hat); have n5_ := Aside0.mk (Kd.R_after (ok := (fun k_ => some k_ ≠ (.slice a7 x3_3.length a8 : Value).ownBlock ∧ some k_ ≠ (.slice a9 t603.length aa : Value).ownBlock ∧ some k_ ≠ (.slice ac y609.length ad : Value).ownBlock ∧ some k_ ≠ (.slice ag y612.length ah : Value).ownBlock ∧ some k_ ≠ (.slice an y621.length ao : Value).ownBlock ∧ some k_ ≠ (.slice ai y630.length aj : Value).ownBlock ∧ some k_ ≠ (.slice aq y636.length ar : Value).ownBlock ∧ some k_ ≠ (.slice au t646.length av : Value).ownBlock)) (by (with_reducible repeat first | apply rA_ | apply rN_ | apply rD_); exact a6.out) hg hat); have n6_ := Aside0.mk (Kd.R_after (ok := (fun k_ => some k_ ≠ (.slice a7 x3_3.length a8 : Value).ownBlock ∧ some k_ ≠ (.slice a9 t603.length aa : Value).ownBlock ∧ some k_ ≠ (.slice ac y609.length ad : Value).ownBlock ∧ some k_ ≠ (.slice ag y612.length ah : Value).ownBlock ∧ some k_ ≠ (.slice ae t618.length af : Value).ownBlock ∧ some k_ ≠ (.slice ai y630.length aj : Value).ownBlock ∧ some k_ ≠ (.slice aq y636.length ar : Value).ownBlock ∧ some k_ ≠ (.slice au t646.length av : Value).ownBlock)) (by (with_reducible repeat first | apply rA_ | apply rN_ | apply rD_); exact ab.out) hg hat); have n7_ := Aside0.mk (Kd.R_after (ok := (fun k_ => some k_ ≠ (.slice a7 x3_3.length a8 : Value).ownBlock ∧ some k_ ≠ (.slice a9 t603.length aa : Value).ownBlock ∧ some k_ ≠ (.slice ac y609.length ad : Value).ownBlock ∧ some k_ ≠ (.slice ag y612.length ah : Value).ownBlock ∧ some k_ ≠ (.slice ae t618.length af : Value).ownBlock ∧ some k_ ≠ (.slice an y621.length ao : Value).ownBlock ∧ some k_ ≠ (.slice aq y636.length ar : Value).ownBlock ∧ some k_ ≠ (.slice au t646.length av : Value).ownBlock)) (by (with_reducible repeat first | apply rA_ | apply rN_ | apply rD_); exact al.out) hg hat); have n8_ := Aside0.mk (Kd.R_after (ok := (fun k_ => some k_ ≠ (.slice a7 x3_3.length a8 : Value).ownBlock ∧ some k_ ≠ (.slice a9 t603.length aa : Value).ownBlock ∧ some k_ ≠ (.slice ac y609.length ad : Value).ownBlock ∧ some k_ ≠ (.slice ag y612.length ah : Value).ownBlock ∧ some k_ ≠ (.slice ae t618.length af : Value).ownBlock ∧ some k_ ≠ (.slice an y621.length ao : Value).ownBlock ∧ some k_ ≠ (.slice ai y630.length aj : Value).ownBlock ∧ some k_ ≠ (.slice au t646.length av : Value).ownBlock)) (by (with_reducible repeat first | apply rA_ | apply rN_ | apply rD_); exact ap.out) hg hat); have n9_ := Aside0.mk (Kd.R_after (ok := (fun k_ => some k_ ≠ (.slice a7 x3_3.length a8 : Value).ownBlock ∧ some k_ ≠ (.slice a9 t603.length aa : Value).ownBlock ∧ some k_ ≠ (.slice ac y609.length ad : Value).ownBlock ∧ some k_ ≠ (.slice ag y612.length ah : Value).ownBlock ∧ some k_ ≠ (.slice ae t618.length af : Value).ownBlock ∧ some k_ ≠ (.slice an y621.length ao : Value).ownBlock ∧ some k_ ≠ (.slice ai y630.length aj : Value).ownBlock ∧ some k_ ≠ (.slice aq y636.length ar : Value).ownBlock)) (by (with_reducible repeat first | apply rA_ | apply rN_ | apply rD_); exact aw.out) hg hat); have n10_ := Aside0.mk (hb); have n11_ := Aside0.mk (ho); clear a2 a1 a3 a4 a6 ab al ap aw HB bh; have a2 := n0_; have a1 := n2_; have a3 := n3_; have a4 := n4_; have a6 := n5_; have ab := n6_; have al := n7_; have ap := n8_; have aw := n9_; have HB := n10_; have bi := n11_; clear n0_ n2_ n3_ n4_ n5_ n6_ n7_ n8_ n9_ n10_ n11_ ho hb hg hat) | ((with_reducible refine gate_builtin (b := .append) (xs := #[.tmp 62, .tmp 63]) rfl ?_); at_builtin; refine Kd.R_append_rows (Kd.int .u8) (w0 := w) w.heap.size rfl (.tmp 62) (.tmp 63) 22 5 (.int .u8 0) 1 rfl Try.underlying22 info5 rfl (by decide) (by omega) v653 y652 x3_3 _ _ _ (fun k_ => some k_ ≠ (.slice a7 x3_3.length a8 : Value).ownBlock ∧ some k_ ≠ (.slice a9 t603.length aa : Value).ownBlock ∧ some k_ ≠ (.slice ac y609.length ad : Value).ownBlock ∧ some k_ ≠ (.slice ag y612.length ah : Value).ownBlock ∧ some k_ ≠ (.slice ae t618.length af : Value).ownBlock ∧ some k_ ≠ (.slice an y621.length ao : Value).ownBlock ∧ some k_ ≠ (.slice ai y630.length aj : Value).ownBlock ∧ some k_ ≠ (.slice aq y636.length ar : Value).ownBlock ∧ some k_ ≠ (.slice au t646.length av : Value).ownBlock) (fun _ => False) rfl rfl ?aO ?aR (fun _ _ h => h) (fun _ h => h.elim) ?aF ?aB ?aS ?aL ?_; (case aR => repeat (first | exact (Kd.R_reads' a2.out).2.2 | (with_reducible refine Kd.C_alloc ?_ _) | (with_reducible refine Kd.C_drewN ?_ _) | (with_reducible refine Kd.C_drew ?_))); (case aB => exact (by repeat (first | (with_reducible first | exact HB.out | apply lA1_ | apply lN_ | apply lD_ | refine lS1_ ?_ a5.out) | exact HB.out))); (case aF => exact (fun k_ hk => ⟨Kd.fresh' (Kd.R_lt (by (with_reducible repeat first | apply rA_ | apply rN_ | apply rD_); exact a2.out)) k_ hk, Kd.fresh' (Kd.R_lt (by (with_reducible repeat first | apply rA_ | apply rN_ | apply rD_); exact a1.out)) k_ hk, Kd.fresh' (Kd.R_lt (by (with_reducible repeat first | apply rA_ | apply rN_ | apply rD_); exact a3.out)) k_ hk, Kd.fresh' (Kd.R_lt (by (with_reducible repeat first | apply rA_ | apply rN_ | apply rD_); exact a4.out)) k_ hk, Kd.fresh' (Kd.R_lt (by (with_reducible repeat first | apply rA_ | apply rN_ | apply rD_); exact a6.out)) k_ hk, Kd.fresh' (Kd.R_lt (by (with_reducible repeat first | apply rA_ | apply rN_ | apply rD_); exact ab.out)) k_ hk, Kd.fresh' (Kd.R_lt (by (with_reducible repeat first | apply rA_ | apply rN_ | apply rD_); exact al.out)) k_ hk, Kd.fresh' (Kd.R_lt (by (with_reducible repeat first | apply rA_ | apply rN_ | apply rD_); exact ap.out)) k_ hk, Kd.fresh' (Kd.R_lt (by (with_reducible repeat first | apply rA_ | apply rN_ | apply rD_); exact aw.out)) k_ hk⟩)); (case aO => exact (by (with_reducible repeat first | apply rA_ | apply rN_ | apply rD_); exact bi.out)); (case aS => exact (below_size (by repeat (first | (with_reducible first | exact HB.out | apply lA1_ | apply lN_ | apply lD_ | refine lS1_ ?_ a5.out) | exact HB.out)))); (case aL => have := cm.out; omega); intro v656 w72 ho hb hg hat; rw [← cn.out] at ho; have n10_ := Aside0.mk (hb); have n11_ := Aside0.mk (ho); clear HB bi; have HB := n10_; have co := n11_; clear n10_ n11_ ho hb hg hat))
              go_ret
              exact ⟨_, by first | rfl | (simp [errW_none, errW_some] <;> rfl) | (simp [*, errW_none, errW_some] <;> rfl), by (with_reducible repeat first | apply rA_ | apply rN_ | apply rD_); exact Kd.R_mono co.out (fun _ hk => trivial), by repeat (first | (with_reducible first | exact HB.out | apply lA1_ | apply lN_ | apply lD_ | refine lS1_ ?_ a5.out) | exact HB.out)⟩
             ·rw [if_neg c37] at H
              exact absurd H (by simp)
            ·rw [if_neg c36] at H
             exact absurd H (by simp)
           ·rw [if_neg c35] at H
            exact absurd H (by simp)
          ·rw [if_neg c32] at H
           exact absurd H (by simp)
         ·rw [if_neg c31] at H
          exact absurd H (by simp)
        ·rw [if_neg c30] at H
         exact absurd H (by simp)
       ·rw [if_neg c29] at H
        exact absurd H (by simp)
      ·rw [if_neg c28] at H
       exact absurd H (by simp)
     ·rw [if_neg c25] at H
      exact absurd H (by simp)
    ·rw [if_neg c24] at H
     exact absurd H (by simp)
 ·rw [if_neg c2] at H
  exact absurd H (by simp)
end Go.Proofs.Ytidejdfbapjfiaa.G
