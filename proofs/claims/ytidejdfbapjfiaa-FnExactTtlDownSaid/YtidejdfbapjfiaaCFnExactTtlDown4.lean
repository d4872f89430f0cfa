/- Part 4 of the proof of FnExactTtlDown: what the functions on its road do, and the plain laws. -/
import Derived.Test.YtidejdfbapjfiaaCFnExactTtlDown3
namespace Go.Proofs.Ytidejdfbapjfiaa.G
open Go.RowKit Go.Proofs.YtidejdfbapjfiaaW.PrintWords Go.Proofs.YtidejdfbapjfiaaW.PrintLast Go.Proofs.YtidejdfbapjfiaaW.PrintMore
attribute [local go_sem] max2_int min2_int max_two min_two max_three min_three max_four min_four   -- for this text's walks alone
set_option linter.unusedVariables false
set_option linter.unusedSimpArgs false
mutual
def impl_ParsePacket.j1 : Nat → List Int → Int → Int → Int → Int → Int → Int → Option (Int × Int × Int × Int × Int × Int × Int × List Int)
 | 0, _, _, _, _, _, _, _ => none
 | k + 1, x4, x491000, x491001, x491002, x491003, x491004, x491005 => (impl_HasPorts.f x491002).bind fun t493 => (if t493 = true then (if 2 ≤ (x4.length : Int) then ((impl_take.f k (x4.take 2)).bind fun t495 => (if 2 ≤ 4 then (if 4 ≤ (x4.length : Int) then ((impl_take.f k ((x4.take 4).drop 2)).bind fun t497 => (if ((x4.drop 4).length : Int) > 200 then (some (2, 0, 0, 0, 0, 0, 0, ([] : List Int))) else ((slices_Clone_byte_byte.f (x4.drop 4)).bind fun t499 => (some (0, x491000, x491001, x491002, x491003, t495, t497, t499))))) else (none)) else (none))) else (none)) else (if (x4.length : Int) > 200 then (some (2, 0, 0, 0, 0, 0, 0, ([] : List Int))) else ((slices_Clone_byte_byte.f x4).bind fun t502 => (some (0, x491000, x491001, x491002, x491003, x491004, x491005, t502)))))
def impl_ParsePacket.j0 : Nat → List Int → Bool → Int → Int → Int → Int → Int → Int → Option (Int × Int × Int × Int × Int × Int × Int × List Int)
 | 0, _, _, _, _, _, _, _, _ => none
 | k + 1, x4, x33, x491000, x491001, x491002, x491003, x491004, x491005 => if x33 = true then (some (3, 0, 0, 0, 0, 0, 0, ([] : List Int))) else ((impl_HasPorts.f x491002).bind fun t492 => (if t492 = true then (if (x4.length : Int) < 4 then (some (5, 0, 0, 0, 0, 0, 0, ([] : List Int))) else (impl_ParsePacket.j1 k x4 x491000 x491001 x491002 x491003 x491004 x491005)) else (impl_ParsePacket.j1 k x4 x491000 x491001 x491002 x491003 x491004 x491005)))
end
def impl_ParsePacket.f (k : Nat) (l0 : List Int) : Option (Int × Int × Int × Int × Int × Int × Int × List Int) := (impl_headOk.f k l0).bind fun t481 => (if t481 = true then (if 20 ≤ (l0.length : Int) then ((impl_CheckWords.f k (l0.take 20)).bind fun t483 => (if t483 = true then (if 12 ≤ 16 then (if 16 ≤ (l0.length : Int) then ((impl_take.f k ((l0.take 16).drop 12)).bind fun t485 => (if 16 ≤ 20 then ((impl_take.f k ((l0.take 20).drop 16)).bind fun t487 => (if 9 < (l0.length : Int) then (if 8 < (l0.length : Int) then (if (wrap64 (rd l0 8)) = 0 then (impl_ParsePacket.j0 k (l0.drop 20) true t485 t487 (wrap64 (rd l0 9)) (wrap64 (rd l0 8)) 0 0) else (impl_ParsePacket.j0 k (l0.drop 20) ((wrap64 (rd l0 9)) == 0) t485 t487 (wrap64 (rd l0 9)) (wrap64 (rd l0 8)) 0 0)) else (none)) else (none))) else (none))) else (none)) else (none)) else (some (6, 0, 0, 0, 0, 0, 0, ([] : List Int))))) else (none)) else (some (5, 0, 0, 0, 0, 0, 0, ([] : List Int))))
def impl_ParsePacket.T5 : Bool × List (List Nat × List Nat) := (true, [([], []), ([0], [0]), ([1], [1]), ([], []), ([3], [3]), ([4, 2], [4]), ([], []), ([6], [6]), ([7], [7]), ([8], [8]), ([], []), ([10], [10]), ([11], [11]), ([12], [12]), ([2, 5, 9, 13], [2, 5, 9, 13]), ([], []), ([15, 14, 5, 0, 1, 2, 3, 4, 5, 6, 7, 8, 9, 10, 11, 12, 13, 14, 15], [14, 15])])
def impl_ParsePacket.B5 : List Nat := [0, 1, 3, 0, 8, 31, 0, 64, 192, 448, 0, 1024, 3072, 7168, 16383, 0, 65535]
theorem impl_ParsePacket.tab5 : rtab .any (opsOf Try.f17 5) = impl_ParsePacket.T5 := by kernel_rfl
theorem impl_ParsePacket.bits5 : waitsOk impl_ParsePacket.T5.2 impl_ParsePacket.B5 = true := by kernel_rfl
def impl_ParsePacket.T12 : Bool × List (List Nat × List Nat) := (true, [([], []), ([0], [0]), ([1], [1]), ([], []), ([3], [3]), ([4, 2], [4]), ([], []), ([6], [6]), ([0, 1, 2], []), ([8, 2, 5, 0, 1, 2], [2, 8]), ([0, 1, 2, 3, 4, 5, 8, 9], []), ([10, 5, 9, 0, 1, 2, 3, 4, 5, 8, 9], [5, 10]), ([7, 11, 0, 1, 2, 3, 4, 5, 6, 7, 8, 9, 10, 11], [0, 3, 6, 7])])
def impl_ParsePacket.B12 : List Nat := [0, 1, 3, 0, 8, 31, 0, 64, 7, 319, 831, 1855, 4095]
theorem impl_ParsePacket.tab12 : rtab .any (opsOf Try.f17 12) = impl_ParsePacket.T12 := by kernel_rfl
theorem impl_ParsePacket.bits12 : waitsOk impl_ParsePacket.T12.2 impl_ParsePacket.B12 = true := by kernel_rfl
set_option maxHeartbeats 8000000 in
set_option maxRecDepth 100000 in
theorem impl_ParsePacket.calls (k : Nat) (A0 : Option Addr) (c0 : Nat) (l0 : List Int) (r1 : Int) (r2 : Int) (r3 : Int) (r4 : Int) (r5 : Int) (r6 : Int) (r7 : Int) (r8 : List Int) (w : World) (hr0 : Kd.C (Kd.int .u8) w A0 l0.length l0) (hc0 : l0.length ≤ c0) (h : impl_ParsePacket.f k l0 = some (r1, r2, r3, r4, r5, r6, r7, r8)) :
  Calls Try.prog 17 #[.slice A0 l0.length c0] w fun e w' => ∃ v7_ : Value, e = .returned (.agg #[.int .i64 r1, .int .i64 r2, .int .i64 r3, .int .i64 r4, .int .i64 r5, .int .i64 r6, .int .i64 r7, v7_]) ∧ Kd.R (Kd.int .u8) 5 w' w.heap.size (fun _ => True) v7_ r8 ∧ Below w.heap.size w w' := by
 have hu36 := Try.underlying36
 have hu34 := Try.underlying34
 have HR0 := Aside0.mk hr0
 have HC0 := Aside0.mk hc0
 clear hr0 hc0
 have HB := Aside0.mk (Below.refl w.heap.size w)
 obtain ⟨pv_, hp_pv_⟩ : ∃ pv_ : List Int, Aside0 (pv_ = l0.drop 20) := ⟨_, Aside0.mk rfl⟩
 obtain ⟨qv_, hp_qv_⟩ : ∃ qv_ : List Int, Aside0 (qv_ = pv_.drop 4) := ⟨_, Aside0.mk rfl⟩
 have H : ((impl_headOk.f k l0).bind fun t481 => (if t481 = true then (if 20 ≤ (l0.length : Int) then ((impl_CheckWords.f k (l0.take 20)).bind fun t483 => (if t483 = true then (if 12 ≤ 16 then (if 16 ≤ (l0.length : Int) then ((impl_take.f k ((l0.take 16).drop 12)).bind fun t485 => (if 16 ≤ 20 then ((impl_take.f k ((l0.take 20).drop 16)).bind fun t487 => (if 9 < (l0.length : Int) then (if 8 < (l0.length : Int) then (if (wrap64 (rd l0 8)) = 0 then (impl_ParsePacket.j0 k pv_ true t485 t487 (wrap64 (rd l0 9)) (wrap64 (rd l0 8)) 0 0) else (impl_ParsePacket.j0 k pv_ ((wrap64 (rd l0 9)) == 0) t485 t487 (wrap64 (rd l0 9)) (wrap64 (rd l0 8)) 0 0)) else (none)) else (none))) else (none))) else (none)) else (none)) else (some (6, 0, 0, 0, 0, 0, 0, ([] : List Int))))) else (none)) else (some (5, 0, 0, 0, 0, 0, 0, ([] : List Int))))) = some (r1, r2, r3, r4, r5, r6, r7, r8) := by rw [hp_pv_.out]; exact h
 clear h
 replace H := Option.bind_eq_some_iff.mp H
 obtain ⟨t481, A20, H⟩ := H
 try dsimp only at H
 have A2 := Aside0.mk A20
 clear A20
 by_cases c3 : t481 = true
 ·subst c3
  rw [if_pos rfl] at H
  by_cases c4 : 20 ≤ (l0.length : Int)
  ·rw [if_pos c4] at H
   have c4b0 := eq_true c4
   have c4b1 : decide (20 ≤ (l0.length : Int)) = true := decide_eq_true c4
   clear c4
   replace H := Option.bind_eq_some_iff.mp H
   obtain ⟨t483, A50, H⟩ := H
   try dsimp only at H
   have A5 := Aside0.mk A50
   clear A50
   by_cases c6 : t483 = true
   ·subst c6
    rw [if_pos rfl] at H
    by_cases c7 : 12 ≤ 16
    ·rw [if_pos c7] at H
     have c7b0 := eq_true c7
     have c7b1 : decide (12 ≤ 16) = true := decide_eq_true c7
     clear c7
     by_cases c8 : 16 ≤ (l0.length : Int)
     ·rw [if_pos c8] at H
      have c8b0 := eq_true c8
      have c8b1 : decide (16 ≤ (l0.length : Int)) = true := decide_eq_true c8
      clear c8
      replace H := Option.bind_eq_some_iff.mp H
      obtain ⟨t485, A90, H⟩ := H
      try dsimp only at H
      have A9 := Aside0.mk A90
      clear A90
      by_cases c10 : 16 ≤ 20
      ·rw [if_pos c10] at H
       have c10b0 := eq_true c10
       have c10b1 : decide (16 ≤ 20) = true := decide_eq_true c10
       clear c10
       have c11b0 := eq_true (of_decide_eq_true (by first | (with_reducible assumption) | assumption) : 20 ≤ (l0.length : Int))
       replace H := Option.bind_eq_some_iff.mp H
       obtain ⟨t487, A120, H⟩ := H
       try dsimp only at H
       have A12 := Aside0.mk A120
       clear A120
       by_cases c13 : 9 < (l0.length : Int)
       ·rw [if_pos c13] at H
        have c13b0 : decide (9 < (l0.length : Int)) = true := decide_eq_true c13
        have c13b1 : decide (9 < l0.length) = true := decide_eq_true (by omega)
        clear c13
        by_cases c14 : 8 < (l0.length : Int)
        ·rw [if_pos c14] at H
         have c14b0 : decide (8 < (l0.length : Int)) = true := decide_eq_true c14
         have c14b1 : decide (8 < l0.length) = true := decide_eq_true (by omega)
         clear c14
         have c15b0 := eq_true (of_decide_eq_true (by first | (with_reducible assumption) | assumption) : 20 ≤ (l0.length : Int))
         have HC16 := Aside0.mk H
         clear H
         go_enter Try.func17, Try.ntmps17
         try go_wp2_with (first | ((with_reducible refine gate_dst (N := 2) rfl ?_); (try (refine gate_guard (by rfl) ?_; dsimp only)); refine box_event ?hg (N := 2) ?hd (cs := #[.int .i64 0, .int .i64 0, .int .i64 0, .int .i64 0, .int .i64 0, .int .i64 0, .int .i64 0, .slice none 0 0]) (t := 36) ?hr ?_; (case hd => rfl); (case hg => rfl); (case hr => first | (go_simp; done) | (go_simp; rfl)); intro gb480 hg w17 hbox hb; have n0_ := Aside0.mk (below_step (by repeat (first | (with_reducible first | exact HB.out | apply below_alloc | apply pw_below_drewN | apply below_drew1) | exact HB.out)) hb); have n1_ := Aside0.mk (hbox); have n2_ := Aside0.mk ((by rw [hg]; exact (below_size (by repeat (first | (with_reducible first | exact HB.out | apply below_alloc | apply pw_below_drewN | apply below_drew1) | exact HB.out))) : w.heap.size ≤ gb480)); have n3_ := Aside0.mk ((by rw [hg]; exact (below_size (by repeat (first | (with_reducible first | exact HB.out | apply below_alloc | apply pw_below_drewN | apply below_drew1) | exact HB.out))) : w.heap.size ≤ gb480)); clear HB; have HB := n0_; have BK480 := n1_; have GW480 := n2_; have GE480 := n3_; clear n0_ n1_ n2_ n3_; clear hb hbox hg) | ((with_reducible refine gate_callee (f := 56) rfl ?_); refine goesL_ (some 7) rfl rfl Try.func56 (by kernel_rfl) rfl #[.slice A0 l0.length c0] rfl (by (try simp only [List.map_toArray, List.map_cons, List.map_nil]); first | done | rfl | (simp only [List.length_drop, List.length_take]; rfl)) ?_; (with_reducible refine (impl_headOk.calls k _ _ l0 true _ ?side1 ?side2 A2.out).mono ?_); (case side1 => repeat (first | exact (Kd.C_below HR0.out HB.out) | (with_reducible refine Kd.C_alloc ?_ _) | (with_reducible refine Kd.C_drewN ?_ _) | (with_reducible refine Kd.C_drew ?_))); (case side2 => exact HC0.out); rintro e w18 ⟨rfl, hb⟩; refine ⟨_, rfl, ?_⟩; have n0_ := Aside0.mk (blk_below (g := gb480) (o := .cells #[.int .i64 0, .int .i64 0, .int .i64 0, .int .i64 0, .int .i64 0, .int .i64 0, .int .i64 0, .slice none 0 0] 36 (0, 0)) (by (with_reducible repeat (first | refine blk_drewN ?_ _ | refine blk_drew ?_ | refine blk_alloc ?_ _)); exact BK480.out) hb); have n1_ := Aside0.mk (below_step (by repeat (first | (with_reducible first | exact HB.out | apply below_alloc | apply pw_below_drewN | apply below_drew1 | refine below_set ?_ GE480.out) | exact HB.out)) hb); clear BK480; clear HB; have BK480 := n0_; have HB := n1_; clear n0_ n1_; (try clear hb); (try clear hb2); (try clear hk); (try clear hi); obtain ⟨i019, hi019, _, hsz19, _⟩ := info_parts info5; obtain ⟨hcut19, hA19, hC19⟩ := print_take_of (P := Try.prog) (Value.int .u8) 0 22 5 .i64 Try.underlying22 hi019 hsz19 A0 c0 l0 20 (by omega) (of_decide_eq_true (by first | (with_reducible assumption) | assumption)) HC0.out; have HR482 := Aside0.mk (Kd.C_of_reads (h1 := fun _ => rfl) (hA19 _ (Kd.reads_of_C HR0.out))); have HC482 := Aside0.mk hC19; clear hA19 hC19 hi019 hsz19) | ((with_reducible refine gate_callee (f := 36) rfl ?_); refine goesL_ (some 13) rfl rfl Try.func36 (by kernel_rfl) rfl #[.slice A0 (l0.take 20).length c0] rfl (by (try simp only [List.map_toArray, List.map_cons, List.map_nil]); first | done | (rw [show (l0.take 20).length = 20 from (by rw [List.length_take]; have h_ : (20 : Int) ≤ (l0.length : Int) := of_decide_eq_true (by first | (with_reducible assumption) | assumption); omega)] <;> rfl) | rfl | (simp only [List.length_drop, List.length_take]; rfl)) ?_; (with_reducible refine (impl_CheckWords.calls k _ _ (l0.take 20) true _ ?side1 ?side2 A5.out).mono ?_); (case side1 => repeat (first | exact (Kd.C_below HR482.out HB.out) | (with_reducible refine Kd.C_alloc ?_ _) | (with_reducible refine Kd.C_drewN ?_ _) | (with_reducible refine Kd.C_drew ?_))); (case side2 => exact HC482.out); rintro e w' ⟨rfl, ⟨nd, rfl⟩⟩; refine ⟨_, rfl, ?_⟩; (try (rw [drewN_self w18]; generalize hq_ : World.drewN w18 _ = w18; have n0_ : Aside0 (w18.heap[gb480]? = some (.cells #[.int .i64 0, .int .i64 0, .int .i64 0, .int .i64 0, .int .i64 0, .int .i64 0, .int .i64 0, .slice none 0 0] 36 (0, 0))) := ⟨by rw [← hq_]; exact (by (with_reducible repeat (first | refine blk_drewN ?_ _ | refine blk_drew ?_ | refine blk_alloc ?_ _)); exact BK480.out)⟩; have n1_ : Aside0 (Below w.heap.size w w18) := ⟨by rw [← hq_]; exact (by repeat (first | (with_reducible first | exact HB.out | apply below_alloc | apply pw_below_drewN | apply below_drew1 | refine below_set ?_ GE480.out) | exact HB.out))⟩; clear BK480 HB hq_; have BK480 := n0_; have HB := n1_; clear n0_ n1_))))
         have n0_ := Aside0.mk (blk_drew BK480.out)
         have n1_ := Aside0.mk (below_drew1 HB.out)
         clear BK480
         clear HB
         have BK480 := n0_
         have HB := n1_
         clear n0_ n1_
         obtain ⟨i021, hi021, _, hsz21, _⟩ := info_parts info5
         obtain ⟨A21, hcut21, hA21, hC21⟩ := print_mid_of (P := Try.prog) (Value.int .u8) 0 22 5 .i64 .i64 Try.underlying22 hi021 hsz21 A0 c0 l0 12 16 (by omega) (by first | omega | exact of_decide_eq_true (by first | (with_reducible assumption) | assumption)) (of_decide_eq_true (by first | (with_reducible assumption) | assumption)) HC0.out
         have HR484 := Aside0.mk (Kd.C_of_reads (h1 := fun _ => rfl) (hA21 _ (Kd.reads_of_C HR0.out)))
         have HC484 := Aside0.mk hC21
         clear hA21 hC21 hi021 hsz21
         obtain ⟨i022, hi022, _, hsz22, _⟩ := info_parts info5
         obtain ⟨A22, hcut22, hA22, hC22⟩ := print_mid_of (P := Try.prog) (Value.int .u8) 0 22 5 .i64 .i64 Try.underlying22 hi022 hsz22 A0 c0 l0 16 20 (by omega) (by first | omega | exact of_decide_eq_true (by first | (with_reducible assumption) | assumption)) (of_decide_eq_true (by first | (with_reducible assumption) | assumption)) HC0.out
         have HR486 := Aside0.mk (Kd.C_of_reads (h1 := fun _ => rfl) (hA22 _ (Kd.reads_of_C HR0.out)))
         have HC486 := Aside0.mk hC22
         clear hA22 hC22 hi022 hsz22
         have p488 : 0 ≤ (9 : Int) := (by omega)
         have q488 : 9 < (l0.length : Int) := of_decide_eq_true (by first | (with_reducible assumption) | assumption)
         obtain ⟨ad488, e488, hx488_0⟩ := Kd.at_int HR0.out 9 p488 q488
         have hw488_0 := hx488_0
         (try rw [show ((9 : Int)).toNat = 9 from rfl] at hw488_0)
         (try rw [show 9 * 1 = 9 from rfl] at hw488_0)
         (try simp only [Nat.reduceMul, Nat.reduceEqDiff, Go.Addr.add, ↓reduceIte] at hw488_0)
         cases e488
         (try simp only [show (9 : Int).toNat = 9 from rfl, Nat.reduceMul, Nat.reduceEqDiff, Go.Addr.add, ↓reduceIte] at hx488_0)
         have qi488 : (9 < l0.length) = True := eq_true (by omega)
         (try rw [show ((9 : Int)).toNat = 9 from rfl] at hx488_0)
         replace hx488_0 := (HB.out.cell (World.block_lt_of_cell? w _ hx488_0)).trans hx488_0
         replace p488 := eq_true p488
         replace q488 := eq_true q488
         have p489 : 0 ≤ (8 : Int) := (by omega)
         have q489 : 8 < (l0.length : Int) := of_decide_eq_true (by first | (with_reducible assumption) | assumption)
         obtain ⟨ad489, e489, hx489_0⟩ := Kd.at_int HR0.out 8 p489 q489
         have hw489_0 := hx489_0
         (try rw [show ((8 : Int)).toNat = 8 from rfl] at hw489_0)
         (try rw [show 8 * 1 = 8 from rfl] at hw489_0)
         (try simp only [Nat.reduceMul, Nat.reduceEqDiff, Go.Addr.add, ↓reduceIte] at hw489_0)
         obtain rfl : ad488 = ad489 := (by injection e489)
         (try simp only [show (8 : Int).toNat = 8 from rfl, Nat.reduceMul, Nat.reduceEqDiff, Go.Addr.add, ↓reduceIte] at hx489_0)
         have qi489 : (8 < l0.length) = True := eq_true (by omega)
         (try rw [show ((8 : Int)).toNat = 8 from rfl] at hx489_0)
         replace hx489_0 := (HB.out.cell (World.block_lt_of_cell? w _ hx489_0)).trans hx489_0
         replace p489 := eq_true p489
         replace q489 := eq_true q489
         refine start_ (n := 17) (S := fun w' => w'.cell? ⟨ad488.block, ad488.off + 9, none⟩ = some (.int .u8 (rd l0 9)) ∧ w'.cell? ⟨ad488.block, ad488.off + 8, none⟩ = some (.int .u8 (rd l0 8))) (ds := []) #[false, false, false, false, false, false, false, false, false, false, false, false, false, false, false, false, false] (by kernel_rfl) rfl rfl ⟨((HB.out.cell (World.block_lt_of_cell? w _ hw488_0)).trans hw488_0), ((HB.out.cell (World.block_lt_of_cell? w _ hw489_0)).trans hw489_0)⟩ (fun hHeld => ?_); refine with_tabW impl_ParsePacket.tab5 impl_ParsePacket.bits5 (fun HT_ HW_ => ?_)
         generalize w18.drew = w20 at BK480 HB HR484 HR486 hx488_0 hx489_0 hHeld ⊢
         refine pure_ (i := 0) (N := some 16) (v := ?_) (a' := ?_) #[true, false, false, false, false, false, false, false, false, false, false, false, false, false, false, false, false] rfl rfl (any_of HT_.out (by kernel_rfl)) (fun _ _ _ h => h) (Or.inl ⟨by rfl, ?_⟩) ?_ ?_
         rotate_left
         ·intro w'
          go_simp
          with_reducible rfl
         rotate_left
         ·simp only [Act.put, lA_, lZ_, lS_, i64_w, i32_w]
          rfl
         refine pure_ (i := 1) (N := some 17) (v := ?_) (a' := ?_) #[true, true, false, false, false, false, false, false, false, false, false, false, false, false, false, false, false] rfl rfl (any_of HT_.out (by kernel_rfl)) (fun _ _ _ h => h) (Or.inl ⟨by rfl, ?_⟩) ?_ ?_
         rotate_left
         ·intro w'
          go_simp
          with_reducible rfl
         rotate_left
         ·simp only [Act.put, lA_, lZ_, lS_, i64_w, i32_w]
          rfl
         refine pure_ (i := 3) (N := some 19) (v := ?_) (a' := ?_) #[true, true, false, true, false, false, false, false, false, false, false, false, false, false, false, false, false] rfl rfl (any_of HT_.out (by kernel_rfl)) (fun _ _ _ h => h) (Or.inl ⟨by rfl, ?_⟩) ?_ ?_
         rotate_left
         ·intro w'
          go_simp
          with_reducible rfl
         rotate_left
         ·simp only [Act.put, lA_, lZ_, lS_, i64_w, i32_w]
          rfl
         refine pure_ (i := 4) (N := some 20) (v := ?_) (a' := ?_) #[true, true, false, true, true, false, false, false, false, false, false, false, false, false, false, false, false] rfl rfl (any_of HT_.out (by kernel_rfl)) (fun _ _ _ h => h) (Or.inl ⟨by rfl, ?_⟩) ?_ ?_
         rotate_left
         ·intro w'
          go_simp
          with_reducible rfl
         rotate_left
         ·simp only [Act.put, lA_, lZ_, lS_, i64_w, i32_w]
          rfl
         refine pure_ (i := 6) (N := some 22) (v := ?_) (a' := ?_) #[true, true, false, true, true, false, true, false, false, false, false, false, false, false, false, false, false] rfl rfl (any_of HT_.out (by kernel_rfl)) (fun _ _ _ h => h) (Or.inl ⟨by rfl, ?_⟩) ?_ ?_
         rotate_left
         ·intro w'
          go_simp
          with_reducible rfl
         rotate_left
         ·simp only [Act.put, lA_, lZ_, lS_, i64_w, i32_w]
          rfl
         refine pure_ (i := 7) (N := some 23) (v := ?_) (a' := ?_) #[true, true, false, true, true, false, true, true, false, false, false, false, false, false, false, false, false] rfl rfl (any_of HT_.out (by kernel_rfl)) (fun _ _ _ h => h) (Or.inl ⟨by rfl, ?_⟩) ?_ ?_
         rotate_left
         ·intro w'
          go_simp
          with_reducible rfl
         rotate_left
         ·simp only [Act.put, lA_, lZ_, lS_, i64_w, i32_w]
          rfl
         refine pure_ (i := 10) (N := some 26) (v := ?_) (a' := ?_) #[true, true, false, true, true, false, true, true, false, false, true, false, false, false, false, false, false] rfl rfl (any_of HT_.out (by kernel_rfl)) (fun _ _ _ h => h) (Or.inl ⟨by rfl, ?_⟩) ?_ ?_
         rotate_left
         ·intro w'
          go_simp
          with_reducible rfl
         rotate_left
         ·simp only [Act.put, lA_, lZ_, lS_, i64_w, i32_w]
          rfl
         refine pure_ (i := 11) (N := some 27) (v := ?_) (a' := ?_) #[true, true, false, true, true, false, true, true, false, false, true, true, false, false, false, false, false] rfl rfl (any_of HT_.out (by kernel_rfl)) (fun _ _ _ h => h) (Or.inl ⟨by rfl, ?_⟩) ?_ ?_
         rotate_left
         ·intro w'
          go_simp
          with_reducible rfl
         rotate_left
         ·simp only [Act.put, lA_, lZ_, lS_, i64_w, i32_w]
          rfl
         refine take_ (i := 8) (N := some 24) (v := ?_) (a' := ?_) #[true, true, false, true, true, false, true, true, true, false, true, true, false, false, false, false, false] rfl rfl (take_ofW HT_.out HW_.out (by kernel_rfl)) (fun _ _ _ h => h) (Or.inl ⟨by rfl, ?_⟩) hHeld ?_ ?_
         rotate_left
         ·rintro w' ⟨s0, s1⟩
          go_simp
          with_reducible rfl
         rotate_left
         ·simp only [Act.put, lA_, lZ_, lS_, i64_w, i32_w]
          rfl
         refine pure_ (i := 9) (N := some 25) (v := ?_) (a' := ?_) #[true, true, false, true, true, false, true, true, true, true, true, true, false, false, false, false, false] rfl rfl (any_of HT_.out (by kernel_rfl)) (fun _ _ _ h => h) (Or.inl ⟨by rfl, ?_⟩) ?_ ?_
         rotate_left
         ·intro w'
          go_simp
          with_reducible rfl
         rotate_left
         ·simp only [Act.put, lA_, lZ_, lS_, i64_w, i32_w]
          rfl
         refine take_ (i := 12) (N := some 28) (v := ?_) (a' := ?_) #[true, true, false, true, true, false, true, true, true, true, true, true, true, false, false, false, false] rfl rfl (take_ofW HT_.out HW_.out (by kernel_rfl)) (fun _ _ _ h => h) (Or.inl ⟨by rfl, ?_⟩) hHeld ?_ ?_
         rotate_left
         ·rintro w' ⟨s0, s1⟩
          go_simp
          with_reducible rfl
         rotate_left
         ·simp only [Act.put, lA_, lZ_, lS_, i64_w, i32_w]
          rfl
         refine pure_ (i := 13) (N := some 29) (v := ?_) (a' := ?_) #[true, true, false, true, true, false, true, true, true, true, true, true, true, true, false, false, false] rfl rfl (any_of HT_.out (by kernel_rfl)) (fun _ _ _ h => h) (Or.inl ⟨by rfl, ?_⟩) ?_ ?_
         rotate_left
         ·intro w'
          go_simp
          with_reducible rfl
         rotate_left
         ·simp only [Act.put, lA_, lZ_, lS_, i64_w, i32_w]
          rfl
         refine join_ (σ := Nat) 1 #[true, true, true, true, true, true, true, true, true, true, true, true, true, true, true, true, false] (fun s_ => [(18, .int .i64 t485), (21, .int .i64 t487), (3, .pointer (some ⟨s_, 0, none⟩)), (30, .agg #[.int .i64 t485, .int .i64 t487, .int .i64 (wrap64 (rd l0 9)), .int .i64 (wrap64 (rd l0 8)), .int .i64 0, .int .i64 0, .slice none 0 0])]) (fun s_ w' => (w'.cell? ⟨ad488.block, ad488.off + 9, none⟩ = some (.int .u8 (rd l0 9)) ∧ w'.cell? ⟨ad488.block, ad488.off + 8, none⟩ = some (.int .u8 (rd l0 8))) ∧ (w'.heap[gb480]? = some (.cells #[.int .i64 0, .int .i64 0, .int .i64 0, .int .i64 0, .int .i64 0, .int .i64 0, .int .i64 0, .slice none 0 0] 36 (0, 0))) ∧ (w'.heap[s_]? = some (.cells #[.int .i64 0, .int .i64 0, .int .i64 0, .int .i64 0, .int .i64 0, .int .i64 0, .slice none 0 0] 34 (0, 0))) ∧ (w.heap.size ≤ s_) ∧ (w.heap.size ≤ s_) ∧ (gb480 ≠ s_) ∧ (s_ ≠ gb480) ∧ (Below w.heap.size w w')) ?_ ?_
         rotate_left
         ·intro hCont
          refine two_ (i := 2) (j := 15) (Ni := some 18) (Nj := some 3) #[true, true, true, true, true, false, true, true, true, true, true, true, true, true, false, false, false] #[true, true, false, true, true, false, true, true, true, true, true, true, true, true, false, true, false] rfl rfl rfl rfl (two_of HT_.out (by kernel_rfl)) (by decide) (by decide) (fun K hK => ?_) (fun K hK => ?_)
          ·skip
           refine goes_ Try.func42 (by kernel_rfl) rfl #[.slice A21 ((l0.take 16).drop 12).length (c0 - 12)] (by rfl) rfl rfl (by (try simp only [List.map_toArray, List.map_cons, List.map_nil]); first | done | (rw [show ((l0.take 16).drop 12).length = (16 - 12) from (by rw [List.length_drop, List.length_take]; have h_ : (16 : Int) ≤ (l0.length : Int) := of_decide_eq_true (by first | (with_reducible assumption) | assumption); omega)] <;> rfl) | rfl | (simp only [List.length_drop, List.length_take]; rfl)) ?_
           with_reducible refine (impl_take.calls k _ _ ((l0.take 16).drop 12) t485 _ ?side1 ?side2 A9.out).mono ?_
           (case side1 => repeat (first | exact (Kd.C_below HR484.out HB.out) | (with_reducible refine Kd.C_alloc ?_ _) | (with_reducible refine Kd.C_drewN ?_ _) | (with_reducible refine Kd.C_drew ?_)))
           (case side2 => exact HC484.out)
           rintro e w' ⟨rfl, ⟨nd, rfl⟩⟩
           refine ⟨_, rfl, ?_⟩
           refine hK.out _ _ ⟨((HB.out.cell (World.block_lt_of_cell? w _ hw488_0)).trans hw488_0), ((HB.out.cell (World.block_lt_of_cell? w _ hw489_0)).trans hw489_0)⟩ (fun hHeld => ?_)
           clear hK K
           refine norm_ (a' := ?_) ?_ ?_
           rotate_left
           ·show Act.put _ (some 18) _ = _
            simp only [Act.put, lA_, lZ_, lS_, i64_w, i32_w]
            rfl
           refine two_ (i := 5) (j := 15) (Ni := some 21) (Nj := some 3) #[true, true, true, true, true, true, true, true, true, true, true, true, true, true, false, false, false] #[true, true, true, true, true, false, true, true, true, true, true, true, true, true, false, true, false] rfl rfl rfl rfl (two_of HT_.out (by kernel_rfl)) (by decide) (by decide) (fun K hK => ?_) (fun K hK => ?_)
           ·skip
            refine goes_ Try.func42 (by kernel_rfl) rfl #[.slice A22 ((l0.take 20).drop 16).length (c0 - 16)] (by rfl) rfl rfl (by (try simp only [List.map_toArray, List.map_cons, List.map_nil]); first | done | (rw [show ((l0.take 20).drop 16).length = (20 - 16) from (by rw [List.length_drop, List.length_take]; have h_ : (20 : Int) ≤ (l0.length : Int) := of_decide_eq_true (by first | (with_reducible assumption) | assumption); omega)] <;> rfl) | rfl | (simp only [List.length_drop, List.length_take]; rfl)) ?_
            with_reducible refine (impl_take.calls k _ _ ((l0.take 20).drop 16) t487 _ ?side1 ?side2 A12.out).mono ?_
            (case side1 => repeat (first | exact (Kd.C_below HR486.out (by repeat (first | (with_reducible first | exact HB.out | apply below_alloc | apply pw_below_drewN | apply below_drew1 | refine below_set ?_ GE480.out) | exact HB.out))) | (with_reducible refine Kd.C_alloc ?_ _) | (with_reducible refine Kd.C_drewN ?_ _) | (with_reducible refine Kd.C_drew ?_)))
            (case side2 => exact HC486.out)
            rintro e w' ⟨rfl, ⟨nd, rfl⟩⟩
            refine ⟨_, rfl, ?_⟩
            refine hK.out _ _ ⟨((HB.out.cell (World.block_lt_of_cell? w _ hw488_0)).trans hw488_0), ((HB.out.cell (World.block_lt_of_cell? w _ hw489_0)).trans hw489_0)⟩ (fun hHeld => ?_)
            clear hK K
            refine norm_ (a' := ?_) ?_ ?_
            rotate_left
            ·show Act.put _ (some 21) _ = _
             simp only [Act.put, lA_, lZ_, lS_, i64_w, i32_w]
             rfl
            refine pure_ (i := 14) (N := some 30) (v := ?_) (a' := ?_) #[true, true, true, true, true, true, true, true, true, true, true, true, true, true, true, false, false] rfl rfl (any_of HT_.out (by kernel_rfl)) (fun _ _ _ h => h) (Or.inl ⟨by rfl, ?_⟩) ?_ ?_
            rotate_left
            ·intro w'
             go_simp
             with_reducible rfl
            rotate_left
            ·simp only [Act.put, lA_, lZ_, lS_, i64_w, i32_w]
             rfl
            refine one_ (i := 15) (N := some 3) #[true, true, true, true, true, true, true, true, true, true, true, true, true, true, true, true, false] rfl rfl (one_of HT_.out (by kernel_rfl)) (by decide) (fun K hK => ?_)
            refine box_step ?hg (N := 3) ?hd (cs := #[.int .i64 0, .int .i64 0, .int .i64 0, .int .i64 0, .int .i64 0, .int .i64 0, .slice none 0 0]) (t := 34) ?hr ?_; (case hd => rfl); (case hg => rfl); (case hr => first | (go_simp; done) | (go_simp; rfl))
            intro gb490 hg w23 hbox hb
            have n0_ := Aside0.mk (blk_below (g := gb480) (o := .cells #[.int .i64 0, .int .i64 0, .int .i64 0, .int .i64 0, .int .i64 0, .int .i64 0, .int .i64 0, .slice none 0 0] 36 (0, 0)) (by (with_reducible repeat (first | refine blk_drewN ?_ _ | refine blk_drew ?_ | refine blk_alloc ?_ _)); exact BK480.out) hb)
            have n1_ := Aside0.mk (below_step (by repeat (first | (with_reducible first | exact HB.out | apply below_alloc | apply pw_below_drewN | apply below_drew1 | refine below_set ?_ GE480.out) | exact HB.out)) hb)
            have n2_ := Aside0.mk (hbox)
            have n3_ := Aside0.mk ((by rw [hg]; exact (below_size (by repeat (first | (with_reducible first | exact HB.out | apply below_alloc | apply pw_below_drewN | apply below_drew1 | refine below_set ?_ GE480.out) | exact HB.out))) : w.heap.size ≤ gb490))
            have n4_ := Aside0.mk ((by rw [hg]; exact (below_size (by repeat (first | (with_reducible first | exact HB.out | apply below_alloc | apply pw_below_drewN | apply below_drew1 | refine below_set ?_ GE480.out) | exact HB.out))) : w.heap.size ≤ gb490))
            have n5_ := Aside0.mk ((by rw [hg]; exact Nat.ne_of_lt (blk_lt (g := gb480) (o := .cells #[.int .i64 0, .int .i64 0, .int .i64 0, .int .i64 0, .int .i64 0, .int .i64 0, .int .i64 0, .slice none 0 0] 36 (0, 0)) (by (with_reducible repeat (first | refine blk_drewN ?_ _ | refine blk_drew ?_ | refine blk_alloc ?_ _)); exact BK480.out)) : gb480 ≠ gb490))
            have n6_ := Aside0.mk ((by rw [hg]; exact Nat.ne_of_gt (blk_lt (g := gb480) (o := .cells #[.int .i64 0, .int .i64 0, .int .i64 0, .int .i64 0, .int .i64 0, .int .i64 0, .int .i64 0, .slice none 0 0] 36 (0, 0)) (by (with_reducible repeat (first | refine blk_drewN ?_ _ | refine blk_drew ?_ | refine blk_alloc ?_ _)); exact BK480.out)) : gb490 ≠ gb480))
            clear BK480
            clear HB
            have BK480 := n0_
            have HB := n1_
            have BK490 := n2_
            have GW490 := n3_
            have GE490 := n4_
            have NB480_490 := n5_
            have NB490_480 := n6_
            clear n0_ n1_ n2_ n3_ n4_ n5_ n6_
            clear hb hbox hg
            refine hK.out _ _ ⟨((HB.out.cell (World.block_lt_of_cell? w _ hw488_0)).trans hw488_0), ((HB.out.cell (World.block_lt_of_cell? w _ hw489_0)).trans hw489_0)⟩ (fun hHeld => ?_)
            clear hK K
            refine norm_ (a' := ?_) ?_ ?_
            rotate_left
            ·show Act.put _ (some 3) _ = _
             simp only [Act.put, lA_, lZ_, lS_, i64_w, i32_w]
             rfl
            exact norm_ (by simp only [putAll, Act.put, lA_, lZ_, lS_]) (hCont (gb490) _ ⟨hHeld, (by (with_reducible repeat (first | refine blk_drewN ?_ _ | refine blk_drew ?_ | refine blk_alloc ?_ _)); exact BK480.out), (by (with_reducible repeat (first | refine blk_drewN ?_ _ | refine blk_drew ?_ | refine blk_alloc ?_ _)); exact BK490.out), GW490.out, GE490.out, NB480_490.out, NB490_480.out, (by repeat (first | (with_reducible first | exact HB.out | apply below_alloc | apply pw_below_drewN | apply below_drew1 | refine below_set ?_ GE480.out | refine below_set ?_ GE490.out) | exact HB.out))⟩)
           ·skip
            refine box_step ?hg (N := 3) ?hd (cs := #[.int .i64 0, .int .i64 0, .int .i64 0, .int .i64 0, .int .i64 0, .int .i64 0, .slice none 0 0]) (t := 34) ?hr ?_; (case hd => rfl); (case hg => rfl); (case hr => first | (go_simp; done) | (go_simp; rfl))
            intro gb490 hg w23 hbox hb
            have n0_ := Aside0.mk (blk_below (g := gb480) (o := .cells #[.int .i64 0, .int .i64 0, .int .i64 0, .int .i64 0, .int .i64 0, .int .i64 0, .int .i64 0, .slice none 0 0] 36 (0, 0)) (by (with_reducible repeat (first | refine blk_drewN ?_ _ | refine blk_drew ?_ | refine blk_alloc ?_ _)); exact BK480.out) hb)
            have n1_ := Aside0.mk (below_step (by repeat (first | (with_reducible first | exact HB.out | apply below_alloc | apply pw_below_drewN | apply below_drew1 | refine below_set ?_ GE480.out) | exact HB.out)) hb)
            have n2_ := Aside0.mk (hbox)
            have n3_ := Aside0.mk ((by rw [hg]; exact (below_size (by repeat (first | (with_reducible first | exact HB.out | apply below_alloc | apply pw_below_drewN | apply below_drew1 | refine below_set ?_ GE480.out) | exact HB.out))) : w.heap.size ≤ gb490))
            have n4_ := Aside0.mk ((by rw [hg]; exact (below_size (by repeat (first | (with_reducible first | exact HB.out | apply below_alloc | apply pw_below_drewN | apply below_drew1 | refine below_set ?_ GE480.out) | exact HB.out))) : w.heap.size ≤ gb490))
            have n5_ := Aside0.mk ((by rw [hg]; exact Nat.ne_of_lt (blk_lt (g := gb480) (o := .cells #[.int .i64 0, .int .i64 0, .int .i64 0, .int .i64 0, .int .i64 0, .int .i64 0, .int .i64 0, .slice none 0 0] 36 (0, 0)) (by (with_reducible repeat (first | refine blk_drewN ?_ _ | refine blk_drew ?_ | refine blk_alloc ?_ _)); exact BK480.out)) : gb480 ≠ gb490))
            have n6_ := Aside0.mk ((by rw [hg]; exact Nat.ne_of_gt (blk_lt (g := gb480) (o := .cells #[.int .i64 0, .int .i64 0, .int .i64 0, .int .i64 0, .int .i64 0, .int .i64 0, .int .i64 0, .slice none 0 0] 36 (0, 0)) (by (with_reducible repeat (first | refine blk_drewN ?_ _ | refine blk_drew ?_ | refine blk_alloc ?_ _)); exact BK480.out)) : gb490 ≠ gb480))
            clear BK480
            clear HB
            have BK480 := n0_
            have HB := n1_
            have BK490 := n2_
            have GW490 := n3_
            have GE490 := n4_
            have NB480_490 := n5_
            have NB490_480 := n6_
            clear n0_ n1_ n2_ n3_ n4_ n5_ n6_
            clear hb hbox hg
            refine hK.out _ _ ⟨((HB.out.cell (World.block_lt_of_cell? w _ hw488_0)).trans hw488_0), ((HB.out.cell (World.block_lt_of_cell? w _ hw489_0)).trans hw489_0)⟩ (fun hHeld => ?_)
            clear hK K
            refine norm_ (a' := ?_) ?_ ?_
            rotate_left
            ·show Act.put _ (some 3) _ = _
             simp only [Act.put, lA_, lZ_, lS_, i64_w, i32_w]
             rfl
            refine one_ (i := 5) (N := some 21) #[true, true, true, true, true, true, true, true, true, true, true, true, true, true, false, true, false] rfl rfl (one_of HT_.out (by kernel_rfl)) (by decide) (fun K hK => ?_)
            refine goes_ Try.func42 (by kernel_rfl) rfl #[.slice A22 ((l0.take 20).drop 16).length (c0 - 16)] (by rfl) rfl rfl (by (try simp only [List.map_toArray, List.map_cons, List.map_nil]); first | done | (rw [show ((l0.take 20).drop 16).length = (20 - 16) from (by rw [List.length_drop, List.length_take]; have h_ : (20 : Int) ≤ (l0.length : Int) := of_decide_eq_true (by first | (with_reducible assumption) | assumption); omega)] <;> rfl) | rfl | (simp only [List.length_drop, List.length_take]; rfl)) ?_
            with_reducible refine (impl_take.calls k _ _ ((l0.take 20).drop 16) t487 _ ?side1 ?side2 A12.out).mono ?_
            (case side1 => repeat (first | exact (Kd.C_below HR486.out HB.out) | (with_reducible refine Kd.C_alloc ?_ _) | (with_reducible refine Kd.C_drewN ?_ _) | (with_reducible refine Kd.C_drew ?_)))
            (case side2 => exact HC486.out)
            rintro e w' ⟨rfl, ⟨nd, rfl⟩⟩
            refine ⟨_, rfl, ?_⟩
            refine hK.out _ _ ⟨((HB.out.cell (World.block_lt_of_cell? w _ hw488_0)).trans hw488_0), ((HB.out.cell (World.block_lt_of_cell? w _ hw489_0)).trans hw489_0)⟩ (fun hHeld => ?_)
            clear hK K
            refine norm_ (a' := ?_) ?_ ?_
            rotate_left
            ·show Act.put _ (some 21) _ = _
             simp only [Act.put, lA_, lZ_, lS_, i64_w, i32_w]
             rfl
            refine pure_ (i := 14) (N := some 30) (v := ?_) (a' := ?_) #[true, true, true, true, true, true, true, true, true, true, true, true, true, true, true, true, false] rfl rfl (any_of HT_.out (by kernel_rfl)) (fun _ _ _ h => h) (Or.inl ⟨by rfl, ?_⟩) ?_ ?_
            rotate_left
            ·intro w'
             go_simp
             with_reducible rfl
            rotate_left
            ·simp only [Act.put, lA_, lZ_, lS_, i64_w, i32_w]
             rfl
            exact norm_ (by simp only [putAll, Act.put, lA_, lZ_, lS_]) (hCont (gb490) _ ⟨hHeld, (by (with_reducible repeat (first | refine blk_drewN ?_ _ | refine blk_drew ?_ | refine blk_alloc ?_ _)); exact BK480.out), (by (with_reducible repeat (first | refine blk_drewN ?_ _ | refine blk_drew ?_ | refine blk_alloc ?_ _)); exact BK490.out), GW490.out, GE490.out, NB480_490.out, NB490_480.out, (by repeat (first | (with_reducible first | exact HB.out | apply below_alloc | apply pw_below_drewN | apply below_drew1 | refine below_set ?_ GE480.out | refine below_set ?_ GE490.out) | exact HB.out))⟩)
          ·skip
           refine box_step ?hg (N := 3) ?hd (cs := #[.int .i64 0, .int .i64 0, .int .i64 0, .int .i64 0, .int .i64 0, .int .i64 0, .slice none 0 0]) (t := 34) ?hr ?_; (case hd => rfl); (case hg => rfl); (case hr => first | (go_simp; done) | (go_simp; rfl))
           intro gb490 hg w23 hbox hb
           have n0_ := Aside0.mk (blk_below (g := gb480) (o := .cells #[.int .i64 0, .int .i64 0, .int .i64 0, .int .i64 0, .int .i64 0, .int .i64 0, .int .i64 0, .slice none 0 0] 36 (0, 0)) (by (with_reducible repeat (first | refine blk_drewN ?_ _ | refine blk_drew ?_ | refine blk_alloc ?_ _)); exact BK480.out) hb)
           have n1_ := Aside0.mk (below_step (by repeat (first | (with_reducible first | exact HB.out | apply below_alloc | apply pw_below_drewN | apply below_drew1 | refine below_set ?_ GE480.out) | exact HB.out)) hb)
           have n2_ := Aside0.mk (hbox)
           have n3_ := Aside0.mk ((by rw [hg]; exact (below_size (by repeat (first | (with_reducible first | exact HB.out | apply below_alloc | apply pw_below_drewN | apply below_drew1 | refine below_set ?_ GE480.out) | exact HB.out))) : w.heap.size ≤ gb490))
           have n4_ := Aside0.mk ((by rw [hg]; exact (below_size (by repeat (first | (with_reducible first | exact HB.out | apply below_alloc | apply pw_below_drewN | apply below_drew1 | refine below_set ?_ GE480.out) | exact HB.out))) : w.heap.size ≤ gb490))
           have n5_ := Aside0.mk ((by rw [hg]; exact Nat.ne_of_lt (blk_lt (g := gb480) (o := .cells #[.int .i64 0, .int .i64 0, .int .i64 0, .int .i64 0, .int .i64 0, .int .i64 0, .int .i64 0, .slice none 0 0] 36 (0, 0)) (by (with_reducible repeat (first | refine blk_drewN ?_ _ | refine blk_drew ?_ | refine blk_alloc ?_ _)); exact BK480.out)) : gb480 ≠ gb490))
           have n6_ := Aside0.mk ((by rw [hg]; exact Nat.ne_of_gt (blk_lt (g := gb480) (o := .cells #[.int .i64 0, .int .i64 0, .int .i64 0, .int .i64 0, .int .i64 0, .int .i64 0, .int .i64 0, .slice none 0 0] 36 (0, 0)) (by (with_reducible repeat (first | refine blk_drewN ?_ _ | refine blk_drew ?_ | refine blk_alloc ?_ _)); exact BK480.out)) : gb490 ≠ gb480))
           clear BK480
           clear HB
           have BK480 := n0_
           have HB := n1_
           have BK490 := n2_
           have GW490 := n3_
           have GE490 := n4_
           have NB480_490 := n5_
           have NB490_480 := n6_
           clear n0_ n1_ n2_ n3_ n4_ n5_ n6_
           clear hb hbox hg
           refine hK.out _ _ ⟨((HB.out.cell (World.block_lt_of_cell? w _ hw488_0)).trans hw488_0), ((HB.out.cell (World.block_lt_of_cell? w _ hw489_0)).trans hw489_0)⟩ (fun hHeld => ?_)
           clear hK K
           refine norm_ (a' := ?_) ?_ ?_
           rotate_left
           ·show Act.put _ (some 3) _ = _
            simp only [Act.put, lA_, lZ_, lS_, i64_w, i32_w]
            rfl
           refine one_ (i := 2) (N := some 18) #[true, true, true, true, true, false, true, true, true, true, true, true, true, true, false, true, false] rfl rfl (one_of HT_.out (by kernel_rfl)) (by decide) (fun K hK => ?_)
           refine goes_ Try.func42 (by kernel_rfl) rfl #[.slice A21 ((l0.take 16).drop 12).length (c0 - 12)] (by rfl) rfl rfl (by (try simp only [List.map_toArray, List.map_cons, List.map_nil]); first | done | (rw [show ((l0.take 16).drop 12).length = (16 - 12) from (by rw [List.length_drop, List.length_take]; have h_ : (16 : Int) ≤ (l0.length : Int) := of_decide_eq_true (by first | (with_reducible assumption) | assumption); omega)] <;> rfl) | rfl | (simp only [List.length_drop, List.length_take]; rfl)) ?_
           with_reducible refine (impl_take.calls k _ _ ((l0.take 16).drop 12) t485 _ ?side1 ?side2 A9.out).mono ?_
           (case side1 => repeat (first | exact (Kd.C_below HR484.out HB.out) | (with_reducible refine Kd.C_alloc ?_ _) | (with_reducible refine Kd.C_drewN ?_ _) | (with_reducible refine Kd.C_drew ?_)))
           (case side2 => exact HC484.out)
           rintro e w' ⟨rfl, ⟨nd, rfl⟩⟩
           refine ⟨_, rfl, ?_⟩
           refine hK.out _ _ ⟨((HB.out.cell (World.block_lt_of_cell? w _ hw488_0)).trans hw488_0), ((HB.out.cell (World.block_lt_of_cell? w _ hw489_0)).trans hw489_0)⟩ (fun hHeld => ?_)
           clear hK K
           refine norm_ (a' := ?_) ?_ ?_
           rotate_left
           ·show Act.put _ (some 18) _ = _
            simp only [Act.put, lA_, lZ_, lS_, i64_w, i32_w]
            rfl
           refine one_ (i := 5) (N := some 21) #[true, true, true, true, true, true, true, true, true, true, true, true, true, true, false, true, false] rfl rfl (one_of HT_.out (by kernel_rfl)) (by decide) (fun K hK => ?_)
           refine goes_ Try.func42 (by kernel_rfl) rfl #[.slice A22 ((l0.take 20).drop 16).length (c0 - 16)] (by rfl) rfl rfl (by (try simp only [List.map_toArray, List.map_cons, List.map_nil]); first | done | (rw [show ((l0.take 20).drop 16).length = (20 - 16) from (by rw [List.length_drop, List.length_take]; have h_ : (20 : Int) ≤ (l0.length : Int) := of_decide_eq_true (by first | (with_reducible assumption) | assumption); omega)] <;> rfl) | rfl | (simp only [List.length_drop, List.length_take]; rfl)) ?_
           with_reducible refine (impl_take.calls k _ _ ((l0.take 20).drop 16) t487 _ ?side1 ?side2 A12.out).mono ?_
           (case side1 => repeat (first | exact (Kd.C_below HR486.out (by repeat (first | (with_reducible first | exact HB.out | apply below_alloc | apply pw_below_drewN | apply below_drew1 | refine below_set ?_ GE480.out | refine below_set ?_ GE490.out) | exact HB.out))) | (with_reducible refine Kd.C_alloc ?_ _) | (with_reducible refine Kd.C_drewN ?_ _) | (with_reducible refine Kd.C_drew ?_)))
           (case side2 => exact HC486.out)
           rintro e w' ⟨rfl, ⟨nd, rfl⟩⟩
           refine ⟨_, rfl, ?_⟩
           refine hK.out _ _ ⟨((HB.out.cell (World.block_lt_of_cell? w _ hw488_0)).trans hw488_0), ((HB.out.cell (World.block_lt_of_cell? w _ hw489_0)).trans hw489_0)⟩ (fun hHeld => ?_)
           clear hK K
           refine norm_ (a' := ?_) ?_ ?_
           rotate_left
           ·show Act.put _ (some 21) _ = _
            simp only [Act.put, lA_, lZ_, lS_, i64_w, i32_w]
            rfl
           refine pure_ (i := 14) (N := some 30) (v := ?_) (a' := ?_) #[true, true, true, true, true, true, true, true, true, true, true, true, true, true, true, true, false] rfl rfl (any_of HT_.out (by kernel_rfl)) (fun _ _ _ h => h) (Or.inl ⟨by rfl, ?_⟩) ?_ ?_
           rotate_left
           ·intro w'
            go_simp
            with_reducible rfl
           rotate_left
           ·simp only [Act.put, lA_, lZ_, lS_, i64_w, i32_w]
            rfl
           exact norm_ (by simp only [putAll, Act.put, lA_, lZ_, lS_]) (hCont (gb490) _ ⟨hHeld, (by (with_reducible repeat (first | refine blk_drewN ?_ _ | refine blk_drew ?_ | refine blk_alloc ?_ _)); exact BK480.out), (by (with_reducible repeat (first | refine blk_drewN ?_ _ | refine blk_drew ?_ | refine blk_alloc ?_ _)); exact BK490.out), GW490.out, GE490.out, NB480_490.out, NB490_480.out, (by repeat (first | (with_reducible first | exact HB.out | apply below_alloc | apply pw_below_drewN | apply below_drew1 | refine below_set ?_ GE480.out | refine below_set ?_ GE490.out) | exact HB.out))⟩)
         rintro gb490 w24 ⟨hS_, h0_, h1_, h2_, h3_, h4_, h5_, h6_⟩
         have n0_ : Aside0 (w24.heap[gb480]? = some (.cells #[.int .i64 0, .int .i64 0, .int .i64 0, .int .i64 0, .int .i64 0, .int .i64 0, .int .i64 0, .slice none 0 0] 36 (0, 0))) := ⟨h0_⟩
         have n1_ : Aside0 (w24.heap[gb490]? = some (.cells #[.int .i64 0, .int .i64 0, .int .i64 0, .int .i64 0, .int .i64 0, .int .i64 0, .slice none 0 0] 34 (0, 0))) := ⟨h1_⟩
         have n2_ : Aside0 (w.heap.size ≤ gb490) := ⟨h2_⟩
         have n3_ : Aside0 (w.heap.size ≤ gb490) := ⟨h3_⟩
         have n4_ : Aside0 (gb480 ≠ gb490) := ⟨h4_⟩
         have n5_ : Aside0 (gb490 ≠ gb480) := ⟨h5_⟩
         have n6_ : Aside0 (Below w.heap.size w w24) := ⟨h6_⟩
         clear BK480
         clear HB
         clear h0_ h1_ h2_ h3_ h4_ h5_ h6_
         have BK480 := n0_
         have BK490 := n1_
         have GW490 := n2_
         have GE490 := n3_
         have NB480_490 := n4_
         have NB490_480 := n5_
         have HB := n6_
         clear n0_ n1_ n2_ n3_ n4_ n5_ n6_
         have hHeld : w24.cell? ⟨ad488.block, ad488.off + 9, none⟩ = some (.int .u8 (rd l0 9)) ∧ w24.cell? ⟨ad488.block, ad488.off + 8, none⟩ = some (.int .u8 (rd l0 8)) := hS_
         refine norm_ (a' := ?_) ?_ ?_
         rotate_left
         ·simp only [putAll, Act.put, lA_, lZ_, lS_]
          rfl
         refine one_ (i := 16) (N := none) #[true, true, true, true, true, true, true, true, true, true, true, true, true, true, true, true, true] rfl rfl (one_of HT_.out (by kernel_rfl)) (by decide) (fun K hK => ?_)
         have hs25 : w24.cell? ⟨gb490, 0, none⟩ = some (.int .i64 0) := (blk_cell BK490.out 0).trans rfl
         have hfs25 := blk_frozen BK490.out 0
         have hns25_0 := NB480_490.out
         have hms25_0 := NB490_480.out
         have hs26 : w24.cell? ⟨gb490, 1, none⟩ = some (.int .i64 0) := (blk_cell BK490.out 1).trans rfl
         have hfs26 := blk_frozen BK490.out 1
         have hns26_0 := NB480_490.out
         have hms26_0 := NB490_480.out
         have hs27 : w24.cell? ⟨gb490, 2, none⟩ = some (.int .i64 0) := (blk_cell BK490.out 2).trans rfl
         have hfs27 := blk_frozen BK490.out 2
         have hns27_0 := NB480_490.out
         have hms27_0 := NB490_480.out
         have hs28 : w24.cell? ⟨gb490, 3, none⟩ = some (.int .i64 0) := (blk_cell BK490.out 3).trans rfl
         have hfs28 := blk_frozen BK490.out 3
         have hns28_0 := NB480_490.out
         have hms28_0 := NB490_480.out
         have hs29 : w24.cell? ⟨gb490, 4, none⟩ = some (.int .i64 0) := (blk_cell BK490.out 4).trans rfl
         have hfs29 := blk_frozen BK490.out 4
         have hns29_0 := NB480_490.out
         have hms29_0 := NB490_480.out
         have hs30 : w24.cell? ⟨gb490, 5, none⟩ = some (.int .i64 0) := (blk_cell BK490.out 5).trans rfl
         have hfs30 := blk_frozen BK490.out 5
         have hns30_0 := NB480_490.out
         have hms30_0 := NB490_480.out
         have hs31 : w24.cell? ⟨gb490, 6, none⟩ = some (.slice none 0 0) := (blk_cell BK490.out 6).trans rfl
         have hfs31 := blk_frozen BK490.out 6
         have hns31_0 := NB480_490.out
         have hms31_0 := NB490_480.out
         refine skip_ (w1 := ?_) (by rfl) rfl ?_ ?_
         rotate_left
         ·go_simp
          rfl
         refine hK.out _ _ ⟨((cell_far (p := ⟨gb490, _, none⟩) (by first | exact Nat.ne_of_lt (Nat.lt_of_lt_of_le (by have := World.block_lt_of_cell? _ _ hw488_0; first | rwa [add_block] at this | exact this) GW490.out) | (rw [add_block]; exact Nat.ne_of_lt (Nat.lt_of_lt_of_le (by have := World.block_lt_of_cell? _ _ hw488_0; first | rwa [add_block] at this | exact this) GW490.out)) | (show (Addr.add _ _).block ≠ _; rw [add_block]; exact Nat.ne_of_lt (Nat.lt_of_lt_of_le (by have := World.block_lt_of_cell? _ _ hw488_0; first | rwa [add_block] at this | exact this) GW490.out)) | (dsimp only; exact Nat.ne_of_lt (Nat.lt_of_lt_of_le (by have := World.block_lt_of_cell? _ _ hw488_0; first | rwa [add_block] at this | exact this) GW490.out))) _).trans (((cell_far (p := ⟨gb490, _, none⟩) (by first | exact Nat.ne_of_lt (Nat.lt_of_lt_of_le (by have := World.block_lt_of_cell? _ _ hw488_0; first | rwa [add_block] at this | exact this) GW490.out) | (rw [add_block]; exact Nat.ne_of_lt (Nat.lt_of_lt_of_le (by have := World.block_lt_of_cell? _ _ hw488_0; first | rwa [add_block] at this | exact this) GW490.out)) | (show (Addr.add _ _).block ≠ _; rw [add_block]; exact Nat.ne_of_lt (Nat.lt_of_lt_of_le (by have := World.block_lt_of_cell? _ _ hw488_0; first | rwa [add_block] at this | exact this) GW490.out)) | (dsimp only; exact Nat.ne_of_lt (Nat.lt_of_lt_of_le (by have := World.block_lt_of_cell? _ _ hw488_0; first | rwa [add_block] at this | exact this) GW490.out))) _).trans (((cell_far (p := ⟨gb490, _, none⟩) (by first | exact Nat.ne_of_lt (Nat.lt_of_lt_of_le (by have := World.block_lt_of_cell? _ _ hw488_0; first | rwa [add_block] at this | exact this) GW490.out) | (rw [add_block]; exact Nat.ne_of_lt (Nat.lt_of_lt_of_le (by have := World.block_lt_of_cell? _ _ hw488_0; first | rwa [add_block] at this | exact this) GW490.out)) | (show (Addr.add _ _).block ≠ _; rw [add_block]; exact Nat.ne_of_lt (Nat.lt_of_lt_of_le (by have := World.block_lt_of_cell? _ _ hw488_0; first | rwa [add_block] at this | exact this) GW490.out)) | (dsimp only; exact Nat.ne_of_lt (Nat.lt_of_lt_of_le (by have := World.block_lt_of_cell? _ _ hw488_0; first | rwa [add_block] at this | exact this) GW490.out))) _).trans (((cell_far (p := ⟨gb490, _, none⟩) (by first | exact Nat.ne_of_lt (Nat.lt_of_lt_of_le (by have := World.block_lt_of_cell? _ _ hw488_0; first | rwa [add_block] at this | exact this) GW490.out) | (rw [add_block]; exact Nat.ne_of_lt (Nat.lt_of_lt_of_le (by have := World.block_lt_of_cell? _ _ hw488_0; first | rwa [add_block] at this | exact this) GW490.out)) | (show (Addr.add _ _).block ≠ _; rw [add_block]; exact Nat.ne_of_lt (Nat.lt_of_lt_of_le (by have := World.block_lt_of_cell? _ _ hw488_0; first | rwa [add_block] at this | exact this) GW490.out)) | (dsimp only; exact Nat.ne_of_lt (Nat.lt_of_lt_of_le (by have := World.block_lt_of_cell? _ _ hw488_0; first | rwa [add_block] at this | exact this) GW490.out))) _).trans (((cell_far (p := ⟨gb490, _, none⟩) (by first | exact Nat.ne_of_lt (Nat.lt_of_lt_of_le (by have := World.block_lt_of_cell? _ _ hw488_0; first | rwa [add_block] at this | exact this) GW490.out) | (rw [add_block]; exact Nat.ne_of_lt (Nat.lt_of_lt_of_le (by have := World.block_lt_of_cell? _ _ hw488_0; first | rwa [add_block] at this | exact this) GW490.out)) | (show (Addr.add _ _).block ≠ _; rw [add_block]; exact Nat.ne_of_lt (Nat.lt_of_lt_of_le (by have := World.block_lt_of_cell? _ _ hw488_0; first | rwa [add_block] at this | exact this) GW490.out)) | (dsimp only; exact Nat.ne_of_lt (Nat.lt_of_lt_of_le (by have := World.block_lt_of_cell? _ _ hw488_0; first | rwa [add_block] at this | exact this) GW490.out))) _).trans (((cell_far (p := ⟨gb490, _, none⟩) (by first | exact Nat.ne_of_lt (Nat.lt_of_lt_of_le (by have := World.block_lt_of_cell? _ _ hw488_0; first | rwa [add_block] at this | exact this) GW490.out) | (rw [add_block]; exact Nat.ne_of_lt (Nat.lt_of_lt_of_le (by have := World.block_lt_of_cell? _ _ hw488_0; first | rwa [add_block] at this | exact this) GW490.out)) | (show (Addr.add _ _).block ≠ _; rw [add_block]; exact Nat.ne_of_lt (Nat.lt_of_lt_of_le (by have := World.block_lt_of_cell? _ _ hw488_0; first | rwa [add_block] at this | exact this) GW490.out)) | (dsimp only; exact Nat.ne_of_lt (Nat.lt_of_lt_of_le (by have := World.block_lt_of_cell? _ _ hw488_0; first | rwa [add_block] at this | exact this) GW490.out))) _).trans (((cell_far (p := ⟨gb490, _, none⟩) (by first | exact Nat.ne_of_lt (Nat.lt_of_lt_of_le (by have := World.block_lt_of_cell? _ _ hw488_0; first | rwa [add_block] at this | exact this) GW490.out) | (rw [add_block]; exact Nat.ne_of_lt (Nat.lt_of_lt_of_le (by have := World.block_lt_of_cell? _ _ hw488_0; first | rwa [add_block] at this | exact this) GW490.out)) | (show (Addr.add _ _).block ≠ _; rw [add_block]; exact Nat.ne_of_lt (Nat.lt_of_lt_of_le (by have := World.block_lt_of_cell? _ _ hw488_0; first | rwa [add_block] at this | exact this) GW490.out)) | (dsimp only; exact Nat.ne_of_lt (Nat.lt_of_lt_of_le (by have := World.block_lt_of_cell? _ _ hw488_0; first | rwa [add_block] at this | exact this) GW490.out))) _).trans (hHeld.1)))))))))))))), ((cell_far (p := ⟨gb490, _, none⟩) (by first | exact Nat.ne_of_lt (Nat.lt_of_lt_of_le (by have := World.block_lt_of_cell? _ _ hw489_0; first | rwa [add_block] at this | exact this) GW490.out) | (rw [add_block]; exact Nat.ne_of_lt (Nat.lt_of_lt_of_le (by have := World.block_lt_of_cell? _ _ hw489_0; first | rwa [add_block] at this | exact this) GW490.out)) | (show (Addr.add _ _).block ≠ _; rw [add_block]; exact Nat.ne_of_lt (Nat.lt_of_lt_of_le (by have := World.block_lt_of_cell? _ _ hw489_0; first | rwa [add_block] at this | exact this) GW490.out)) | (dsimp only; exact Nat.ne_of_lt (Nat.lt_of_lt_of_le (by have := World.block_lt_of_cell? _ _ hw489_0; first | rwa [add_block] at this | exact this) GW490.out))) _).trans (((cell_far (p := ⟨gb490, _, none⟩) (by first | exact Nat.ne_of_lt (Nat.lt_of_lt_of_le (by have := World.block_lt_of_cell? _ _ hw489_0; first | rwa [add_block] at this | exact this) GW490.out) | (rw [add_block]; exact Nat.ne_of_lt (Nat.lt_of_lt_of_le (by have := World.block_lt_of_cell? _ _ hw489_0; first | rwa [add_block] at this | exact this) GW490.out)) | (show (Addr.add _ _).block ≠ _; rw [add_block]; exact Nat.ne_of_lt (Nat.lt_of_lt_of_le (by have := World.block_lt_of_cell? _ _ hw489_0; first | rwa [add_block] at this | exact this) GW490.out)) | (dsimp only; exact Nat.ne_of_lt (Nat.lt_of_lt_of_le (by have := World.block_lt_of_cell? _ _ hw489_0; first | rwa [add_block] at this | exact this) GW490.out))) _).trans (((cell_far (p := ⟨gb490, _, none⟩) (by first | exact Nat.ne_of_lt (Nat.lt_of_lt_of_le (by have := World.block_lt_of_cell? _ _ hw489_0; first | rwa [add_block] at this | exact this) GW490.out) | (rw [add_block]; exact Nat.ne_of_lt (Nat.lt_of_lt_of_le (by have := World.block_lt_of_cell? _ _ hw489_0; first | rwa [add_block] at this | exact this) GW490.out)) | (show (Addr.add _ _).block ≠ _; rw [add_block]; exact Nat.ne_of_lt (Nat.lt_of_lt_of_le (by have := World.block_lt_of_cell? _ _ hw489_0; first | rwa [add_block] at this | exact this) GW490.out)) | (dsimp only; exact Nat.ne_of_lt (Nat.lt_of_lt_of_le (by have := World.block_lt_of_cell? _ _ hw489_0; first | rwa [add_block] at this | exact this) GW490.out))) _).trans (((cell_far (p := ⟨gb490, _, none⟩) (by first | exact Nat.ne_of_lt (Nat.lt_of_lt_of_le (by have := World.block_lt_of_cell? _ _ hw489_0; first | rwa [add_block] at this | exact this) GW490.out) | (rw [add_block]; exact Nat.ne_of_lt (Nat.lt_of_lt_of_le (by have := World.block_lt_of_cell? _ _ hw489_0; first | rwa [add_block] at this | exact this) GW490.out)) | (show (Addr.add _ _).block ≠ _; rw [add_block]; exact Nat.ne_of_lt (Nat.lt_of_lt_of_le (by have := World.block_lt_of_cell? _ _ hw489_0; first | rwa [add_block] at this | exact this) GW490.out)) | (dsimp only; exact Nat.ne_of_lt (Nat.lt_of_lt_of_le (by have := World.block_lt_of_cell? _ _ hw489_0; first | rwa [add_block] at this | exact this) GW490.out))) _).trans (((cell_far (p := ⟨gb490, _, none⟩) (by first | exact Nat.ne_of_lt (Nat.lt_of_lt_of_le (by have := World.block_lt_of_cell? _ _ hw489_0; first | rwa [add_block] at this | exact this) GW490.out) | (rw [add_block]; exact Nat.ne_of_lt (Nat.lt_of_lt_of_le (by have := World.block_lt_of_cell? _ _ hw489_0; first | rwa [add_block] at this | exact this) GW490.out)) | (show (Addr.add _ _).block ≠ _; rw [add_block]; exact Nat.ne_of_lt (Nat.lt_of_lt_of_le (by have := World.block_lt_of_cell? _ _ hw489_0; first | rwa [add_block] at this | exact this) GW490.out)) | (dsimp only; exact Nat.ne_of_lt (Nat.lt_of_lt_of_le (by have := World.block_lt_of_cell? _ _ hw489_0; first | rwa [add_block] at this | exact this) GW490.out))) _).trans (((cell_far (p := ⟨gb490, _, none⟩) (by first | exact Nat.ne_of_lt (Nat.lt_of_lt_of_le (by have := World.block_lt_of_cell? _ _ hw489_0; first | rwa [add_block] at this | exact this) GW490.out) | (rw [add_block]; exact Nat.ne_of_lt (Nat.lt_of_lt_of_le (by have := World.block_lt_of_cell? _ _ hw489_0; first | rwa [add_block] at this | exact this) GW490.out)) | (show (Addr.add _ _).block ≠ _; rw [add_block]; exact Nat.ne_of_lt (Nat.lt_of_lt_of_le (by have := World.block_lt_of_cell? _ _ hw489_0; first | rwa [add_block] at this | exact this) GW490.out)) | (dsimp only; exact Nat.ne_of_lt (Nat.lt_of_lt_of_le (by have := World.block_lt_of_cell? _ _ hw489_0; first | rwa [add_block] at this | exact this) GW490.out))) _).trans (((cell_far (p := ⟨gb490, _, none⟩) (by first | exact Nat.ne_of_lt (Nat.lt_of_lt_of_le (by have := World.block_lt_of_cell? _ _ hw489_0; first | rwa [add_block] at this | exact this) GW490.out) | (rw [add_block]; exact Nat.ne_of_lt (Nat.lt_of_lt_of_le (by have := World.block_lt_of_cell? _ _ hw489_0; first | rwa [add_block] at this | exact this) GW490.out)) | (show (Addr.add _ _).block ≠ _; rw [add_block]; exact Nat.ne_of_lt (Nat.lt_of_lt_of_le (by have := World.block_lt_of_cell? _ _ hw489_0; first | rwa [add_block] at this | exact this) GW490.out)) | (dsimp only; exact Nat.ne_of_lt (Nat.lt_of_lt_of_le (by have := World.block_lt_of_cell? _ _ hw489_0; first | rwa [add_block] at this | exact this) GW490.out))) _).trans (hHeld.2))))))))))))))⟩ (fun hHeld => ?_)
         clear hK K
         refine done_ (done_of HT_.out (by kernel_rfl)) ?_
         obtain ⟨i032, hi032, _, hsz32, _⟩ := info_parts info5
         obtain ⟨A32, hcut32, hA32, hC32⟩ := print_drop_of (P := Try.prog) (Value.int .u8) 0 22 5 .i64 Try.underlying22 hi032 hsz32 (some ad488) c0 l0 20 (by omega) (of_decide_eq_true (by first | (with_reducible assumption) | assumption)) HC0.out
         simp only [Int.reduceToNat, ← hp_pv_.out] at hcut32 hA32 hC32
         have HR491 := Aside0.mk (Kd.C_of_reads (h1 := fun _ => rfl) (hA32 _ (Kd.reads_of_C HR0.out)))
         have HC491 := Aside0.mk hC32
         clear hA32 hC32 hi032 hsz32
         go_upto_block 1 with (fail)
         go_cut [] (fun wc => ∃ (kq : Nat) (x481000_15 : Int) (x481001_15 : Int) (x481002_15 : Int) (x481003_15 : Int) (x481004_15 : Int) (x481005_15 : Int) (x481006_15 : Int), Aside0 (impl_ParsePacket.j1 kq pv_ t485 t487 (wrap64 (rd l0 9)) (wrap64 (rd l0 8)) 0 0 = some (r1, r2, r3, r4, r5, r6, r7, r8)) ∧ Aside0 (kq ≤ k) ∧ Aside0 (wc.heap[gb480]? = some (.cells #[.int .i64 x481000_15, .int .i64 x481001_15, .int .i64 x481002_15, .int .i64 x481003_15, .int .i64 x481004_15, .int .i64 x481005_15, .int .i64 x481006_15, (.slice none 0 0)] 36 (0, 0))) ∧ Aside0 (wc.heap[gb490]? = some (.cells #[.int .i64 t485, .int .i64 t487, .int .i64 (wrap64 (rd l0 9)), .int .i64 (wrap64 (rd l0 8)), .int .i64 0, .int .i64 0, (.slice none 0 0)] 34 (0, 0))) ∧ Aside0 (Below w.heap.size w wc))
         case first =>
          have H := HC16.out
          clear HC16
          have HC33 := Aside0.mk H
          clear H
          go_upto_region 7 with (fail)
          go_cut [33] (fun v33 wc => ∃ (kq : Nat) (x33_32 : Bool), v33 = .bool x33_32 ∧ Aside0 (impl_ParsePacket.j0 kq pv_ x33_32 t485 t487 (wrap64 (rd l0 9)) (wrap64 (rd l0 8)) 0 0 = some (r1, r2, r3, r4, r5, r6, r7, r8)) ∧ Aside0 (kq ≤ k) ∧ Aside0 (wc.heap[gb480]? = some (.cells #[.int .i64 0, .int .i64 0, .int .i64 0, .int .i64 0, .int .i64 0, .int .i64 0, .int .i64 0, (.slice none 0 0)] 36 (0, 0))) ∧ Aside0 (wc.heap[gb490]? = some (.cells #[.int .i64 t485, .int .i64 t487, .int .i64 (wrap64 (rd l0 9)), .int .i64 (wrap64 (rd l0 8)), .int .i64 0, .int .i64 0, (.slice none 0 0)] 34 (0, 0))) ∧ Aside0 (Below w.heap.size w wc))
          case first =>
           have H := HC33.out
           clear HC33
           by_cases c34 : (wrap64 (rd l0 8)) = 0
           ·rw [if_pos c34] at H
            have c34b0 : ((wrap64 (rd l0 8)) == 0) = true := beq_iff_eq.mpr c34
            have c34b1 : ((wrap64 (rd l0 8)) != 0) = false := bne_eq_false_iff_eq.mpr c34
            clear c34
            (first | rw [c34b0] | (simp only [i64_w, i32_w]; rw [c34b0]) | skip)
            have H' := Aside0.mk H
            clear H
            have hnb35 := NB490_480.out
            have hnc35 := NB480_490.out
            have hcz36_0 : w24.cell? ⟨gb490, 0, none⟩ = some (.int .i64 0) := (blk_cell BK490.out 0).trans rfl
            have hcz36_1 : w24.cell? ⟨gb490, 1, none⟩ = some (.int .i64 0) := (blk_cell BK490.out 1).trans rfl
            have hcz36_2 : w24.cell? ⟨gb490, 2, none⟩ = some (.int .i64 0) := (blk_cell BK490.out 2).trans rfl
            have hcz36_3 : w24.cell? ⟨gb490, 3, none⟩ = some (.int .i64 0) := (blk_cell BK490.out 3).trans rfl
            have hcz36_4 : w24.cell? ⟨gb490, 4, none⟩ = some (.int .i64 0) := (blk_cell BK490.out 4).trans rfl
            have hcz36_5 : w24.cell? ⟨gb490, 5, none⟩ = some (.int .i64 0) := (blk_cell BK490.out 5).trans rfl
            have hcz36_6 : w24.cell? ⟨gb490, 6, none⟩ = some (.slice none 0 0) := (blk_cell BK490.out 6).trans rfl
            have hfz36_0 := blk_frozen BK490.out 0
            have hfz36_1 := blk_frozen BK490.out 1
            have hfz36_2 := blk_frozen BK490.out 2
            have hfz36_3 := blk_frozen BK490.out 3
            have hfz36_4 := blk_frozen BK490.out 4
            have hfz36_5 := blk_frozen BK490.out 5
            have hfz36_6 := blk_frozen BK490.out 6
            go_wp2
            go_meet
            case rel => exact ⟨_, (true), (by first | rfl | (simp; done) | (simp [*]; done)), H', ⟨by first | omega | exact Nat.le_refl _⟩, ⟨by (with_reducible repeat (first | refine blk_drewN ?_ _ | refine blk_drew ?_ | refine blk_alloc ?_ _)); refine blk_far ?_ NB480_490.out _; (with_reducible repeat (first | refine blk_drewN ?_ _ | refine blk_drew ?_ | refine blk_alloc ?_ _)); refine blk_far ?_ NB480_490.out _; (with_reducible repeat (first | refine blk_drewN ?_ _ | refine blk_drew ?_ | refine blk_alloc ?_ _)); refine blk_far ?_ NB480_490.out _; (with_reducible repeat (first | refine blk_drewN ?_ _ | refine blk_drew ?_ | refine blk_alloc ?_ _)); refine blk_far ?_ NB480_490.out _; (with_reducible repeat (first | refine blk_drewN ?_ _ | refine blk_drew ?_ | refine blk_alloc ?_ _)); refine blk_far ?_ NB480_490.out _; (with_reducible repeat (first | refine blk_drewN ?_ _ | refine blk_drew ?_ | refine blk_alloc ?_ _)); refine blk_far ?_ NB480_490.out _; (with_reducible repeat (first | refine blk_drewN ?_ _ | refine blk_drew ?_ | refine blk_alloc ?_ _)); refine blk_far ?_ NB480_490.out _; (with_reducible repeat (first | refine blk_drewN ?_ _ | refine blk_drew ?_ | refine blk_alloc ?_ _)); exact BK480.out⟩, ⟨by (with_reducible repeat (first | refine blk_drewN ?_ _ | refine blk_drew ?_ | refine blk_alloc ?_ _)); refine blk_put (cs := #[.int .i64 t485, .int .i64 t487, .int .i64 (wrap64 (rd l0 9)), .int .i64 (wrap64 (rd l0 8)), .int .i64 0, .int .i64 0, .slice none 0 0]) ?_ 6 _ rfl; (with_reducible repeat (first | refine blk_drewN ?_ _ | refine blk_drew ?_ | refine blk_alloc ?_ _)); refine blk_put (cs := #[.int .i64 t485, .int .i64 t487, .int .i64 (wrap64 (rd l0 9)), .int .i64 (wrap64 (rd l0 8)), .int .i64 0, .int .i64 0, .slice none 0 0]) ?_ 5 _ rfl; (with_reducible repeat (first | refine blk_drewN ?_ _ | refine blk_drew ?_ | refine blk_alloc ?_ _)); refine blk_put (cs := #[.int .i64 t485, .int .i64 t487, .int .i64 (wrap64 (rd l0 9)), .int .i64 (wrap64 (rd l0 8)), .int .i64 0, .int .i64 0, .slice none 0 0]) ?_ 4 _ rfl; (with_reducible repeat (first | refine blk_drewN ?_ _ | refine blk_drew ?_ | refine blk_alloc ?_ _)); refine blk_put (cs := #[.int .i64 t485, .int .i64 t487, .int .i64 (wrap64 (rd l0 9)), .int .i64 0, .int .i64 0, .int .i64 0, .slice none 0 0]) ?_ 3 _ rfl; (with_reducible repeat (first | refine blk_drewN ?_ _ | refine blk_drew ?_ | refine blk_alloc ?_ _)); refine blk_put (cs := #[.int .i64 t485, .int .i64 t487, .int .i64 0, .int .i64 0, .int .i64 0, .int .i64 0, .slice none 0 0]) ?_ 2 _ rfl; (with_reducible repeat (first | refine blk_drewN ?_ _ | refine blk_drew ?_ | refine blk_alloc ?_ _)); refine blk_put (cs := #[.int .i64 t485, .int .i64 0, .int .i64 0, .int .i64 0, .int .i64 0, .int .i64 0, .slice none 0 0]) ?_ 1 _ rfl; (with_reducible repeat (first | refine blk_drewN ?_ _ | refine blk_drew ?_ | refine blk_alloc ?_ _)); refine blk_put (cs := #[.int .i64 0, .int .i64 0, .int .i64 0, .int .i64 0, .int .i64 0, .int .i64 0, .slice none 0 0]) ?_ 0 _ rfl; (with_reducible repeat (first | refine blk_drewN ?_ _ | refine blk_drew ?_ | refine blk_alloc ?_ _)); exact BK490.out⟩, ⟨by repeat (first | (with_reducible first | exact HB.out | apply below_alloc | apply pw_below_drewN | apply below_drew1 | refine below_set ?_ GE480.out | refine below_set ?_ GE490.out) | exact HB.out)⟩⟩
           ·rw [if_neg c34] at H
            have c34b0 : ((wrap64 (rd l0 8)) == 0) = false := beq_eq_false_iff_ne.mpr c34
            have c34b1 : ((wrap64 (rd l0 8)) != 0) = true := bne_iff_ne.mpr c34
            (first | rw [c34b0] | (simp only [i64_w, i32_w]; rw [c34b0]) | skip)
            have H' := Aside0.mk H
            clear H
            have hnb37 := NB490_480.out
            have hnc37 := NB480_490.out
            have hcz38_0 : w24.cell? ⟨gb490, 0, none⟩ = some (.int .i64 0) := (blk_cell BK490.out 0).trans rfl
            have hcz38_1 : w24.cell? ⟨gb490, 1, none⟩ = some (.int .i64 0) := (blk_cell BK490.out 1).trans rfl
            have hcz38_2 : w24.cell? ⟨gb490, 2, none⟩ = some (.int .i64 0) := (blk_cell BK490.out 2).trans rfl
            have hcz38_3 : w24.cell? ⟨gb490, 3, none⟩ = some (.int .i64 0) := (blk_cell BK490.out 3).trans rfl
            have hcz38_4 : w24.cell? ⟨gb490, 4, none⟩ = some (.int .i64 0) := (blk_cell BK490.out 4).trans rfl
            have hcz38_5 : w24.cell? ⟨gb490, 5, none⟩ = some (.int .i64 0) := (blk_cell BK490.out 5).trans rfl
            have hcz38_6 : w24.cell? ⟨gb490, 6, none⟩ = some (.slice none 0 0) := (blk_cell BK490.out 6).trans rfl
            have hfz38_0 := blk_frozen BK490.out 0
            have hfz38_1 := blk_frozen BK490.out 1
            have hfz38_2 := blk_frozen BK490.out 2
            have hfz38_3 := blk_frozen BK490.out 3
            have hfz38_4 := blk_frozen BK490.out 4
            have hfz38_5 := blk_frozen BK490.out 5
            have hfz38_6 := blk_frozen BK490.out 6
            go_wp2
            go_meet
            case rel => exact ⟨_, (((wrap64 (rd l0 9)) == 0)), (by first | rfl | (simp; done) | (simp [*]; done)), H', ⟨by first | omega | exact Nat.le_refl _⟩, ⟨by (with_reducible repeat (first | refine blk_drewN ?_ _ | refine blk_drew ?_ | refine blk_alloc ?_ _)); refine blk_far ?_ NB480_490.out _; (with_reducible repeat (first | refine blk_drewN ?_ _ | refine blk_drew ?_ | refine blk_alloc ?_ _)); refine blk_far ?_ NB480_490.out _; (with_reducible repeat (first | refine blk_drewN ?_ _ | refine blk_drew ?_ | refine blk_alloc ?_ _)); refine blk_far ?_ NB480_490.out _; (with_reducible repeat (first | refine blk_drewN ?_ _ | refine blk_drew ?_ | refine blk_alloc ?_ _)); refine blk_far ?_ NB480_490.out _; (with_reducible repeat (first | refine blk_drewN ?_ _ | refine blk_drew ?_ | refine blk_alloc ?_ _)); refine blk_far ?_ NB480_490.out _; (with_reducible repeat (first | refine blk_drewN ?_ _ | refine blk_drew ?_ | refine blk_alloc ?_ _)); refine blk_far ?_ NB480_490.out _; (with_reducible repeat (first | refine blk_drewN ?_ _ | refine blk_drew ?_ | refine blk_alloc ?_ _)); refine blk_far ?_ NB480_490.out _; (with_reducible repeat (first | refine blk_drewN ?_ _ | refine blk_drew ?_ | refine blk_alloc ?_ _)); exact BK480.out⟩, ⟨by (with_reducible repeat (first | refine blk_drewN ?_ _ | refine blk_drew ?_ | refine blk_alloc ?_ _)); refine blk_put (cs := #[.int .i64 t485, .int .i64 t487, .int .i64 (wrap64 (rd l0 9)), .int .i64 (wrap64 (rd l0 8)), .int .i64 0, .int .i64 0, .slice none 0 0]) ?_ 6 _ rfl; (with_reducible repeat (first | refine blk_drewN ?_ _ | refine blk_drew ?_ | refine blk_alloc ?_ _)); refine blk_put (cs := #[.int .i64 t485, .int .i64 t487, .int .i64 (wrap64 (rd l0 9)), .int .i64 (wrap64 (rd l0 8)), .int .i64 0, .int .i64 0, .slice none 0 0]) ?_ 5 _ rfl; (with_reducible repeat (first | refine blk_drewN ?_ _ | refine blk_drew ?_ | refine blk_alloc ?_ _)); refine blk_put (cs := #[.int .i64 t485, .int .i64 t487, .int .i64 (wrap64 (rd l0 9)), .int .i64 (wrap64 (rd l0 8)), .int .i64 0, .int .i64 0, .slice none 0 0]) ?_ 4 _ rfl; (with_reducible repeat (first | refine blk_drewN ?_ _ | refine blk_drew ?_ | refine blk_alloc ?_ _)); refine blk_put (cs := #[.int .i64 t485, .int .i64 t487, .int .i64 (wrap64 (rd l0 9)), .int .i64 0, .int .i64 0, .int .i64 0, .slice none 0 0]) ?_ 3 _ rfl; (with_reducible repeat (first | refine blk_drewN ?_ _ | refine blk_drew ?_ | refine blk_alloc ?_ _)); refine blk_put (cs := #[.int .i64 t485, .int .i64 t487, .int .i64 0, .int .i64 0, .int .i64 0, .int .i64 0, .slice none 0 0]) ?_ 2 _ rfl; (with_reducible repeat (first | refine blk_drewN ?_ _ | refine blk_drew ?_ | refine blk_alloc ?_ _)); refine blk_put (cs := #[.int .i64 t485, .int .i64 0, .int .i64 0, .int .i64 0, .int .i64 0, .int .i64 0, .slice none 0 0]) ?_ 1 _ rfl; (with_reducible repeat (first | refine blk_drewN ?_ _ | refine blk_drew ?_ | refine blk_alloc ?_ _)); refine blk_put (cs := #[.int .i64 0, .int .i64 0, .int .i64 0, .int .i64 0, .int .i64 0, .int .i64 0, .slice none 0 0]) ?_ 0 _ rfl; (with_reducible repeat (first | refine blk_drewN ?_ _ | refine blk_drew ?_ | refine blk_alloc ?_ _)); exact BK490.out⟩, ⟨by repeat (first | (with_reducible first | exact HB.out | apply below_alloc | apply pw_below_drewN | apply below_drew1 | refine below_set ?_ GE480.out | refine below_set ?_ GE490.out) | exact HB.out)⟩⟩
          case rest =>
           clear HC33
           try clear c1
           try clear p2
           try clear c3
           try clear c4
           try clear c4b0
           try clear c4b1
           try clear p4
           try clear q4
           try clear hx4
           try clear qi4
           try clear c5
           try clear c6
           try clear p6
           try clear c7
           try clear c7b0
           try clear c7b1
           try clear c8
           try clear c8b0
           try clear c8b1
           try clear c10
           try clear c10b0
           try clear c10b1
           try clear c11
           try clear c11b0
           try clear c13
           try clear c13b0
           try clear c13b1
           try clear c14
           try clear c14b0
           try clear c14b1
           try clear c15
           try clear c15b0
           try clear c17
           try clear c34
           try clear c34b0
           try clear c34b1
           try clear c35
           try clear c36
           try clear c37
           try clear hcz36_0
           try clear hcz36_1
           try clear hcz36_2
           try clear hcz36_3
           try clear hcz36_4
           try clear hcz36_5
           try clear hcz36_6
           try clear hcz38_0
           try clear hcz38_1
           try clear hcz38_2
           try clear hcz38_3
           try clear hcz38_4
           try clear hcz38_5
           try clear hcz38_6
           try clear hfz36_0
           try clear hfz36_1
           try clear hfz36_2
           try clear hfz36_3
           try clear hfz36_4
           try clear hfz36_5
           try clear hfz36_6
           try clear hfz38_0
           try clear hfz38_1
           try clear hfz38_2
           try clear hfz38_3
           try clear hfz38_4
           try clear hfz38_5
           try clear hfz38_6
           try clear hx488_0
           try clear hx489_0
           try clear p488
           try clear p489
           try clear q488
           try clear q489
           obtain ⟨kq, x33_32, rfl, HA, HJ32, BK480, BK490, HB⟩ := hcut
           cases kq with
           | zero => exact absurd HA.out (by simp [impl_ParsePacket.j0])
           | succ kj32 =>
            have H := HA.out
            clear HA
            simp only [impl_ParsePacket.j0] at H
            try rw [← hp_pv_.out] at H
            try rw [← hp_qv_.out] at H
            by_cases c39 : x33_32 = true
            ·subst c39
             rw [if_pos rfl] at H
             simp only [Option.some.injEq, Prod.mk.injEq] at H
             obtain ⟨rfl, rfl, rfl, rfl, rfl, rfl, rfl, rfl⟩ := H
             have hnb40 := NB480_490.out
             have hnc40 := NB490_480.out
             have hcz41_0 : wc.cell? ⟨gb480, 0, none⟩ = some (.int .i64 0) := (blk_cell BK480.out 0).trans rfl
             have hcz41_1 : wc.cell? ⟨gb480, 1, none⟩ = some (.int .i64 0) := (blk_cell BK480.out 1).trans rfl
             have hcz41_2 : wc.cell? ⟨gb480, 2, none⟩ = some (.int .i64 0) := (blk_cell BK480.out 2).trans rfl
             have hcz41_3 : wc.cell? ⟨gb480, 3, none⟩ = some (.int .i64 0) := (blk_cell BK480.out 3).trans rfl
             have hcz41_4 : wc.cell? ⟨gb480, 4, none⟩ = some (.int .i64 0) := (blk_cell BK480.out 4).trans rfl
             have hcz41_5 : wc.cell? ⟨gb480, 5, none⟩ = some (.int .i64 0) := (blk_cell BK480.out 5).trans rfl
             have hcz41_6 : wc.cell? ⟨gb480, 6, none⟩ = some (.int .i64 0) := (blk_cell BK480.out 6).trans rfl
             have hcz41_7 : wc.cell? ⟨gb480, 7, none⟩ = some (.slice none 0 0) := (blk_cell BK480.out 7).trans rfl
             have hfz41_0 := blk_frozen BK480.out 0
             have hfz41_1 := blk_frozen BK480.out 1
             have hfz41_2 := blk_frozen BK480.out 2
             have hfz41_3 := blk_frozen BK480.out 3
             have hfz41_4 := blk_frozen BK480.out 4
             have hfz41_5 := blk_frozen BK480.out 5
             have hfz41_6 := blk_frozen BK480.out 6
             have hfz41_7 := blk_frozen BK480.out 7
             go_wp2
             refine bodyPost_ret (results_cell_row rfl _ _ gb480 36 #[.int .i64 3, .int .i64 0, .int .i64 0, .int .i64 0, .int .i64 0, .int .i64 0, .int .i64 0, .slice none 0 0] (0, 0) _ rfl (by (with_reducible repeat (first | refine blk_drewN ?_ _ | refine blk_drew ?_ | refine blk_alloc ?_ _)); refine blk_put (cs := #[.int .i64 3, .int .i64 0, .int .i64 0, .int .i64 0, .int .i64 0, .int .i64 0, .int .i64 0, .slice none 0 0]) ?_ 7 _ rfl; (with_reducible repeat (first | refine blk_drewN ?_ _ | refine blk_drew ?_ | refine blk_alloc ?_ _)); refine blk_put (cs := #[.int .i64 3, .int .i64 0, .int .i64 0, .int .i64 0, .int .i64 0, .int .i64 0, .int .i64 0, .slice none 0 0]) ?_ 6 _ rfl; (with_reducible repeat (first | refine blk_drewN ?_ _ | refine blk_drew ?_ | refine blk_alloc ?_ _)); refine blk_put (cs := #[.int .i64 3, .int .i64 0, .int .i64 0, .int .i64 0, .int .i64 0, .int .i64 0, .int .i64 0, .slice none 0 0]) ?_ 5 _ rfl; (with_reducible repeat (first | refine blk_drewN ?_ _ | refine blk_drew ?_ | refine blk_alloc ?_ _)); refine blk_put (cs := #[.int .i64 3, .int .i64 0, .int .i64 0, .int .i64 0, .int .i64 0, .int .i64 0, .int .i64 0, .slice none 0 0]) ?_ 4 _ rfl; (with_reducible repeat (first | refine blk_drewN ?_ _ | refine blk_drew ?_ | refine blk_alloc ?_ _)); refine blk_put (cs := #[.int .i64 3, .int .i64 0, .int .i64 0, .int .i64 0, .int .i64 0, .int .i64 0, .int .i64 0, .slice none 0 0]) ?_ 3 _ rfl; (with_reducible repeat (first | refine blk_drewN ?_ _ | refine blk_drew ?_ | refine blk_alloc ?_ _)); refine blk_put (cs := #[.int .i64 3, .int .i64 0, .int .i64 0, .int .i64 0, .int .i64 0, .int .i64 0, .int .i64 0, .slice none 0 0]) ?_ 2 _ rfl; (with_reducible repeat (first | refine blk_drewN ?_ _ | refine blk_drew ?_ | refine blk_alloc ?_ _)); refine blk_put (cs := #[.int .i64 3, .int .i64 0, .int .i64 0, .int .i64 0, .int .i64 0, .int .i64 0, .int .i64 0, .slice none 0 0]) ?_ 1 _ rfl; (with_reducible repeat (first | refine blk_drewN ?_ _ | refine blk_drew ?_ | refine blk_alloc ?_ _)); refine blk_put (cs := #[.int .i64 0, .int .i64 0, .int .i64 0, .int .i64 0, .int .i64 0, .int .i64 0, .int .i64 0, .slice none 0 0]) ?_ 0 _ rfl; (with_reducible repeat (first | refine blk_drewN ?_ _ | refine blk_drew ?_ | refine blk_alloc ?_ _)); exact BK480.out) Try.underlying36 rfl (by kernel_rfl)) rfl ?_
             exact ⟨_, by first | rfl | (simp [errW_none, errW_some] <;> rfl) | (simp [*, errW_none, errW_some] <;> rfl), by first | exact Kd.R_nil _ _ _ _ _ | exact Kd.N_nil _ _ _ _ _ | exact Kd.V_nil _ _ _ _ _ | exact Kd.Q_nil _ _ _ _ _ | exact Kd.S_nil _ _ _ _ _, by repeat (first | (with_reducible first | exact HB.out | apply below_alloc | apply pw_below_drewN | apply below_drew1 | refine below_set ?_ GE480.out | refine below_set ?_ GE490.out) | exact HB.out)⟩
            ·replace c39 := Bool.eq_false_iff.mpr c39
             subst c39
             rw [if_neg (show ¬ (false = true) by decide)] at H
             replace H := Option.bind_eq_some_iff.mp H
             obtain ⟨t492, A420, H⟩ := H
             try dsimp only at H
             have A42 := Aside0.mk A420
             clear A420
             by_cases c43 : t492 = true
             ·subst c43
              rw [if_pos rfl] at H
              by_cases c44 : (pv_.length : Int) < 4
              ·rw [if_pos c44] at H
               have c44b0 : decide ((pv_.length : Int) < 4) = true := decide_eq_true c44
               have c44b1 : decide (pv_.length < 4) = true := decide_eq_true (by omega)
               clear c44
               simp only [Option.some.injEq, Prod.mk.injEq] at H
               obtain ⟨rfl, rfl, rfl, rfl, rfl, rfl, rfl, rfl⟩ := H
               have hnb45 := NB490_480.out
               have hnc45 := NB480_490.out
               have hcz46_0 : wc.cell? ⟨gb490, 0, none⟩ = some (.int .i64 t485) := (blk_cell BK490.out 0).trans rfl
               have hcz46_1 : wc.cell? ⟨gb490, 1, none⟩ = some (.int .i64 t487) := (blk_cell BK490.out 1).trans rfl
               have hcz46_2 : wc.cell? ⟨gb490, 2, none⟩ = some (.int .i64 (wrap64 (rd l0 9))) := (blk_cell BK490.out 2).trans rfl
               have hcz46_3 : wc.cell? ⟨gb490, 3, none⟩ = some (.int .i64 (wrap64 (rd l0 8))) := (blk_cell BK490.out 3).trans rfl
               have hcz46_4 : wc.cell? ⟨gb490, 4, none⟩ = some (.int .i64 0) := (blk_cell BK490.out 4).trans rfl
               have hcz46_5 : wc.cell? ⟨gb490, 5, none⟩ = some (.int .i64 0) := (blk_cell BK490.out 5).trans rfl
               have hcz46_6 : wc.cell? ⟨gb490, 6, none⟩ = some (.slice none 0 0) := (blk_cell BK490.out 6).trans rfl
               have hfz46_0 := blk_frozen BK490.out 0
               have hfz46_1 := blk_frozen BK490.out 1
               have hfz46_2 := blk_frozen BK490.out 2
               have hfz46_3 := blk_frozen BK490.out 3
               have hfz46_4 := blk_frozen BK490.out 4
               have hfz46_5 := blk_frozen BK490.out 5
               have hfz46_6 := blk_frozen BK490.out 6
               go_wp2_with (first | ((with_reducible refine gate_callee (f := 57) rfl ?_); refine goesL_ (some 46) rfl rfl Try.func57 (by kernel_rfl) rfl #[.int .i64 (wrap64 (rd l0 9))] rfl (by (try simp only [List.map_toArray, List.map_cons, List.map_nil]); first | done | rfl | (simp only [List.length_drop, List.length_take]; rfl)) ?_; (with_reducible refine (impl_HasPorts.calls (wrap64 (rd l0 9)) true _ A42.out).mono ?_); rintro e w' ⟨rfl, ⟨nd, rfl⟩⟩; refine ⟨_, rfl, ?_⟩; (try (rw [drewN_self wc]; generalize hq_ : World.drewN wc _ = wc; have n0_ : Aside0 (wc.heap[gb480]? = some (.cells #[.int .i64 0, .int .i64 0, .int .i64 0, .int .i64 0, .int .i64 0, .int .i64 0, .int .i64 0, .slice none 0 0] 36 (0, 0))) := ⟨by rw [← hq_]; exact (by (with_reducible repeat (first | refine blk_drewN ?_ _ | refine blk_drew ?_ | refine blk_alloc ?_ _)); exact BK480.out)⟩; have n1_ : Aside0 (wc.heap[gb490]? = some (.cells #[.int .i64 t485, .int .i64 t487, .int .i64 (wrap64 (rd l0 9)), .int .i64 (wrap64 (rd l0 8)), .int .i64 0, .int .i64 0, .slice none 0 0] 34 (0, 0))) := ⟨by rw [← hq_]; exact (by (with_reducible repeat (first | refine blk_drewN ?_ _ | refine blk_drew ?_ | refine blk_alloc ?_ _)); exact BK490.out)⟩; have n2_ : Aside0 (Below w.heap.size w wc) := ⟨by rw [← hq_]; exact (by repeat (first | (with_reducible first | exact HB.out | apply below_alloc | apply pw_below_drewN | apply below_drew1 | refine below_set ?_ GE480.out | refine below_set ?_ GE490.out) | exact HB.out))⟩; clear BK480 BK490 HB hq_; have BK480 := n0_; have BK490 := n1_; have HB := n2_; clear n0_ n1_ n2_)); have hcz47_0 : wc.cell? ⟨gb480, 0, none⟩ = some (.int .i64 0) := (blk_cell BK480.out 0).trans rfl; have hcz47_1 : wc.cell? ⟨gb480, 1, none⟩ = some (.int .i64 0) := (blk_cell BK480.out 1).trans rfl; have hcz47_2 : wc.cell? ⟨gb480, 2, none⟩ = some (.int .i64 0) := (blk_cell BK480.out 2).trans rfl; have hcz47_3 : wc.cell? ⟨gb480, 3, none⟩ = some (.int .i64 0) := (blk_cell BK480.out 3).trans rfl; have hcz47_4 : wc.cell? ⟨gb480, 4, none⟩ = some (.int .i64 0) := (blk_cell BK480.out 4).trans rfl; have hcz47_5 : wc.cell? ⟨gb480, 5, none⟩ = some (.int .i64 0) := (blk_cell BK480.out 5).trans rfl; have hcz47_6 : wc.cell? ⟨gb480, 6, none⟩ = some (.int .i64 0) := (blk_cell BK480.out 6).trans rfl; have hcz47_7 : wc.cell? ⟨gb480, 7, none⟩ = some (.slice none 0 0) := (blk_cell BK480.out 7).trans rfl; have hfz47_0 := blk_frozen BK480.out 0; have hfz47_1 := blk_frozen BK480.out 1; have hfz47_2 := blk_frozen BK480.out 2; have hfz47_3 := blk_frozen BK480.out 3; have hfz47_4 := blk_frozen BK480.out 4; have hfz47_5 := blk_frozen BK480.out 5; have hfz47_6 := blk_frozen BK480.out 6; have hfz47_7 := blk_frozen BK480.out 7))
               refine bodyPost_ret (results_cell_row rfl _ _ gb480 36 #[.int .i64 5, .int .i64 0, .int .i64 0, .int .i64 0, .int .i64 0, .int .i64 0, .int .i64 0, .slice none 0 0] (0, 0) _ rfl (by (with_reducible repeat (first | refine blk_drewN ?_ _ | refine blk_drew ?_ | refine blk_alloc ?_ _)); refine blk_put (cs := #[.int .i64 5, .int .i64 0, .int .i64 0, .int .i64 0, .int .i64 0, .int .i64 0, .int .i64 0, .slice none 0 0]) ?_ 7 _ rfl; (with_reducible repeat (first | refine blk_drewN ?_ _ | refine blk_drew ?_ | refine blk_alloc ?_ _)); refine blk_put (cs := #[.int .i64 5, .int .i64 0, .int .i64 0, .int .i64 0, .int .i64 0, .int .i64 0, .int .i64 0, .slice none 0 0]) ?_ 6 _ rfl; (with_reducible repeat (first | refine blk_drewN ?_ _ | refine blk_drew ?_ | refine blk_alloc ?_ _)); refine blk_put (cs := #[.int .i64 5, .int .i64 0, .int .i64 0, .int .i64 0, .int .i64 0, .int .i64 0, .int .i64 0, .slice none 0 0]) ?_ 5 _ rfl; (with_reducible repeat (first | refine blk_drewN ?_ _ | refine blk_drew ?_ | refine blk_alloc ?_ _)); refine blk_put (cs := #[.int .i64 5, .int .i64 0, .int .i64 0, .int .i64 0, .int .i64 0, .int .i64 0, .int .i64 0, .slice none 0 0]) ?_ 4 _ rfl; (with_reducible repeat (first | refine blk_drewN ?_ _ | refine blk_drew ?_ | refine blk_alloc ?_ _)); refine blk_put (cs := #[.int .i64 5, .int .i64 0, .int .i64 0, .int .i64 0, .int .i64 0, .int .i64 0, .int .i64 0, .slice none 0 0]) ?_ 3 _ rfl; (with_reducible repeat (first | refine blk_drewN ?_ _ | refine blk_drew ?_ | refine blk_alloc ?_ _)); refine blk_put (cs := #[.int .i64 5, .int .i64 0, .int .i64 0, .int .i64 0, .int .i64 0, .int .i64 0, .int .i64 0, .slice none 0 0]) ?_ 2 _ rfl; (with_reducible repeat (first | refine blk_drewN ?_ _ | refine blk_drew ?_ | refine blk_alloc ?_ _)); refine blk_put (cs := #[.int .i64 5, .int .i64 0, .int .i64 0, .int .i64 0, .int .i64 0, .int .i64 0, .int .i64 0, .slice none 0 0]) ?_ 1 _ rfl; (with_reducible repeat (first | refine blk_drewN ?_ _ | refine blk_drew ?_ | refine blk_alloc ?_ _)); refine blk_put (cs := #[.int .i64 0, .int .i64 0, .int .i64 0, .int .i64 0, .int .i64 0, .int .i64 0, .int .i64 0, .slice none 0 0]) ?_ 0 _ rfl; (with_reducible repeat (first | refine blk_drewN ?_ _ | refine blk_drew ?_ | refine blk_alloc ?_ _)); exact BK480.out) Try.underlying36 rfl (by kernel_rfl)) rfl ?_
               exact ⟨_, by first | rfl | (simp [errW_none, errW_some] <;> rfl) | (simp [*, errW_none, errW_some] <;> rfl), by first | exact Kd.R_nil _ _ _ _ _ | exact Kd.N_nil _ _ _ _ _ | exact Kd.V_nil _ _ _ _ _ | exact Kd.Q_nil _ _ _ _ _ | exact Kd.S_nil _ _ _ _ _, by repeat (first | (with_reducible first | exact HB.out | apply below_alloc | apply pw_below_drewN | apply below_drew1 | refine below_set ?_ GE480.out | refine below_set ?_ GE490.out) | exact HB.out)⟩
              ·rw [if_neg c44] at H
               have c44b0 : decide ((pv_.length : Int) < 4) = false := decide_eq_false c44
               have c44b1 : decide (pv_.length < 4) = false := decide_eq_false (by omega)
               clear c44
               have H' := Aside0.mk H
               clear H
               have hnb48 := NB490_480.out
               have hnc48 := NB480_490.out
               have hcz49_0 : wc.cell? ⟨gb490, 0, none⟩ = some (.int .i64 t485) := (blk_cell BK490.out 0).trans rfl
               have hcz49_1 : wc.cell? ⟨gb490, 1, none⟩ = some (.int .i64 t487) := (blk_cell BK490.out 1).trans rfl
               have hcz49_2 : wc.cell? ⟨gb490, 2, none⟩ = some (.int .i64 (wrap64 (rd l0 9))) := (blk_cell BK490.out 2).trans rfl
               have hcz49_3 : wc.cell? ⟨gb490, 3, none⟩ = some (.int .i64 (wrap64 (rd l0 8))) := (blk_cell BK490.out 3).trans rfl
               have hcz49_4 : wc.cell? ⟨gb490, 4, none⟩ = some (.int .i64 0) := (blk_cell BK490.out 4).trans rfl
               have hcz49_5 : wc.cell? ⟨gb490, 5, none⟩ = some (.int .i64 0) := (blk_cell BK490.out 5).trans rfl
               have hcz49_6 : wc.cell? ⟨gb490, 6, none⟩ = some (.slice none 0 0) := (blk_cell BK490.out 6).trans rfl
               have hfz49_0 := blk_frozen BK490.out 0
               have hfz49_1 := blk_frozen BK490.out 1
               have hfz49_2 := blk_frozen BK490.out 2
               have hfz49_3 := blk_frozen BK490.out 3
               have hfz49_4 := blk_frozen BK490.out 4
               have hfz49_5 := blk_frozen BK490.out 5
               have hfz49_6 := blk_frozen BK490.out 6
               go_wp2_with (first | ((with_reducible refine gate_callee (f := 57) rfl ?_); refine goesL_ (some 46) rfl rfl Try.func57 (by kernel_rfl) rfl #[.int .i64 (wrap64 (rd l0 9))] rfl (by (try simp only [List.map_toArray, List.map_cons, List.map_nil]); first | done | rfl | (simp only [List.length_drop, List.length_take]; rfl)) ?_; (with_reducible refine (impl_HasPorts.calls (wrap64 (rd l0 9)) true _ A42.out).mono ?_); rintro e w' ⟨rfl, ⟨nd, rfl⟩⟩; refine ⟨_, rfl, ?_⟩))
               go_meet
               case rel => exact ⟨_, (0), (0), (0), (0), (0), (0), (0), H', ⟨by have := HJ32.out; first | omega | exact Nat.le_refl _⟩, ⟨by (with_reducible repeat (first | refine blk_drewN ?_ _ | refine blk_drew ?_ | refine blk_alloc ?_ _)); exact BK480.out⟩, ⟨by (with_reducible repeat (first | refine blk_drewN ?_ _ | refine blk_drew ?_ | refine blk_alloc ?_ _)); exact BK490.out⟩, ⟨by repeat (first | (with_reducible first | exact HB.out | apply below_alloc | apply pw_below_drewN | apply below_drew1 | refine below_set ?_ GE480.out | refine below_set ?_ GE490.out) | exact HB.out)⟩⟩
             ·replace c43 := Bool.eq_false_iff.mpr c43
              subst c43
              rw [if_neg (show ¬ (false = true) by decide)] at H
              have H' := Aside0.mk H
              clear H
              have hnb50 := NB490_480.out
              have hnc50 := NB480_490.out
              have hcz51_0 : wc.cell? ⟨gb490, 0, none⟩ = some (.int .i64 t485) := (blk_cell BK490.out 0).trans rfl
              have hcz51_1 : wc.cell? ⟨gb490, 1, none⟩ = some (.int .i64 t487) := (blk_cell BK490.out 1).trans rfl
              have hcz51_2 : wc.cell? ⟨gb490, 2, none⟩ = some (.int .i64 (wrap64 (rd l0 9))) := (blk_cell BK490.out 2).trans rfl
              have hcz51_3 : wc.cell? ⟨gb490, 3, none⟩ = some (.int .i64 (wrap64 (rd l0 8))) := (blk_cell BK490.out 3).trans rfl
              have hcz51_4 : wc.cell? ⟨gb490, 4, none⟩ = some (.int .i64 0) := (blk_cell BK490.out 4).trans rfl
              have hcz51_5 : wc.cell? ⟨gb490, 5, none⟩ = some (.int .i64 0) := (blk_cell BK490.out 5).trans rfl
              have hcz51_6 : wc.cell? ⟨gb490, 6, none⟩ = some (.slice none 0 0) := (blk_cell BK490.out 6).trans rfl
              have hfz51_0 := blk_frozen BK490.out 0
              have hfz51_1 := blk_frozen BK490.out 1
              have hfz51_2 := blk_frozen BK490.out 2
              have hfz51_3 := blk_frozen BK490.out 3
              have hfz51_4 := blk_frozen BK490.out 4
              have hfz51_5 := blk_frozen BK490.out 5
              have hfz51_6 := blk_frozen BK490.out 6
              go_wp2_with (first | ((with_reducible refine gate_callee (f := 57) rfl ?_); refine goesL_ (some 46) rfl rfl Try.func57 (by kernel_rfl) rfl #[.int .i64 (wrap64 (rd l0 9))] rfl (by (try simp only [List.map_toArray, List.map_cons, List.map_nil]); first | done | rfl | (simp only [List.length_drop, List.length_take]; rfl)) ?_; (with_reducible refine (impl_HasPorts.calls (wrap64 (rd l0 9)) false _ A42.out).mono ?_); rintro e w' ⟨rfl, ⟨nd, rfl⟩⟩; refine ⟨_, rfl, ?_⟩))
              go_meet
              case rel => exact ⟨_, (0), (0), (0), (0), (0), (0), (0), H', ⟨by have := HJ32.out; first | omega | exact Nat.le_refl _⟩, ⟨by (with_reducible repeat (first | refine blk_drewN ?_ _ | refine blk_drew ?_ | refine blk_alloc ?_ _)); exact BK480.out⟩, ⟨by (with_reducible repeat (first | refine blk_drewN ?_ _ | refine blk_drew ?_ | refine blk_alloc ?_ _)); exact BK490.out⟩, ⟨by repeat (first | (with_reducible first | exact HB.out | apply below_alloc | apply pw_below_drewN | apply below_drew1 | refine below_set ?_ GE480.out | refine below_set ?_ GE490.out) | exact HB.out)⟩⟩
         case rest =>
          clear HC16
          try clear c1
          try clear p2
          try clear c3
          try clear c4
          try clear c4b0
          try clear c4b1
          try clear p4
          try clear q4
          try clear hx4
          try clear qi4
          try clear c5
          try clear c6
          try clear p6
          try clear c7
          try clear c7b0
          try clear c7b1
          try clear c8
          try clear c8b0
          try clear c8b1
          try clear c10
          try clear c10b0
          try clear c10b1
          try clear c11
          try clear c11b0
          try clear c13
          try clear c13b0
          try clear c13b1
          try clear c14
          try clear c14b0
          try clear c14b1
          try clear c15
          try clear c15b0
          try clear c17
          try clear c34
          try clear c34b0
          try clear c34b1
          try clear c35
          try clear c36
          try clear c37
          try clear c39
          try clear c40
          try clear c42
          try clear c43
          try clear c44
          try clear c44b0
          try clear c44b1
          try clear c45
          try clear c48
          try clear p48
          try clear q48
          try clear hx48
          try clear c50
          try clear hcz36_0
          try clear hcz36_1
          try clear hcz36_2
          try clear hcz36_3
          try clear hcz36_4
          try clear hcz36_5
          try clear hcz36_6
          try clear hcz38_0
          try clear hcz38_1
          try clear hcz38_2
          try clear hcz38_3
          try clear hcz38_4
          try clear hcz38_5
          try clear hcz38_6
          try clear hcz41_0
          try clear hcz41_1
          try clear hcz41_2
          try clear hcz41_3
          try clear hcz41_4
          try clear hcz41_5
          try clear hcz41_6
          try clear hcz41_7
          try clear hcz46_0
          try clear hcz46_1
          try clear hcz46_2
          try clear hcz46_3
          try clear hcz46_4
          try clear hcz46_5
          try clear hcz46_6
          try clear hcz47_0
          try clear hcz47_1
          try clear hcz47_2
          try clear hcz47_3
          try clear hcz47_4
          try clear hcz47_5
          try clear hcz47_6
          try clear hcz47_7
          try clear hcz49_0
          try clear hcz49_1
          try clear hcz49_2
          try clear hcz49_3
          try clear hcz49_4
          try clear hcz49_5
          try clear hcz49_6
          try clear hcz51_0
          try clear hcz51_1
          try clear hcz51_2
          try clear hcz51_3
          try clear hcz51_4
          try clear hcz51_5
          try clear hcz51_6
          try clear hfz36_0
          try clear hfz36_1
          try clear hfz36_2
          try clear hfz36_3
          try clear hfz36_4
          try clear hfz36_5
          try clear hfz36_6
          try clear hfz38_0
          try clear hfz38_1
          try clear hfz38_2
          try clear hfz38_3
          try clear hfz38_4
          try clear hfz38_5
          try clear hfz38_6
          try clear hfz41_0
          try clear hfz41_1
          try clear hfz41_2
          try clear hfz41_3
          try clear hfz41_4
          try clear hfz41_5
          try clear hfz41_6
          try clear hfz41_7
          try clear hfz46_0
          try clear hfz46_1
          try clear hfz46_2
          try clear hfz46_3
          try clear hfz46_4
          try clear hfz46_5
          try clear hfz46_6
          try clear hfz47_0
          try clear hfz47_1
          try clear hfz47_2
          try clear hfz47_3
          try clear hfz47_4
          try clear hfz47_5
          try clear hfz47_6
          try clear hfz47_7
          try clear hfz49_0
          try clear hfz49_1
          try clear hfz49_2
          try clear hfz49_3
          try clear hfz49_4
          try clear hfz49_5
          try clear hfz49_6
          try clear hfz51_0
          try clear hfz51_1
          try clear hfz51_2
          try clear hfz51_3
          try clear hfz51_4
          try clear hfz51_5
          try clear hfz51_6
          try clear hx488_0
          try clear hx489_0
          try clear p2
          try clear p4
          try clear p488
          try clear p489
          try clear p6
          try clear q4
          try clear q488
          try clear q489
          obtain ⟨kq, x481000_15, x481001_15, x481002_15, x481003_15, x481004_15, x481005_15, x481006_15, HA, HJ15, BK480, BK490, HB⟩ := hcut
          cases kq with
          | zero => exact absurd HA.out (by simp [impl_ParsePacket.j1])
          | succ kj15 =>
           have H := HA.out
           clear HA
           simp only [impl_ParsePacket.j1] at H
           try rw [← hp_pv_.out] at H
           try rw [← hp_qv_.out] at H
           replace H := Option.bind_eq_some_iff.mp H
           obtain ⟨t493, A520, H⟩ := H
           try dsimp only at H
           have A52 := Aside0.mk A520
           clear A520
           by_cases c53 : t493 = true
           ·subst c53
            rw [if_pos rfl] at H
            by_cases c54 : 2 ≤ (pv_.length : Int)
            ·rw [if_pos c54] at H
             have c54b0 := eq_true c54
             have c54b1 : decide (2 ≤ (pv_.length : Int)) = true := decide_eq_true c54
             clear c54
             replace H := Option.bind_eq_some_iff.mp H
             obtain ⟨t495, A550, H⟩ := H
             try dsimp only at H
             have A55 := Aside0.mk A550
             clear A550
             by_cases c56 : 2 ≤ 4
             ·rw [if_pos c56] at H
              have c56b0 := eq_true c56
              have c56b1 : decide (2 ≤ 4) = true := decide_eq_true c56
              clear c56
              by_cases c57 : 4 ≤ (pv_.length : Int)
              ·rw [if_pos c57] at H
               have c57b0 := eq_true c57
               have c57b1 : decide (4 ≤ (pv_.length : Int)) = true := decide_eq_true c57
               clear c57
               replace H := Option.bind_eq_some_iff.mp H
               obtain ⟨t497, A580, H⟩ := H
               try dsimp only at H
               have A58 := Aside0.mk A580
               clear A580
               have c59b0 := eq_true (of_decide_eq_true (by first | (with_reducible assumption) | assumption) : 4 ≤ (pv_.length : Int))
               by_cases c60 : (qv_.length : Int) > 200
               ·rw [if_pos c60] at H
                have c60b0 : decide (200 < (qv_.length : Int)) = true := decide_eq_true c60
                have c60b1 : decide (200 < qv_.length) = true := decide_eq_true (by omega)
                clear c60
                simp only [Option.some.injEq, Prod.mk.injEq] at H
                obtain ⟨rfl, rfl, rfl, rfl, rfl, rfl, rfl, rfl⟩ := H
                have hnb61 := NB490_480.out
                have hnc61 := NB480_490.out
                have hcz62_0 : wc.cell? ⟨gb490, 0, none⟩ = some (.int .i64 t485) := (blk_cell BK490.out 0).trans rfl
                have hcz62_1 : wc.cell? ⟨gb490, 1, none⟩ = some (.int .i64 t487) := (blk_cell BK490.out 1).trans rfl
                have hcz62_2 : wc.cell? ⟨gb490, 2, none⟩ = some (.int .i64 (wrap64 (rd l0 9))) := (blk_cell BK490.out 2).trans rfl
                have hcz62_3 : wc.cell? ⟨gb490, 3, none⟩ = some (.int .i64 (wrap64 (rd l0 8))) := (blk_cell BK490.out 3).trans rfl
                have hcz62_4 : wc.cell? ⟨gb490, 4, none⟩ = some (.int .i64 0) := (blk_cell BK490.out 4).trans rfl
                have hcz62_5 : wc.cell? ⟨gb490, 5, none⟩ = some (.int .i64 0) := (blk_cell BK490.out 5).trans rfl
                have hcz62_6 : wc.cell? ⟨gb490, 6, none⟩ = some (.slice none 0 0) := (blk_cell BK490.out 6).trans rfl
                have hfz62_0 := blk_frozen BK490.out 0
                have hfz62_1 := blk_frozen BK490.out 1
                have hfz62_2 := blk_frozen BK490.out 2
                have hfz62_3 := blk_frozen BK490.out 3
                have hfz62_4 := blk_frozen BK490.out 4
                have hfz62_5 := blk_frozen BK490.out 5
                have hfz62_6 := blk_frozen BK490.out 6
                try go_wp2_with (first | ((with_reducible refine gate_callee (f := 57) rfl ?_); refine goesL_ (some 55) rfl rfl Try.func57 (by kernel_rfl) rfl #[.int .i64 (wrap64 (rd l0 9))] rfl (by (try simp only [List.map_toArray, List.map_cons, List.map_nil]); first | done | rfl | (simp only [List.length_drop, List.length_take]; rfl)) ?_; (with_reducible refine (impl_HasPorts.calls (wrap64 (rd l0 9)) true _ A52.out).mono ?_); rintro e w' ⟨rfl, ⟨nd, rfl⟩⟩; refine ⟨_, rfl, ?_⟩; (try (rw [drewN_self wc]; generalize hq_ : World.drewN wc _ = wc; have n0_ : Aside0 (wc.heap[gb480]? = some (.cells #[.int .i64 x481000_15, .int .i64 x481001_15, .int .i64 x481002_15, .int .i64 x481003_15, .int .i64 x481004_15, .int .i64 x481005_15, .int .i64 x481006_15, .slice none 0 0] 36 (0, 0))) := ⟨by rw [← hq_]; exact (by (with_reducible repeat (first | refine blk_drewN ?_ _ | refine blk_drew ?_ | refine blk_alloc ?_ _)); exact BK480.out)⟩; have n1_ : Aside0 (wc.heap[gb490]? = some (.cells #[.int .i64 t485, .int .i64 t487, .int .i64 (wrap64 (rd l0 9)), .int .i64 (wrap64 (rd l0 8)), .int .i64 0, .int .i64 0, .slice none 0 0] 34 (0, 0))) := ⟨by rw [← hq_]; exact (by (with_reducible repeat (first | refine blk_drewN ?_ _ | refine blk_drew ?_ | refine blk_alloc ?_ _)); exact BK490.out)⟩; have n2_ : Aside0 (Below w.heap.size w wc) := ⟨by rw [← hq_]; exact (by repeat (first | (with_reducible first | exact HB.out | apply below_alloc | apply pw_below_drewN | apply below_drew1 | refine below_set ?_ GE480.out | refine below_set ?_ GE490.out) | exact HB.out))⟩; clear BK480 BK490 HB hq_; have BK480 := n0_; have BK490 := n1_; have HB := n2_; clear n0_ n1_ n2_))))
                have n0_ := Aside0.mk (blk_drew BK480.out)
                have n1_ := Aside0.mk (blk_drew BK490.out)
                have n2_ := Aside0.mk (below_drew1 HB.out)
                clear BK480
                clear BK490
                clear HB
                have BK480 := n0_
                have BK490 := n1_
                have HB := n2_
                clear n0_ n1_ n2_
                obtain ⟨i064, hi064, _, hsz64, _⟩ := info_parts info5
                obtain ⟨hcut64, hA64, hC64⟩ := print_take_of (P := Try.prog) (Value.int .u8) 0 22 5 .i64 Try.underlying22 hi064 hsz64 A32 (c0 - 20) pv_ 2 (by omega) (of_decide_eq_true (by first | (with_reducible assumption) | assumption)) HC491.out
                have HR494 := Aside0.mk (Kd.C_of_reads (h1 := fun _ => rfl) (hA64 _ (Kd.reads_of_C HR491.out)))
                have HC494 := Aside0.mk hC64
                clear hA64 hC64 hi064 hsz64
                obtain ⟨i065, hi065, _, hsz65, _⟩ := info_parts info5
                obtain ⟨A65, hcut65, hA65, hC65⟩ := print_mid_of (P := Try.prog) (Value.int .u8) 0 22 5 .i64 .i64 Try.underlying22 hi065 hsz65 A32 (c0 - 20) pv_ 2 4 (by omega) (by first | omega | exact of_decide_eq_true (by first | (with_reducible assumption) | assumption)) (of_decide_eq_true (by first | (with_reducible assumption) | assumption)) HC491.out
                have HR496 := Aside0.mk (Kd.C_of_reads (h1 := fun _ => rfl) (hA65 _ (Kd.reads_of_C HR491.out)))
                have HC496 := Aside0.mk hC65
                clear hA65 hC65 hi065 hsz65
                obtain ⟨i066, hi066, _, hsz66, _⟩ := info_parts info5
                obtain ⟨A66, hcut66, hA66, hC66⟩ := print_drop_of (P := Try.prog) (Value.int .u8) 0 22 5 .i64 Try.underlying22 hi066 hsz66 A32 (c0 - 20) pv_ 4 (by omega) (of_decide_eq_true (by first | (with_reducible assumption) | assumption)) HC491.out
                simp only [Int.reduceToNat, ← hp_qv_.out] at hcut66 hA66 hC66
                have HR498 := Aside0.mk (Kd.C_of_reads (h1 := fun _ => rfl) (hA66 _ (Kd.reads_of_C HR491.out)))
                have HC498 := Aside0.mk hC66
                clear hA66 hC66 hi066 hsz66
                refine start_ (n := 13) (S := fun w' => True) (ds := []) #[false, false, false, false, false, false, false, false, false, false, false, false, false] (by kernel_rfl) rfl rfl trivial (fun hHeld => ?_); refine with_tabW impl_ParsePacket.tab12 impl_ParsePacket.bits12 (fun HT_ HW_ => ?_)
                generalize wc.drew = w63 at BK480 BK490 HB HR494 HR496 HR498 hHeld ⊢
                refine pure_ (i := 0) (N := some 56) (v := ?_) (a' := ?_) #[true, false, false, false, false, false, false, false, false, false, false, false, false] rfl rfl (any_of HT_.out (by kernel_rfl)) (fun _ _ _ h => h) (Or.inl ⟨by rfl, ?_⟩) ?_ ?_
                rotate_left
                ·intro w'
                 go_simp
                 with_reducible rfl
                rotate_left
                ·simp only [Act.put, lA_, lZ_, lS_, i64_w, i32_w]
                 rfl
                refine pure_ (i := 1) (N := some 57) (v := ?_) (a' := ?_) #[true, true, false, false, false, false, false, false, false, false, false, false, false] rfl rfl (any_of HT_.out (by kernel_rfl)) (fun _ _ _ h => h) (Or.inl ⟨by rfl, ?_⟩) ?_ ?_
                rotate_left
                ·intro w'
                 go_simp
                 with_reducible rfl
                rotate_left
                ·simp only [Act.put, lA_, lZ_, lS_, i64_w, i32_w]
                 rfl
                refine pure_ (i := 3) (N := some 59) (v := ?_) (a' := ?_) #[true, true, false, true, false, false, false, false, false, false, false, false, false] rfl rfl (any_of HT_.out (by kernel_rfl)) (fun _ _ _ h => h) (Or.inl ⟨by rfl, ?_⟩) ?_ ?_
                rotate_left
                ·intro w'
                 go_simp
                 with_reducible rfl
                rotate_left
                ·simp only [Act.put, lA_, lZ_, lS_, i64_w, i32_w]
                 rfl
                refine pure_ (i := 4) (N := some 60) (v := ?_) (a' := ?_) #[true, true, false, true, true, false, false, false, false, false, false, false, false] rfl rfl (any_of HT_.out (by kernel_rfl)) (fun _ _ _ h => h) (Or.inl ⟨by rfl, ?_⟩) ?_ ?_
                rotate_left
                ·intro w'
                 go_simp
                 with_reducible rfl
                rotate_left
                ·simp only [Act.put, lA_, lZ_, lS_, i64_w, i32_w]
                 rfl
                refine pure_ (i := 6) (N := some 62) (v := ?_) (a' := ?_) #[true, true, false, true, true, false, true, false, false, false, false, false, false] rfl rfl (any_of HT_.out (by kernel_rfl)) (fun _ _ _ h => h) (Or.inl ⟨by rfl, ?_⟩) ?_ ?_
                rotate_left
                ·intro w'
                 go_simp
                 with_reducible rfl
                rotate_left
                ·simp only [Act.put, lA_, lZ_, lS_, i64_w, i32_w]
                 rfl
                refine pure_ (i := 7) (N := some 63) (v := ?_) (a' := ?_) #[true, true, false, true, true, false, true, true, false, false, false, false, false] rfl rfl (any_of HT_.out (by kernel_rfl)) (fun _ _ _ h => h) (Or.inl ⟨by rfl, ?_⟩) ?_ ?_
                rotate_left
                ·intro w'
                 go_simp
                 with_reducible rfl
                rotate_left
                ·simp only [Act.put, lA_, lZ_, lS_, i64_w, i32_w]
                 rfl
                refine one_ (i := 2) (N := some 58) #[true, true, true, true, true, false, true, true, false, false, false, false, false] rfl rfl (one_of HT_.out (by kernel_rfl)) (by decide) (fun K hK => ?_)
                refine goes_ Try.func42 (by kernel_rfl) rfl #[.slice A32 (pv_.take 2).length (c0 - 20)] (by rfl) rfl rfl (by (try simp only [List.map_toArray, List.map_cons, List.map_nil]); first | done | (rw [show (pv_.take 2).length = 2 from (by rw [List.length_take]; have h_ : (2 : Int) ≤ (pv_.length : Int) := of_decide_eq_true (by first | (with_reducible assumption) | assumption); omega)] <;> rfl) | rfl | (simp only [List.length_drop, List.length_take]; rfl)) ?_
                with_reducible refine (impl_take.calls kj15 _ _ (pv_.take 2) t495 _ ?side1 ?side2 A55.out).mono ?_
                (case side1 => repeat (first | exact (Kd.C_below HR494.out HB.out) | (with_reducible refine Kd.C_alloc ?_ _) | (with_reducible refine Kd.C_drewN ?_ _) | (with_reducible refine Kd.C_drew ?_)))
                (case side2 => exact HC494.out)
                rintro e w' ⟨rfl, ⟨nd, rfl⟩⟩
                refine ⟨_, rfl, ?_⟩
                refine hK.out _ _ trivial (fun hHeld => ?_)
                clear hK K
                refine norm_ (a' := ?_) ?_ ?_
                rotate_left
                ·show Act.put _ (some 58) _ = _
                 simp only [Act.put, lA_, lZ_, lS_, i64_w, i32_w]
                 rfl
                refine pure_ (i := 8) (N := some 64) (v := ?_) (a' := ?_) #[true, true, true, true, true, false, true, true, true, false, false, false, false] rfl rfl (any_of HT_.out (by kernel_rfl)) (fun _ _ _ h => h) (Or.inl ⟨by rfl, ?_⟩) ?_ ?_
                rotate_left
                ·intro w'
                 go_simp
                 with_reducible rfl
                rotate_left
                ·simp only [Act.put, lA_, lZ_, lS_, i64_w, i32_w]
                 rfl
                refine one_ (i := 5) (N := some 61) #[true, true, true, true, true, true, true, true, true, false, false, false, false] rfl rfl (one_of HT_.out (by kernel_rfl)) (by decide) (fun K hK => ?_)
                refine goes_ Try.func42 (by kernel_rfl) rfl #[.slice A65 ((pv_.take 4).drop 2).length ((c0 - 20) - 2)] (by rfl) rfl rfl (by (try simp only [List.map_toArray, List.map_cons, List.map_nil]); first | done | (rw [show ((pv_.take 4).drop 2).length = (4 - 2) from (by rw [List.length_drop, List.length_take]; have h_ : (4 : Int) ≤ (pv_.length : Int) := of_decide_eq_true (by first | (with_reducible assumption) | assumption); omega)] <;> rfl) | rfl | (simp only [List.length_drop, List.length_take]; rfl)) ?_
                with_reducible refine (impl_take.calls kj15 _ _ ((pv_.take 4).drop 2) t497 _ ?side1 ?side2 A58.out).mono ?_
                (case side1 => repeat (first | exact (Kd.C_below HR496.out (by repeat (first | (with_reducible first | exact HB.out | apply below_alloc | apply pw_below_drewN | apply below_drew1 | refine below_set ?_ GE480.out | refine below_set ?_ GE490.out) | exact HB.out))) | (with_reducible refine Kd.C_alloc ?_ _) | (with_reducible refine Kd.C_drewN ?_ _) | (with_reducible refine Kd.C_drew ?_)))
                (case side2 => exact HC496.out)
                rintro e w' ⟨rfl, ⟨nd, rfl⟩⟩
                refine ⟨_, rfl, ?_⟩
                refine hK.out _ _ trivial (fun hHeld => ?_)
                clear hK K
                refine norm_ (a' := ?_) ?_ ?_
                rotate_left
                ·show Act.put _ (some 61) _ = _
                 simp only [Act.put, lA_, lZ_, lS_, i64_w, i32_w]
                 rfl
                refine one_ (i := 9) (N := none) #[true, true, true, true, true, true, true, true, true, true, false, false, false] rfl rfl (one_of HT_.out (by kernel_rfl)) (by decide) (fun K hK => ?_)
                have hs67 : w63.cell? ⟨gb490, 4, none⟩ = some (.int .i64 0) := (blk_cell BK490.out 4).trans rfl
                have hfs67 := blk_frozen BK490.out 4
                have hns67_0 := NB480_490.out
                have hms67_0 := NB490_480.out
                refine skip_ (w1 := ?_) (by rfl) rfl ?_ ?_
                rotate_left
                ·go_simp
                 rfl
                refine hK.out _ _ trivial (fun hHeld => ?_)
                clear hK K
                refine pure_ (i := 10) (N := some 65) (v := ?_) (a' := ?_) #[true, true, true, true, true, true, true, true, true, true, true, false, false] rfl rfl (any_of HT_.out (by kernel_rfl)) (fun _ _ _ h => h) (Or.inl ⟨by rfl, ?_⟩) ?_ ?_
                rotate_left
                ·intro w'
                 go_simp
                 with_reducible rfl
                rotate_left
                ·simp only [Act.put, lA_, lZ_, lS_, i64_w, i32_w]
                 rfl
                refine one_ (i := 11) (N := none) #[true, true, true, true, true, true, true, true, true, true, true, true, false] rfl rfl (one_of HT_.out (by kernel_rfl)) (by decide) (fun K hK => ?_)
                have hs68 : w63.cell? ⟨gb490, 5, none⟩ = some (.int .i64 0) := (blk_cell BK490.out 5).trans rfl
                have hfs68 := blk_frozen BK490.out 5
                have hns68_0 := NB480_490.out
                have hms68_0 := NB490_480.out
                refine skip_ (w1 := ?_) (by rfl) rfl ?_ ?_
                rotate_left
                ·go_simp
                 rfl
                refine hK.out _ _ trivial (fun hHeld => ?_)
                clear hK K
                refine pure_ (i := 12) (N := some 4) (v := ?_) (a' := ?_) #[true, true, true, true, true, true, true, true, true, true, true, true, true] rfl rfl (any_of HT_.out (by kernel_rfl)) (fun _ _ _ h => h) (Or.inl ⟨by rfl, ?_⟩) ?_ ?_
                rotate_left
                ·intro w'
                 go_simp
                 with_reducible rfl
                rotate_left
                ·simp only [Act.put, lA_, lZ_, lS_, i64_w, i32_w]
                 rfl
                refine done_ (done_of HT_.out (by kernel_rfl)) ?_
                have hcz69_0 : w63.cell? ⟨gb480, 0, none⟩ = some (.int .i64 x481000_15) := (blk_cell BK480.out 0).trans rfl
                have hcz69_1 : w63.cell? ⟨gb480, 1, none⟩ = some (.int .i64 x481001_15) := (blk_cell BK480.out 1).trans rfl
                have hcz69_2 : w63.cell? ⟨gb480, 2, none⟩ = some (.int .i64 x481002_15) := (blk_cell BK480.out 2).trans rfl
                have hcz69_3 : w63.cell? ⟨gb480, 3, none⟩ = some (.int .i64 x481003_15) := (blk_cell BK480.out 3).trans rfl
                have hcz69_4 : w63.cell? ⟨gb480, 4, none⟩ = some (.int .i64 x481004_15) := (blk_cell BK480.out 4).trans rfl
                have hcz69_5 : w63.cell? ⟨gb480, 5, none⟩ = some (.int .i64 x481005_15) := (blk_cell BK480.out 5).trans rfl
                have hcz69_6 : w63.cell? ⟨gb480, 6, none⟩ = some (.int .i64 x481006_15) := (blk_cell BK480.out 6).trans rfl
                have hcz69_7 : w63.cell? ⟨gb480, 7, none⟩ = some (.slice none 0 0) := (blk_cell BK480.out 7).trans rfl
                have hfz69_0 := blk_frozen BK480.out 0
                have hfz69_1 := blk_frozen BK480.out 1
                have hfz69_2 := blk_frozen BK480.out 2
                have hfz69_3 := blk_frozen BK480.out 3
                have hfz69_4 := blk_frozen BK480.out 4
                have hfz69_5 := blk_frozen BK480.out 5
                have hfz69_6 := blk_frozen BK480.out 6
                have hfz69_7 := blk_frozen BK480.out 7
                try go_wp2
                refine bodyPost_ret (results_cell_row rfl _ _ gb480 36 #[.int .i64 2, .int .i64 0, .int .i64 0, .int .i64 0, .int .i64 0, .int .i64 0, .int .i64 0, .slice none 0 0] (0, 0) _ rfl (by (with_reducible repeat (first | refine blk_drewN ?_ _ | refine blk_drew ?_ | refine blk_alloc ?_ _)); refine blk_put (cs := #[.int .i64 2, .int .i64 0, .int .i64 0, .int .i64 0, .int .i64 0, .int .i64 0, .int .i64 0, .slice none 0 0]) ?_ 7 _ rfl; (with_reducible repeat (first | refine blk_drewN ?_ _ | refine blk_drew ?_ | refine blk_alloc ?_ _)); refine blk_put (cs := #[.int .i64 2, .int .i64 0, .int .i64 0, .int .i64 0, .int .i64 0, .int .i64 0, .int .i64 x481006_15, .slice none 0 0]) ?_ 6 _ rfl; (with_reducible repeat (first | refine blk_drewN ?_ _ | refine blk_drew ?_ | refine blk_alloc ?_ _)); refine blk_put (cs := #[.int .i64 2, .int .i64 0, .int .i64 0, .int .i64 0, .int .i64 0, .int .i64 x481005_15, .int .i64 x481006_15, .slice none 0 0]) ?_ 5 _ rfl; (with_reducible repeat (first | refine blk_drewN ?_ _ | refine blk_drew ?_ | refine blk_alloc ?_ _)); refine blk_put (cs := #[.int .i64 2, .int .i64 0, .int .i64 0, .int .i64 0, .int .i64 x481004_15, .int .i64 x481005_15, .int .i64 x481006_15, .slice none 0 0]) ?_ 4 _ rfl; (with_reducible repeat (first | refine blk_drewN ?_ _ | refine blk_drew ?_ | refine blk_alloc ?_ _)); refine blk_put (cs := #[.int .i64 2, .int .i64 0, .int .i64 0, .int .i64 x481003_15, .int .i64 x481004_15, .int .i64 x481005_15, .int .i64 x481006_15, .slice none 0 0]) ?_ 3 _ rfl; (with_reducible repeat (first | refine blk_drewN ?_ _ | refine blk_drew ?_ | refine blk_alloc ?_ _)); refine blk_put (cs := #[.int .i64 2, .int .i64 0, .int .i64 x481002_15, .int .i64 x481003_15, .int .i64 x481004_15, .int .i64 x481005_15, .int .i64 x481006_15, .slice none 0 0]) ?_ 2 _ rfl; (with_reducible repeat (first | refine blk_drewN ?_ _ | refine blk_drew ?_ | refine blk_alloc ?_ _)); refine blk_put (cs := #[.int .i64 2, .int .i64 x481001_15, .int .i64 x481002_15, .int .i64 x481003_15, .int .i64 x481004_15, .int .i64 x481005_15, .int .i64 x481006_15, .slice none 0 0]) ?_ 1 _ rfl; (with_reducible repeat (first | refine blk_drewN ?_ _ | refine blk_drew ?_ | refine blk_alloc ?_ _)); refine blk_put (cs := #[.int .i64 x481000_15, .int .i64 x481001_15, .int .i64 x481002_15, .int .i64 x481003_15, .int .i64 x481004_15, .int .i64 x481005_15, .int .i64 x481006_15, .slice none 0 0]) ?_ 0 _ rfl; (with_reducible repeat (first | refine blk_drewN ?_ _ | refine blk_drew ?_ | refine blk_alloc ?_ _)); refine blk_far ?_ NB480_490.out _; (with_reducible repeat (first | refine blk_drewN ?_ _ | refine blk_drew ?_ | refine blk_alloc ?_ _)); refine blk_far ?_ NB480_490.out _; (with_reducible repeat (first | refine blk_drewN ?_ _ | refine blk_drew ?_ | refine blk_alloc ?_ _)); exact BK480.out) Try.underlying36 rfl (by kernel_rfl)) rfl ?_
                exact ⟨_, by first | rfl | (simp [errW_none, errW_some] <;> rfl) | (simp [*, errW_none, errW_some] <;> rfl), by first | exact Kd.R_nil _ _ _ _ _ | exact Kd.N_nil _ _ _ _ _ | exact Kd.V_nil _ _ _ _ _ | exact Kd.Q_nil _ _ _ _ _ | exact Kd.S_nil _ _ _ _ _, by repeat (first | (with_reducible first | exact HB.out | apply below_alloc | apply pw_below_drewN | apply below_drew1 | refine below_set ?_ GE480.out | refine below_set ?_ GE490.out) | exact HB.out)⟩
               ·rw [if_neg c60] at H
                have c60b0 : decide (200 < (qv_.length : Int)) = false := decide_eq_false c60
                have c60b1 : decide (200 < qv_.length) = false := decide_eq_false (by omega)
                clear c60
                replace H := Option.bind_eq_some_iff.mp H
                obtain ⟨t499, A700, H⟩ := H
                try dsimp only at H
                have A70 := Aside0.mk A700
                clear A700
                simp only [Option.some.injEq, Prod.mk.injEq] at H
                obtain ⟨rfl, rfl, rfl, rfl, rfl, rfl, rfl, rfl⟩ := H
                have hnb71 := NB490_480.out
                have hnc71 := NB480_490.out
                have hcz72_0 : wc.cell? ⟨gb490, 0, none⟩ = some (.int .i64 t485) := (blk_cell BK490.out 0).trans rfl
                have hcz72_1 : wc.cell? ⟨gb490, 1, none⟩ = some (.int .i64 t487) := (blk_cell BK490.out 1).trans rfl
                have hcz72_2 : wc.cell? ⟨gb490, 2, none⟩ = some (.int .i64 (wrap64 (rd l0 9))) := (blk_cell BK490.out 2).trans rfl
                have hcz72_3 : wc.cell? ⟨gb490, 3, none⟩ = some (.int .i64 (wrap64 (rd l0 8))) := (blk_cell BK490.out 3).trans rfl
                have hcz72_4 : wc.cell? ⟨gb490, 4, none⟩ = some (.int .i64 0) := (blk_cell BK490.out 4).trans rfl
                have hcz72_5 : wc.cell? ⟨gb490, 5, none⟩ = some (.int .i64 0) := (blk_cell BK490.out 5).trans rfl
                have hcz72_6 : wc.cell? ⟨gb490, 6, none⟩ = some (.slice none 0 0) := (blk_cell BK490.out 6).trans rfl
                have hfz72_0 := blk_frozen BK490.out 0
                have hfz72_1 := blk_frozen BK490.out 1
                have hfz72_2 := blk_frozen BK490.out 2
                have hfz72_3 := blk_frozen BK490.out 3
                have hfz72_4 := blk_frozen BK490.out 4
                have hfz72_5 := blk_frozen BK490.out 5
                have hfz72_6 := blk_frozen BK490.out 6
                try go_wp2_with (first | ((with_reducible refine gate_callee (f := 57) rfl ?_); refine goesL_ (some 55) rfl rfl Try.func57 (by kernel_rfl) rfl #[.int .i64 (wrap64 (rd l0 9))] rfl (by (try simp only [List.map_toArray, List.map_cons, List.map_nil]); first | done | rfl | (simp only [List.length_drop, List.length_take]; rfl)) ?_; (with_reducible refine (impl_HasPorts.calls (wrap64 (rd l0 9)) true _ A52.out).mono ?_); rintro e w' ⟨rfl, ⟨nd, rfl⟩⟩; refine ⟨_, rfl, ?_⟩; (try (rw [drewN_self wc]; generalize hq_ : World.drewN wc _ = wc; have n0_ : Aside0 (wc.heap[gb480]? = some (.cells #[.int .i64 x481000_15, .int .i64 x481001_15, .int .i64 x481002_15, .int .i64 x481003_15, .int .i64 x481004_15, .int .i64 x481005_15, .int .i64 x481006_15, .slice none 0 0] 36 (0, 0))) := ⟨by rw [← hq_]; exact (by (with_reducible repeat (first | refine blk_drewN ?_ _ | refine blk_drew ?_ | refine blk_alloc ?_ _)); exact BK480.out)⟩; have n1_ : Aside0 (wc.heap[gb490]? = some (.cells #[.int .i64 t485, .int .i64 t487, .int .i64 (wrap64 (rd l0 9)), .int .i64 (wrap64 (rd l0 8)), .int .i64 0, .int .i64 0, .slice none 0 0] 34 (0, 0))) := ⟨by rw [← hq_]; exact (by (with_reducible repeat (first | refine blk_drewN ?_ _ | refine blk_drew ?_ | refine blk_alloc ?_ _)); exact BK490.out)⟩; have n2_ : Aside0 (Below w.heap.size w wc) := ⟨by rw [← hq_]; exact (by repeat (first | (with_reducible first | exact HB.out | apply below_alloc | apply pw_below_drewN | apply below_drew1 | refine below_set ?_ GE480.out | refine below_set ?_ GE490.out) | exact HB.out))⟩; clear BK480 BK490 HB hq_; have BK480 := n0_; have BK490 := n1_; have HB := n2_; clear n0_ n1_ n2_))))
                have n0_ := Aside0.mk (blk_drew BK480.out)
                have n1_ := Aside0.mk (blk_drew BK490.out)
                have n2_ := Aside0.mk (below_drew1 HB.out)
                clear BK480
                clear BK490
                clear HB
                have BK480 := n0_
                have BK490 := n1_
                have HB := n2_
                clear n0_ n1_ n2_
                obtain ⟨i074, hi074, _, hsz74, _⟩ := info_parts info5
                obtain ⟨hcut74, hA74, hC74⟩ := print_take_of (P := Try.prog) (Value.int .u8) 0 22 5 .i64 Try.underlying22 hi074 hsz74 A32 (c0 - 20) pv_ 2 (by omega) (of_decide_eq_true (by first | (with_reducible assumption) | assumption)) HC491.out
                have HR494 := Aside0.mk (Kd.C_of_reads (h1 := fun _ => rfl) (hA74 _ (Kd.reads_of_C HR491.out)))
                have HC494 := Aside0.mk hC74
                clear hA74 hC74 hi074 hsz74
                obtain ⟨i075, hi075, _, hsz75, _⟩ := info_parts info5
                obtain ⟨A75, hcut75, hA75, hC75⟩ := print_mid_of (P := Try.prog) (Value.int .u8) 0 22 5 .i64 .i64 Try.underlying22 hi075 hsz75 A32 (c0 - 20) pv_ 2 4 (by omega) (by first | omega | exact of_decide_eq_true (by first | (with_reducible assumption) | assumption)) (of_decide_eq_true (by first | (with_reducible assumption) | assumption)) HC491.out
                have HR496 := Aside0.mk (Kd.C_of_reads (h1 := fun _ => rfl) (hA75 _ (Kd.reads_of_C HR491.out)))
                have HC496 := Aside0.mk hC75
                clear hA75 hC75 hi075 hsz75
                obtain ⟨i076, hi076, _, hsz76, _⟩ := info_parts info5
                obtain ⟨A76, hcut76, hA76, hC76⟩ := print_drop_of (P := Try.prog) (Value.int .u8) 0 22 5 .i64 Try.underlying22 hi076 hsz76 A32 (c0 - 20) pv_ 4 (by omega) (of_decide_eq_true (by first | (with_reducible assumption) | assumption)) HC491.out
                simp only [Int.reduceToNat, ← hp_qv_.out] at hcut76 hA76 hC76
                have HR498 := Aside0.mk (Kd.C_of_reads (h1 := fun _ => rfl) (hA76 _ (Kd.reads_of_C HR491.out)))
                have HC498 := Aside0.mk hC76
                clear hA76 hC76 hi076 hsz76
                refine start_ (n := 13) (S := fun w' => True) (ds := []) #[false, false, false, false, false, false, false, false, false, false, false, false, false] (by kernel_rfl) rfl rfl trivial (fun hHeld => ?_); refine with_tabW impl_ParsePacket.tab12 impl_ParsePacket.bits12 (fun HT_ HW_ => ?_)
                generalize wc.drew = w73 at BK480 BK490 HB HR494 HR496 HR498 hHeld ⊢
                refine pure_ (i := 0) (N := some 56) (v := ?_) (a' := ?_) #[true, false, false, false, false, false, false, false, false, false, false, false, false] rfl rfl (any_of HT_.out (by kernel_rfl)) (fun _ _ _ h => h) (Or.inl ⟨by rfl, ?_⟩) ?_ ?_
                rotate_left
                ·intro w'
                 go_simp
                 with_reducible rfl
                rotate_left
                ·simp only [Act.put, lA_, lZ_, lS_, i64_w, i32_w]
                 rfl
                refine pure_ (i := 1) (N := some 57) (v := ?_) (a' := ?_) #[true, true, false, false, false, false, false, false, false, false, false, false, false] rfl rfl (any_of HT_.out (by kernel_rfl)) (fun _ _ _ h => h) (Or.inl ⟨by rfl, ?_⟩) ?_ ?_
                rotate_left
                ·intro w'
                 go_simp
                 with_reducible rfl
                rotate_left
                ·simp only [Act.put, lA_, lZ_, lS_, i64_w, i32_w]
                 rfl
                refine pure_ (i := 3) (N := some 59) (v := ?_) (a' := ?_) #[true, true, false, true, false, false, false, false, false, false, false, false, false] rfl rfl (any_of HT_.out (by kernel_rfl)) (fun _ _ _ h => h) (Or.inl ⟨by rfl, ?_⟩) ?_ ?_
                rotate_left
                ·intro w'
                 go_simp
                 with_reducible rfl
                rotate_left
                ·simp only [Act.put, lA_, lZ_, lS_, i64_w, i32_w]
                 rfl
                refine pure_ (i := 4) (N := some 60) (v := ?_) (a' := ?_) #[true, true, false, true, true, false, false, false, false, false, false, false, false] rfl rfl (any_of HT_.out (by kernel_rfl)) (fun _ _ _ h => h) (Or.inl ⟨by rfl, ?_⟩) ?_ ?_
                rotate_left
                ·intro w'
                 go_simp
                 with_reducible rfl
                rotate_left
                ·simp only [Act.put, lA_, lZ_, lS_, i64_w, i32_w]
                 rfl
                refine pure_ (i := 6) (N := some 62) (v := ?_) (a' := ?_) #[true, true, false, true, true, false, true, false, false, false, false, false, false] rfl rfl (any_of HT_.out (by kernel_rfl)) (fun _ _ _ h => h) (Or.inl ⟨by rfl, ?_⟩) ?_ ?_
                rotate_left
                ·intro w'
                 go_simp
                 with_reducible rfl
                rotate_left
                ·simp only [Act.put, lA_, lZ_, lS_, i64_w, i32_w]
                 rfl
                refine pure_ (i := 7) (N := some 63) (v := ?_) (a' := ?_) #[true, true, false, true, true, false, true, true, false, false, false, false, false] rfl rfl (any_of HT_.out (by kernel_rfl)) (fun _ _ _ h => h) (Or.inl ⟨by rfl, ?_⟩) ?_ ?_
                rotate_left
                ·intro w'
                 go_simp
                 with_reducible rfl
                rotate_left
                ·simp only [Act.put, lA_, lZ_, lS_, i64_w, i32_w]
                 rfl
                refine one_ (i := 2) (N := some 58) #[true, true, true, true, true, false, true, true, false, false, false, false, false] rfl rfl (one_of HT_.out (by kernel_rfl)) (by decide) (fun K hK => ?_)
                refine goes_ Try.func42 (by kernel_rfl) rfl #[.slice A32 (pv_.take 2).length (c0 - 20)] (by rfl) rfl rfl (by (try simp only [List.map_toArray, List.map_cons, List.map_nil]); first | done | (rw [show (pv_.take 2).length = 2 from (by rw [List.length_take]; have h_ : (2 : Int) ≤ (pv_.length : Int) := of_decide_eq_true (by first | (with_reducible assumption) | assumption); omega)] <;> rfl) | rfl | (simp only [List.length_drop, List.length_take]; rfl)) ?_
                with_reducible refine (impl_take.calls kj15 _ _ (pv_.take 2) t495 _ ?side1 ?side2 A55.out).mono ?_
                (case side1 => repeat (first | exact (Kd.C_below HR494.out HB.out) | (with_reducible refine Kd.C_alloc ?_ _) | (with_reducible refine Kd.C_drewN ?_ _) | (with_reducible refine Kd.C_drew ?_)))
                (case side2 => exact HC494.out)
                rintro e w' ⟨rfl, ⟨nd, rfl⟩⟩
                refine ⟨_, rfl, ?_⟩
                refine hK.out _ _ trivial (fun hHeld => ?_)
                clear hK K
                refine norm_ (a' := ?_) ?_ ?_
                rotate_left
                ·show Act.put _ (some 58) _ = _
                 simp only [Act.put, lA_, lZ_, lS_, i64_w, i32_w]
                 rfl
                refine pure_ (i := 8) (N := some 64) (v := ?_) (a' := ?_) #[true, true, true, true, true, false, true, true, true, false, false, false, false] rfl rfl (any_of HT_.out (by kernel_rfl)) (fun _ _ _ h => h) (Or.inl ⟨by rfl, ?_⟩) ?_ ?_
                rotate_left
                ·intro w'
                 go_simp
                 with_reducible rfl
                rotate_left
                ·simp only [Act.put, lA_, lZ_, lS_, i64_w, i32_w]
                 rfl
                refine one_ (i := 5) (N := some 61) #[true, true, true, true, true, true, true, true, true, false, false, false, false] rfl rfl (one_of HT_.out (by kernel_rfl)) (by decide) (fun K hK => ?_)
                refine goes_ Try.func42 (by kernel_rfl) rfl #[.slice A75 ((pv_.take 4).drop 2).length ((c0 - 20) - 2)] (by rfl) rfl rfl (by (try simp only [List.map_toArray, List.map_cons, List.map_nil]); first | done | (rw [show ((pv_.take 4).drop 2).length = (4 - 2) from (by rw [List.length_drop, List.length_take]; have h_ : (4 : Int) ≤ (pv_.length : Int) := of_decide_eq_true (by first | (with_reducible assumption) | assumption); omega)] <;> rfl) | rfl | (simp only [List.length_drop, List.length_take]; rfl)) ?_
                with_reducible refine (impl_take.calls kj15 _ _ ((pv_.take 4).drop 2) t497 _ ?side1 ?side2 A58.out).mono ?_
                (case side1 => repeat (first | exact (Kd.C_below HR496.out (by repeat (first | (with_reducible first | exact HB.out | apply below_alloc | apply pw_below_drewN | apply below_drew1 | refine below_set ?_ GE480.out | refine below_set ?_ GE490.out) | exact HB.out))) | (with_reducible refine Kd.C_alloc ?_ _) | (with_reducible refine Kd.C_drewN ?_ _) | (with_reducible refine Kd.C_drew ?_)))
                (case side2 => exact HC496.out)
                rintro e w' ⟨rfl, ⟨nd, rfl⟩⟩
                refine ⟨_, rfl, ?_⟩
                refine hK.out _ _ trivial (fun hHeld => ?_)
                clear hK K
                refine norm_ (a' := ?_) ?_ ?_
                rotate_left
                ·show Act.put _ (some 61) _ = _
                 simp only [Act.put, lA_, lZ_, lS_, i64_w, i32_w]
                 rfl
                refine one_ (i := 9) (N := none) #[true, true, true, true, true, true, true, true, true, true, false, false, false] rfl rfl (one_of HT_.out (by kernel_rfl)) (by decide) (fun K hK => ?_)
                have hs77 : w73.cell? ⟨gb490, 4, none⟩ = some (.int .i64 0) := (blk_cell BK490.out 4).trans rfl
                have hfs77 := blk_frozen BK490.out 4
                have hns77_0 := NB480_490.out
                have hms77_0 := NB490_480.out
                refine skip_ (w1 := ?_) (by rfl) rfl ?_ ?_
                rotate_left
                ·go_simp
                 rfl
                refine hK.out _ _ trivial (fun hHeld => ?_)
                clear hK K
                refine pure_ (i := 10) (N := some 65) (v := ?_) (a' := ?_) #[true, true, true, true, true, true, true, true, true, true, true, false, false] rfl rfl (any_of HT_.out (by kernel_rfl)) (fun _ _ _ h => h) (Or.inl ⟨by rfl, ?_⟩) ?_ ?_
                rotate_left
                ·intro w'
                 go_simp
                 with_reducible rfl
                rotate_left
                ·simp only [Act.put, lA_, lZ_, lS_, i64_w, i32_w]
                 rfl
                refine one_ (i := 11) (N := none) #[true, true, true, true, true, true, true, true, true, true, true, true, false] rfl rfl (one_of HT_.out (by kernel_rfl)) (by decide) (fun K hK => ?_)
                have hs78 : w73.cell? ⟨gb490, 5, none⟩ = some (.int .i64 0) := (blk_cell BK490.out 5).trans rfl
                have hfs78 := blk_frozen BK490.out 5
                have hns78_0 := NB480_490.out
                have hms78_0 := NB490_480.out
                refine skip_ (w1 := ?_) (by rfl) rfl ?_ ?_
                rotate_left
                ·go_simp
                 rfl
                refine hK.out _ _ trivial (fun hHeld => ?_)
                clear hK K
                refine pure_ (i := 12) (N := some 4) (v := ?_) (a' := ?_) #[true, true, true, true, true, true, true, true, true, true, true, true, true] rfl rfl (any_of HT_.out (by kernel_rfl)) (fun _ _ _ h => h) (Or.inl ⟨by rfl, ?_⟩) ?_ ?_
                rotate_left
                ·intro w'
                 go_simp
                 with_reducible rfl
                rotate_left
                ·simp only [Act.put, lA_, lZ_, lS_, i64_w, i32_w]
                 rfl
                refine done_ (done_of HT_.out (by kernel_rfl)) ?_
                try go_wp2_with (first | ((with_reducible refine gate_callee (f := 43) rfl ?_); refine goesL_ (some 71) rfl rfl Try.func43 (by kernel_rfl) rfl #[.slice A76 qv_.length ((c0 - 20) - 4)] rfl (by (try simp only [List.map_toArray, List.map_cons, List.map_nil]); first | done | (rw [show qv_.length = qv_.length from rfl] <;> rfl) | rfl | (simp only [List.length_drop, List.length_take]; rfl)) ?_; (with_reducible refine (slices_Clone_byte_byte.calls _ _ qv_ t499 _ ?side1 ?side2 A70.out).mono ?_); (case side1 => exact Kd.C_below HR498.out (by repeat (first | (with_reducible first | exact HB.out | apply below_alloc | apply pw_below_drewN | apply below_drew1 | refine below_set ?_ GE480.out | refine below_set ?_ GE490.out) | exact HB.out))); (case side2 => exact HC498.out); rintro e w79 ⟨v500, rfl, ho0, hb⟩; refine ⟨_, rfl, ?_⟩; have n0_ := Aside0.mk (Kd.R_lower ho0 (below_size (by repeat (first | (with_reducible first | exact HB.out | apply below_alloc | apply pw_below_drewN | apply below_drew1 | refine below_set ?_ GE480.out | refine below_set ?_ GE490.out) | exact HB.out)))); have n1_ := Aside0.mk (blk_below (g := gb480) (o := .cells #[.int .i64 x481000_15, .int .i64 x481001_15, .int .i64 x481002_15, .int .i64 x481003_15, .int .i64 x481004_15, .int .i64 x481005_15, .int .i64 x481006_15, .slice none 0 0] 36 (0, 0)) (by (with_reducible repeat (first | refine blk_drewN ?_ _ | refine blk_drew ?_ | refine blk_alloc ?_ _)); refine blk_far ?_ NB480_490.out _; (with_reducible repeat (first | refine blk_drewN ?_ _ | refine blk_drew ?_ | refine blk_alloc ?_ _)); refine blk_far ?_ NB480_490.out _; (with_reducible repeat (first | refine blk_drewN ?_ _ | refine blk_drew ?_ | refine blk_alloc ?_ _)); exact BK480.out) hb); have n2_ := Aside0.mk (blk_below (g := gb490) (o := .cells #[.int .i64 t485, .int .i64 t487, .int .i64 (wrap64 (rd l0 9)), .int .i64 (wrap64 (rd l0 8)), .int .i64 t495, .int .i64 t497, .slice none 0 0] 34 (0, 0)) (by (with_reducible repeat (first | refine blk_drewN ?_ _ | refine blk_drew ?_ | refine blk_alloc ?_ _)); refine blk_put (cs := #[.int .i64 t485, .int .i64 t487, .int .i64 (wrap64 (rd l0 9)), .int .i64 (wrap64 (rd l0 8)), .int .i64 t495, .int .i64 0, .slice none 0 0]) ?_ 5 _ rfl; (with_reducible repeat (first | refine blk_drewN ?_ _ | refine blk_drew ?_ | refine blk_alloc ?_ _)); refine blk_put (cs := #[.int .i64 t485, .int .i64 t487, .int .i64 (wrap64 (rd l0 9)), .int .i64 (wrap64 (rd l0 8)), .int .i64 0, .int .i64 0, .slice none 0 0]) ?_ 4 _ rfl; (with_reducible repeat (first | refine blk_drewN ?_ _ | refine blk_drew ?_ | refine blk_alloc ?_ _)); exact BK490.out) hb); have n3_ := Aside0.mk (below_step (by repeat (first | (with_reducible first | exact HB.out | apply below_alloc | apply pw_below_drewN | apply below_drew1 | refine below_set ?_ GE480.out | refine below_set ?_ GE490.out) | exact HB.out)) hb); clear BK480; clear BK490; clear HB; have HO501 := n0_; have BK480 := n1_; have BK490 := n2_; have HB := n3_; clear n0_ n1_ n2_ n3_; (try clear hb); (try clear hb2); (try clear hk); (try clear hi); (try clear ho0); obtain ⟨Ao80, co80, eo80⟩ := Kd.R_slice HO501.out; subst eo80; have hcz81_0 : w79.cell? ⟨gb490, 0, none⟩ = some (.int .i64 t485) := (blk_cell BK490.out 0).trans rfl; have hcz81_1 : w79.cell? ⟨gb490, 1, none⟩ = some (.int .i64 t487) := (blk_cell BK490.out 1).trans rfl; have hcz81_2 : w79.cell? ⟨gb490, 2, none⟩ = some (.int .i64 (wrap64 (rd l0 9))) := (blk_cell BK490.out 2).trans rfl; have hcz81_3 : w79.cell? ⟨gb490, 3, none⟩ = some (.int .i64 (wrap64 (rd l0 8))) := (blk_cell BK490.out 3).trans rfl; have hcz81_4 : w79.cell? ⟨gb490, 4, none⟩ = some (.int .i64 t495) := (blk_cell BK490.out 4).trans rfl; have hcz81_5 : w79.cell? ⟨gb490, 5, none⟩ = some (.int .i64 t497) := (blk_cell BK490.out 5).trans rfl; have hcz81_6 : w79.cell? ⟨gb490, 6, none⟩ = some (.slice none 0 0) := (blk_cell BK490.out 6).trans rfl; have hfz81_0 := blk_frozen BK490.out 0; have hfz81_1 := blk_frozen BK490.out 1; have hfz81_2 := blk_frozen BK490.out 2; have hfz81_3 := blk_frozen BK490.out 3; have hfz81_4 := blk_frozen BK490.out 4; have hfz81_5 := blk_frozen BK490.out 5; have hfz81_6 := blk_frozen BK490.out 6; have hcz82_0 : w79.cell? ⟨gb480, 0, none⟩ = some (.int .i64 x481000_15) := (blk_cell BK480.out 0).trans rfl; have hcz82_1 : w79.cell? ⟨gb480, 1, none⟩ = some (.int .i64 x481001_15) := (blk_cell BK480.out 1).trans rfl; have hcz82_2 : w79.cell? ⟨gb480, 2, none⟩ = some (.int .i64 x481002_15) := (blk_cell BK480.out 2).trans rfl; have hcz82_3 : w79.cell? ⟨gb480, 3, none⟩ = some (.int .i64 x481003_15) := (blk_cell BK480.out 3).trans rfl; have hcz82_4 : w79.cell? ⟨gb480, 4, none⟩ = some (.int .i64 x481004_15) := (blk_cell BK480.out 4).trans rfl; have hcz82_5 : w79.cell? ⟨gb480, 5, none⟩ = some (.int .i64 x481005_15) := (blk_cell BK480.out 5).trans rfl; have hcz82_6 : w79.cell? ⟨gb480, 6, none⟩ = some (.int .i64 x481006_15) := (blk_cell BK480.out 6).trans rfl; have hcz82_7 : w79.cell? ⟨gb480, 7, none⟩ = some (.slice none 0 0) := (blk_cell BK480.out 7).trans rfl; have hfz82_0 := blk_frozen BK480.out 0; have hfz82_1 := blk_frozen BK480.out 1; have hfz82_2 := blk_frozen BK480.out 2; have hfz82_3 := blk_frozen BK480.out 3; have hfz82_4 := blk_frozen BK480.out 4; have hfz82_5 := blk_frozen BK480.out 5; have hfz82_6 := blk_frozen BK480.out 6; have hfz82_7 := blk_frozen BK480.out 7))
                refine bodyPost_ret (results_cell_row rfl _ _ gb480 36 #[.int .i64 0, .int .i64 t485, .int .i64 t487, .int .i64 (wrap64 (rd l0 9)), .int .i64 (wrap64 (rd l0 8)), .int .i64 t495, .int .i64 t497, .slice Ao80 t499.length co80] (0, 0) _ rfl (by (with_reducible repeat (first | refine blk_drewN ?_ _ | refine blk_drew ?_ | refine blk_alloc ?_ _)); refine blk_put (cs := #[.int .i64 0, .int .i64 t485, .int .i64 t487, .int .i64 (wrap64 (rd l0 9)), .int .i64 (wrap64 (rd l0 8)), .int .i64 t495, .int .i64 t497, .slice none 0 0]) ?_ 7 _ rfl; (with_reducible repeat (first | refine blk_drewN ?_ _ | refine blk_drew ?_ | refine blk_alloc ?_ _)); refine blk_put (cs := #[.int .i64 0, .int .i64 t485, .int .i64 t487, .int .i64 (wrap64 (rd l0 9)), .int .i64 (wrap64 (rd l0 8)), .int .i64 t495, .int .i64 x481006_15, .slice none 0 0]) ?_ 6 _ rfl; (with_reducible repeat (first | refine blk_drewN ?_ _ | refine blk_drew ?_ | refine blk_alloc ?_ _)); refine blk_put (cs := #[.int .i64 0, .int .i64 t485, .int .i64 t487, .int .i64 (wrap64 (rd l0 9)), .int .i64 (wrap64 (rd l0 8)), .int .i64 x481005_15, .int .i64 x481006_15, .slice none 0 0]) ?_ 5 _ rfl; (with_reducible repeat (first | refine blk_drewN ?_ _ | refine blk_drew ?_ | refine blk_alloc ?_ _)); refine blk_put (cs := #[.int .i64 0, .int .i64 t485, .int .i64 t487, .int .i64 (wrap64 (rd l0 9)), .int .i64 x481004_15, .int .i64 x481005_15, .int .i64 x481006_15, .slice none 0 0]) ?_ 4 _ rfl; (with_reducible repeat (first | refine blk_drewN ?_ _ | refine blk_drew ?_ | refine blk_alloc ?_ _)); refine blk_put (cs := #[.int .i64 0, .int .i64 t485, .int .i64 t487, .int .i64 x481003_15, .int .i64 x481004_15, .int .i64 x481005_15, .int .i64 x481006_15, .slice none 0 0]) ?_ 3 _ rfl; (with_reducible repeat (first | refine blk_drewN ?_ _ | refine blk_drew ?_ | refine blk_alloc ?_ _)); refine blk_put (cs := #[.int .i64 0, .int .i64 t485, .int .i64 x481002_15, .int .i64 x481003_15, .int .i64 x481004_15, .int .i64 x481005_15, .int .i64 x481006_15, .slice none 0 0]) ?_ 2 _ rfl; (with_reducible repeat (first | refine blk_drewN ?_ _ | refine blk_drew ?_ | refine blk_alloc ?_ _)); refine blk_put (cs := #[.int .i64 0, .int .i64 x481001_15, .int .i64 x481002_15, .int .i64 x481003_15, .int .i64 x481004_15, .int .i64 x481005_15, .int .i64 x481006_15, .slice none 0 0]) ?_ 1 _ rfl; (with_reducible repeat (first | refine blk_drewN ?_ _ | refine blk_drew ?_ | refine blk_alloc ?_ _)); refine blk_put (cs := #[.int .i64 x481000_15, .int .i64 x481001_15, .int .i64 x481002_15, .int .i64 x481003_15, .int .i64 x481004_15, .int .i64 x481005_15, .int .i64 x481006_15, .slice none 0 0]) ?_ 0 _ rfl; (with_reducible repeat (first | refine blk_drewN ?_ _ | refine blk_drew ?_ | refine blk_alloc ?_ _)); refine blk_far ?_ NB480_490.out _; (with_reducible repeat (first | refine blk_drewN ?_ _ | refine blk_drew ?_ | refine blk_alloc ?_ _)); exact BK480.out) Try.underlying36 rfl (by kernel_rfl)) rfl ?_
                exact ⟨_, by first | rfl | (simp [errW_none, errW_some] <;> rfl) | (simp [*, errW_none, errW_some] <;> rfl), by (with_reducible repeat (first | apply Kd.R_alloc | apply Kd.R_drewN | apply Kd.R_drew)); exact Kd.R_mono (Kd.R_far (p := ⟨gb480, 7, none⟩) (Kd.R_far (p := ⟨gb480, 6, none⟩) (Kd.R_far (p := ⟨gb480, 5, none⟩) (Kd.R_far (p := ⟨gb480, 4, none⟩) (Kd.R_far (p := ⟨gb480, 3, none⟩) (Kd.R_far (p := ⟨gb480, 2, none⟩) (Kd.R_far (p := ⟨gb480, 1, none⟩) (Kd.R_far (p := ⟨gb480, 0, none⟩) (Kd.R_far (p := ⟨gb490, 6, none⟩) (Kd.R_types (Kd.R_types HO501.out BK490.out (by decide)) BK480.out (by decide)) (fun _ hk => hk.1.2) (.slice Ao80 t499.length co80)) (fun _ hk => hk.2) (.int .i64 0)) (fun _ hk => hk.2) (.int .i64 t485)) (fun _ hk => hk.2) (.int .i64 t487)) (fun _ hk => hk.2) (.int .i64 (wrap64 (rd l0 9)))) (fun _ hk => hk.2) (.int .i64 (wrap64 (rd l0 8)))) (fun _ hk => hk.2) (.int .i64 t495)) (fun _ hk => hk.2) (.int .i64 t497)) (fun _ hk => hk.2) (.slice Ao80 t499.length co80)) (fun _ hk => trivial), by repeat (first | (with_reducible first | exact HB.out | apply below_alloc | apply pw_below_drewN | apply below_drew1 | refine below_set ?_ GE480.out | refine below_set ?_ GE490.out) | exact HB.out)⟩
              ·rw [if_neg c57] at H
               exact absurd H (by simp)
             ·rw [if_neg c56] at H
              exact absurd H (by simp)
            ·rw [if_neg c54] at H
             exact absurd H (by simp)
           ·replace c53 := Bool.eq_false_iff.mpr c53
            subst c53
            rw [if_neg (show ¬ (false = true) by decide)] at H
            by_cases c83 : (pv_.length : Int) > 200
            ·rw [if_pos c83] at H
             have c83b0 : decide (200 < (pv_.length : Int)) = true := decide_eq_true c83
             have c83b1 : decide (200 < pv_.length) = true := decide_eq_true (by omega)
             clear c83
             simp only [Option.some.injEq, Prod.mk.injEq] at H
             obtain ⟨rfl, rfl, rfl, rfl, rfl, rfl, rfl, rfl⟩ := H
             have hnb84 := NB490_480.out
             have hnc84 := NB480_490.out
             have hcz85_0 : wc.cell? ⟨gb490, 0, none⟩ = some (.int .i64 t485) := (blk_cell BK490.out 0).trans rfl
             have hcz85_1 : wc.cell? ⟨gb490, 1, none⟩ = some (.int .i64 t487) := (blk_cell BK490.out 1).trans rfl
             have hcz85_2 : wc.cell? ⟨gb490, 2, none⟩ = some (.int .i64 (wrap64 (rd l0 9))) := (blk_cell BK490.out 2).trans rfl
             have hcz85_3 : wc.cell? ⟨gb490, 3, none⟩ = some (.int .i64 (wrap64 (rd l0 8))) := (blk_cell BK490.out 3).trans rfl
             have hcz85_4 : wc.cell? ⟨gb490, 4, none⟩ = some (.int .i64 0) := (blk_cell BK490.out 4).trans rfl
             have hcz85_5 : wc.cell? ⟨gb490, 5, none⟩ = some (.int .i64 0) := (blk_cell BK490.out 5).trans rfl
             have hcz85_6 : wc.cell? ⟨gb490, 6, none⟩ = some (.slice none 0 0) := (blk_cell BK490.out 6).trans rfl
             have hfz85_0 := blk_frozen BK490.out 0
             have hfz85_1 := blk_frozen BK490.out 1
             have hfz85_2 := blk_frozen BK490.out 2
             have hfz85_3 := blk_frozen BK490.out 3
             have hfz85_4 := blk_frozen BK490.out 4
             have hfz85_5 := blk_frozen BK490.out 5
             have hfz85_6 := blk_frozen BK490.out 6
             go_wp2_with (first | ((with_reducible refine gate_callee (f := 57) rfl ?_); refine goesL_ (some 55) rfl rfl Try.func57 (by kernel_rfl) rfl #[.int .i64 (wrap64 (rd l0 9))] rfl (by (try simp only [List.map_toArray, List.map_cons, List.map_nil]); first | done | rfl | (simp only [List.length_drop, List.length_take]; rfl)) ?_; (with_reducible refine (impl_HasPorts.calls (wrap64 (rd l0 9)) false _ A52.out).mono ?_); rintro e w' ⟨rfl, ⟨nd, rfl⟩⟩; refine ⟨_, rfl, ?_⟩; (try (rw [drewN_self wc]; generalize hq_ : World.drewN wc _ = wc; have n0_ : Aside0 (wc.heap[gb480]? = some (.cells #[.int .i64 x481000_15, .int .i64 x481001_15, .int .i64 x481002_15, .int .i64 x481003_15, .int .i64 x481004_15, .int .i64 x481005_15, .int .i64 x481006_15, .slice none 0 0] 36 (0, 0))) := ⟨by rw [← hq_]; exact (by (with_reducible repeat (first | refine blk_drewN ?_ _ | refine blk_drew ?_ | refine blk_alloc ?_ _)); exact BK480.out)⟩; have n1_ : Aside0 (wc.heap[gb490]? = some (.cells #[.int .i64 t485, .int .i64 t487, .int .i64 (wrap64 (rd l0 9)), .int .i64 (wrap64 (rd l0 8)), .int .i64 0, .int .i64 0, .slice none 0 0] 34 (0, 0))) := ⟨by rw [← hq_]; exact (by (with_reducible repeat (first | refine blk_drewN ?_ _ | refine blk_drew ?_ | refine blk_alloc ?_ _)); exact BK490.out)⟩; have n2_ : Aside0 (Below w.heap.size w wc) := ⟨by rw [← hq_]; exact (by repeat (first | (with_reducible first | exact HB.out | apply below_alloc | apply pw_below_drewN | apply below_drew1 | refine below_set ?_ GE480.out | refine below_set ?_ GE490.out) | exact HB.out))⟩; clear BK480 BK490 HB hq_; have BK480 := n0_; have BK490 := n1_; have HB := n2_; clear n0_ n1_ n2_)); have hcz86_0 : wc.cell? ⟨gb480, 0, none⟩ = some (.int .i64 x481000_15) := (blk_cell BK480.out 0).trans rfl; have hcz86_1 : wc.cell? ⟨gb480, 1, none⟩ = some (.int .i64 x481001_15) := (blk_cell BK480.out 1).trans rfl; have hcz86_2 : wc.cell? ⟨gb480, 2, none⟩ = some (.int .i64 x481002_15) := (blk_cell BK480.out 2).trans rfl; have hcz86_3 : wc.cell? ⟨gb480, 3, none⟩ = some (.int .i64 x481003_15) := (blk_cell BK480.out 3).trans rfl; have hcz86_4 : wc.cell? ⟨gb480, 4, none⟩ = some (.int .i64 x481004_15) := (blk_cell BK480.out 4).trans rfl; have hcz86_5 : wc.cell? ⟨gb480, 5, none⟩ = some (.int .i64 x481005_15) := (blk_cell BK480.out 5).trans rfl; have hcz86_6 : wc.cell? ⟨gb480, 6, none⟩ = some (.int .i64 x481006_15) := (blk_cell BK480.out 6).trans rfl; have hcz86_7 : wc.cell? ⟨gb480, 7, none⟩ = some (.slice none 0 0) := (blk_cell BK480.out 7).trans rfl; have hfz86_0 := blk_frozen BK480.out 0; have hfz86_1 := blk_frozen BK480.out 1; have hfz86_2 := blk_frozen BK480.out 2; have hfz86_3 := blk_frozen BK480.out 3; have hfz86_4 := blk_frozen BK480.out 4; have hfz86_5 := blk_frozen BK480.out 5; have hfz86_6 := blk_frozen BK480.out 6; have hfz86_7 := blk_frozen BK480.out 7))
             refine bodyPost_ret (results_cell_row rfl _ _ gb480 36 #[.int .i64 2, .int .i64 0, .int .i64 0, .int .i64 0, .int .i64 0, .int .i64 0, .int .i64 0, .slice none 0 0] (0, 0) _ rfl (by (with_reducible repeat (first | refine blk_drewN ?_ _ | refine blk_drew ?_ | refine blk_alloc ?_ _)); refine blk_put (cs := #[.int .i64 2, .int .i64 0, .int .i64 0, .int .i64 0, .int .i64 0, .int .i64 0, .int .i64 0, .slice none 0 0]) ?_ 7 _ rfl; (with_reducible repeat (first | refine blk_drewN ?_ _ | refine blk_drew ?_ | refine blk_alloc ?_ _)); refine blk_put (cs := #[.int .i64 2, .int .i64 0, .int .i64 0, .int .i64 0, .int .i64 0, .int .i64 0, .int .i64 x481006_15, .slice none 0 0]) ?_ 6 _ rfl; (with_reducible repeat (first | refine blk_drewN ?_ _ | refine blk_drew ?_ | refine blk_alloc ?_ _)); refine blk_put (cs := #[.int .i64 2, .int .i64 0, .int .i64 0, .int .i64 0, .int .i64 0, .int .i64 x481005_15, .int .i64 x481006_15, .slice none 0 0]) ?_ 5 _ rfl; (with_reducible repeat (first | refine blk_drewN ?_ _ | refine blk_drew ?_ | refine blk_alloc ?_ _)); refine blk_put (cs := #[.int .i64 2, .int .i64 0, .int .i64 0, .int .i64 0, .int .i64 x481004_15, .int .i64 x481005_15, .int .i64 x481006_15, .slice none 0 0]) ?_ 4 _ rfl; (with_reducible repeat (first | refine blk_drewN ?_ _ | refine blk_drew ?_ | refine blk_alloc ?_ _)); refine blk_put (cs := #[.int .i64 2, .int .i64 0, .int .i64 0, .int .i64 x481003_15, .int .i64 x481004_15, .int .i64 x481005_15, .int .i64 x481006_15, .slice none 0 0]) ?_ 3 _ rfl; (with_reducible repeat (first | refine blk_drewN ?_ _ | refine blk_drew ?_ | refine blk_alloc ?_ _)); refine blk_put (cs := #[.int .i64 2, .int .i64 0, .int .i64 x481002_15, .int .i64 x481003_15, .int .i64 x481004_15, .int .i64 x481005_15, .int .i64 x481006_15, .slice none 0 0]) ?_ 2 _ rfl; (with_reducible repeat (first | refine blk_drewN ?_ _ | refine blk_drew ?_ | refine blk_alloc ?_ _)); refine blk_put (cs := #[.int .i64 2, .int .i64 x481001_15, .int .i64 x481002_15, .int .i64 x481003_15, .int .i64 x481004_15, .int .i64 x481005_15, .int .i64 x481006_15, .slice none 0 0]) ?_ 1 _ rfl; (with_reducible repeat (first | refine blk_drewN ?_ _ | refine blk_drew ?_ | refine blk_alloc ?_ _)); refine blk_put (cs := #[.int .i64 x481000_15, .int .i64 x481001_15, .int .i64 x481002_15, .int .i64 x481003_15, .int .i64 x481004_15, .int .i64 x481005_15, .int .i64 x481006_15, .slice none 0 0]) ?_ 0 _ rfl; (with_reducible repeat (first | refine blk_drewN ?_ _ | refine blk_drew ?_ | refine blk_alloc ?_ _)); exact BK480.out) Try.underlying36 rfl (by kernel_rfl)) rfl ?_
             exact ⟨_, by first | rfl | (simp [errW_none, errW_some] <;> rfl) | (simp [*, errW_none, errW_some] <;> rfl), by first | exact Kd.R_nil _ _ _ _ _ | exact Kd.N_nil _ _ _ _ _ | exact Kd.V_nil _ _ _ _ _ | exact Kd.Q_nil _ _ _ _ _ | exact Kd.S_nil _ _ _ _ _, by repeat (first | (with_reducible first | exact HB.out | apply below_alloc | apply pw_below_drewN | apply below_drew1 | refine below_set ?_ GE480.out | refine below_set ?_ GE490.out) | exact HB.out)⟩
            ·rw [if_neg c83] at H
             have c83b0 : decide (200 < (pv_.length : Int)) = false := decide_eq_false c83
             have c83b1 : decide (200 < pv_.length) = false := decide_eq_false (by omega)
             clear c83
             replace H := Option.bind_eq_some_iff.mp H
             obtain ⟨t502, A870, H⟩ := H
             try dsimp only at H
             have A87 := Aside0.mk A870
             clear A870
             simp only [Option.some.injEq, Prod.mk.injEq] at H
             obtain ⟨rfl, rfl, rfl, rfl, rfl, rfl, rfl, rfl⟩ := H
             have hnb88 := NB490_480.out
             have hnc88 := NB480_490.out
             have hcz89_0 : wc.cell? ⟨gb490, 0, none⟩ = some (.int .i64 t485) := (blk_cell BK490.out 0).trans rfl
             have hcz89_1 : wc.cell? ⟨gb490, 1, none⟩ = some (.int .i64 t487) := (blk_cell BK490.out 1).trans rfl
             have hcz89_2 : wc.cell? ⟨gb490, 2, none⟩ = some (.int .i64 (wrap64 (rd l0 9))) := (blk_cell BK490.out 2).trans rfl
             have hcz89_3 : wc.cell? ⟨gb490, 3, none⟩ = some (.int .i64 (wrap64 (rd l0 8))) := (blk_cell BK490.out 3).trans rfl
             have hcz89_4 : wc.cell? ⟨gb490, 4, none⟩ = some (.int .i64 0) := (blk_cell BK490.out 4).trans rfl
             have hcz89_5 : wc.cell? ⟨gb490, 5, none⟩ = some (.int .i64 0) := (blk_cell BK490.out 5).trans rfl
             have hcz89_6 : wc.cell? ⟨gb490, 6, none⟩ = some (.slice none 0 0) := (blk_cell BK490.out 6).trans rfl
             have hfz89_0 := blk_frozen BK490.out 0
             have hfz89_1 := blk_frozen BK490.out 1
             have hfz89_2 := blk_frozen BK490.out 2
             have hfz89_3 := blk_frozen BK490.out 3
             have hfz89_4 := blk_frozen BK490.out 4
             have hfz89_5 := blk_frozen BK490.out 5
             have hfz89_6 := blk_frozen BK490.out 6
             go_wp2_with (first | ((with_reducible refine gate_callee (f := 57) rfl ?_); refine goesL_ (some 55) rfl rfl Try.func57 (by kernel_rfl) rfl #[.int .i64 (wrap64 (rd l0 9))] rfl (by (try simp only [List.map_toArray, List.map_cons, List.map_nil]); first | done | rfl | (simp only [List.length_drop, List.length_take]; rfl)) ?_; (with_reducible refine (impl_HasPorts.calls (wrap64 (rd l0 9)) false _ A52.out).mono ?_); rintro e w' ⟨rfl, ⟨nd, rfl⟩⟩; refine ⟨_, rfl, ?_⟩; (try (rw [drewN_self wc]; generalize hq_ : World.drewN wc _ = wc; have n0_ : Aside0 (wc.heap[gb480]? = some (.cells #[.int .i64 x481000_15, .int .i64 x481001_15, .int .i64 x481002_15, .int .i64 x481003_15, .int .i64 x481004_15, .int .i64 x481005_15, .int .i64 x481006_15, .slice none 0 0] 36 (0, 0))) := ⟨by rw [← hq_]; exact (by (with_reducible repeat (first | refine blk_drewN ?_ _ | refine blk_drew ?_ | refine blk_alloc ?_ _)); exact BK480.out)⟩; have n1_ : Aside0 (wc.heap[gb490]? = some (.cells #[.int .i64 t485, .int .i64 t487, .int .i64 (wrap64 (rd l0 9)), .int .i64 (wrap64 (rd l0 8)), .int .i64 0, .int .i64 0, .slice none 0 0] 34 (0, 0))) := ⟨by rw [← hq_]; exact (by (with_reducible repeat (first | refine blk_drewN ?_ _ | refine blk_drew ?_ | refine blk_alloc ?_ _)); exact BK490.out)⟩; have n2_ : Aside0 (Below w.heap.size w wc) := ⟨by rw [← hq_]; exact (by repeat (first | (with_reducible first | exact HB.out | apply below_alloc | apply pw_below_drewN | apply below_drew1 | refine below_set ?_ GE480.out | refine below_set ?_ GE490.out) | exact HB.out))⟩; clear BK480 BK490 HB hq_; have BK480 := n0_; have BK490 := n1_; have HB := n2_; clear n0_ n1_ n2_))) | ((with_reducible refine gate_callee (f := 43) rfl ?_); refine goesL_ (some 71) rfl rfl Try.func43 (by kernel_rfl) rfl #[.slice A32 pv_.length (c0 - 20)] rfl (by (try simp only [List.map_toArray, List.map_cons, List.map_nil]); first | done | (rw [show pv_.length = pv_.length from rfl] <;> rfl) | rfl | (simp only [List.length_drop, List.length_take]; rfl)) ?_; (with_reducible refine (slices_Clone_byte_byte.calls _ _ pv_ t502 _ ?side1 ?side2 A87.out).mono ?_); (case side1 => repeat (first | exact (Kd.C_below HR491.out HB.out) | (with_reducible refine Kd.C_alloc ?_ _) | (with_reducible refine Kd.C_drewN ?_ _) | (with_reducible refine Kd.C_drew ?_))); (case side2 => exact HC491.out); rintro e w90 ⟨v503, rfl, ho0, hb⟩; refine ⟨_, rfl, ?_⟩; have n0_ := Aside0.mk (Kd.R_lower ho0 (below_size (by repeat (first | (with_reducible first | exact HB.out | apply below_alloc | apply pw_below_drewN | apply below_drew1 | refine below_set ?_ GE480.out | refine below_set ?_ GE490.out) | exact HB.out)))); have n1_ := Aside0.mk (blk_below (g := gb480) (o := .cells #[.int .i64 x481000_15, .int .i64 x481001_15, .int .i64 x481002_15, .int .i64 x481003_15, .int .i64 x481004_15, .int .i64 x481005_15, .int .i64 x481006_15, .slice none 0 0] 36 (0, 0)) (by (with_reducible repeat (first | refine blk_drewN ?_ _ | refine blk_drew ?_ | refine blk_alloc ?_ _)); exact BK480.out) hb); have n2_ := Aside0.mk (blk_below (g := gb490) (o := .cells #[.int .i64 t485, .int .i64 t487, .int .i64 (wrap64 (rd l0 9)), .int .i64 (wrap64 (rd l0 8)), .int .i64 0, .int .i64 0, .slice none 0 0] 34 (0, 0)) (by (with_reducible repeat (first | refine blk_drewN ?_ _ | refine blk_drew ?_ | refine blk_alloc ?_ _)); exact BK490.out) hb); have n3_ := Aside0.mk (below_step (by repeat (first | (with_reducible first | exact HB.out | apply below_alloc | apply pw_below_drewN | apply below_drew1 | refine below_set ?_ GE480.out | refine below_set ?_ GE490.out) | exact HB.out)) hb); clear BK480; clear BK490; clear HB; have HO504 := n0_; have BK480 := n1_; have BK490 := n2_; have HB := n3_; clear n0_ n1_ n2_ n3_; (try clear hb); (try clear hb2); (try clear hk); (try clear hi); (try clear ho0); obtain ⟨Ao91, co91, eo91⟩ := Kd.R_slice HO504.out; subst eo91; have hcz92_0 : w90.cell? ⟨gb490, 0, none⟩ = some (.int .i64 t485) := (blk_cell BK490.out 0).trans rfl; have hcz92_1 : w90.cell? ⟨gb490, 1, none⟩ = some (.int .i64 t487) := (blk_cell BK490.out 1).trans rfl; have hcz92_2 : w90.cell? ⟨gb490, 2, none⟩ = some (.int .i64 (wrap64 (rd l0 9))) := (blk_cell BK490.out 2).trans rfl; have hcz92_3 : w90.cell? ⟨gb490, 3, none⟩ = some (.int .i64 (wrap64 (rd l0 8))) := (blk_cell BK490.out 3).trans rfl; have hcz92_4 : w90.cell? ⟨gb490, 4, none⟩ = some (.int .i64 0) := (blk_cell BK490.out 4).trans rfl; have hcz92_5 : w90.cell? ⟨gb490, 5, none⟩ = some (.int .i64 0) := (blk_cell BK490.out 5).trans rfl; have hcz92_6 : w90.cell? ⟨gb490, 6, none⟩ = some (.slice none 0 0) := (blk_cell BK490.out 6).trans rfl; have hfz92_0 := blk_frozen BK490.out 0; have hfz92_1 := blk_frozen BK490.out 1; have hfz92_2 := blk_frozen BK490.out 2; have hfz92_3 := blk_frozen BK490.out 3; have hfz92_4 := blk_frozen BK490.out 4; have hfz92_5 := blk_frozen BK490.out 5; have hfz92_6 := blk_frozen BK490.out 6; have hcz93_0 : w90.cell? ⟨gb480, 0, none⟩ = some (.int .i64 x481000_15) := (blk_cell BK480.out 0).trans rfl; have hcz93_1 : w90.cell? ⟨gb480, 1, none⟩ = some (.int .i64 x481001_15) := (blk_cell BK480.out 1).trans rfl; have hcz93_2 : w90.cell? ⟨gb480, 2, none⟩ = some (.int .i64 x481002_15) := (blk_cell BK480.out 2).trans rfl; have hcz93_3 : w90.cell? ⟨gb480, 3, none⟩ = some (.int .i64 x481003_15) := (blk_cell BK480.out 3).trans rfl; have hcz93_4 : w90.cell? ⟨gb480, 4, none⟩ = some (.int .i64 x481004_15) := (blk_cell BK480.out 4).trans rfl; have hcz93_5 : w90.cell? ⟨gb480, 5, none⟩ = some (.int .i64 x481005_15) := (blk_cell BK480.out 5).trans rfl; have hcz93_6 : w90.cell? ⟨gb480, 6, none⟩ = some (.int .i64 x481006_15) := (blk_cell BK480.out 6).trans rfl; have hcz93_7 : w90.cell? ⟨gb480, 7, none⟩ = some (.slice none 0 0) := (blk_cell BK480.out 7).trans rfl; have hfz93_0 := blk_frozen BK480.out 0; have hfz93_1 := blk_frozen BK480.out 1; have hfz93_2 := blk_frozen BK480.out 2; have hfz93_3 := blk_frozen BK480.out 3; have hfz93_4 := blk_frozen BK480.out 4; have hfz93_5 := blk_frozen BK480.out 5; have hfz93_6 := blk_frozen BK480.out 6; have hfz93_7 := blk_frozen BK480.out 7))
             refine bodyPost_ret (results_cell_row rfl _ _ gb480 36 #[.int .i64 0, .int .i64 t485, .int .i64 t487, .int .i64 (wrap64 (rd l0 9)), .int .i64 (wrap64 (rd l0 8)), .int .i64 0, .int .i64 0, .slice Ao91 t502.length co91] (0, 0) _ rfl (by (with_reducible repeat (first | refine blk_drewN ?_ _ | refine blk_drew ?_ | refine blk_alloc ?_ _)); refine blk_put (cs := #[.int .i64 0, .int .i64 t485, .int .i64 t487, .int .i64 (wrap64 (rd l0 9)), .int .i64 (wrap64 (rd l0 8)), .int .i64 0, .int .i64 0, .slice none 0 0]) ?_ 7 _ rfl; (with_reducible repeat (first | refine blk_drewN ?_ _ | refine blk_drew ?_ | refine blk_alloc ?_ _)); refine blk_put (cs := #[.int .i64 0, .int .i64 t485, .int .i64 t487, .int .i64 (wrap64 (rd l0 9)), .int .i64 (wrap64 (rd l0 8)), .int .i64 0, .int .i64 x481006_15, .slice none 0 0]) ?_ 6 _ rfl; (with_reducible repeat (first | refine blk_drewN ?_ _ | refine blk_drew ?_ | refine blk_alloc ?_ _)); refine blk_put (cs := #[.int .i64 0, .int .i64 t485, .int .i64 t487, .int .i64 (wrap64 (rd l0 9)), .int .i64 (wrap64 (rd l0 8)), .int .i64 x481005_15, .int .i64 x481006_15, .slice none 0 0]) ?_ 5 _ rfl; (with_reducible repeat (first | refine blk_drewN ?_ _ | refine blk_drew ?_ | refine blk_alloc ?_ _)); refine blk_put (cs := #[.int .i64 0, .int .i64 t485, .int .i64 t487, .int .i64 (wrap64 (rd l0 9)), .int .i64 x481004_15, .int .i64 x481005_15, .int .i64 x481006_15, .slice none 0 0]) ?_ 4 _ rfl; (with_reducible repeat (first | refine blk_drewN ?_ _ | refine blk_drew ?_ | refine blk_alloc ?_ _)); refine blk_put (cs := #[.int .i64 0, .int .i64 t485, .int .i64 t487, .int .i64 x481003_15, .int .i64 x481004_15, .int .i64 x481005_15, .int .i64 x481006_15, .slice none 0 0]) ?_ 3 _ rfl; (with_reducible repeat (first | refine blk_drewN ?_ _ | refine blk_drew ?_ | refine blk_alloc ?_ _)); refine blk_put (cs := #[.int .i64 0, .int .i64 t485, .int .i64 x481002_15, .int .i64 x481003_15, .int .i64 x481004_15, .int .i64 x481005_15, .int .i64 x481006_15, .slice none 0 0]) ?_ 2 _ rfl; (with_reducible repeat (first | refine blk_drewN ?_ _ | refine blk_drew ?_ | refine blk_alloc ?_ _)); refine blk_put (cs := #[.int .i64 0, .int .i64 x481001_15, .int .i64 x481002_15, .int .i64 x481003_15, .int .i64 x481004_15, .int .i64 x481005_15, .int .i64 x481006_15, .slice none 0 0]) ?_ 1 _ rfl; (with_reducible repeat (first | refine blk_drewN ?_ _ | refine blk_drew ?_ | refine blk_alloc ?_ _)); refine blk_put (cs := #[.int .i64 x481000_15, .int .i64 x481001_15, .int .i64 x481002_15, .int .i64 x481003_15, .int .i64 x481004_15, .int .i64 x481005_15, .int .i64 x481006_15, .slice none 0 0]) ?_ 0 _ rfl; (with_reducible repeat (first | refine blk_drewN ?_ _ | refine blk_drew ?_ | refine blk_alloc ?_ _)); refine blk_far ?_ NB480_490.out _; (with_reducible repeat (first | refine blk_drewN ?_ _ | refine blk_drew ?_ | refine blk_alloc ?_ _)); exact BK480.out) Try.underlying36 rfl (by kernel_rfl)) rfl ?_
             exact ⟨_, by first | rfl | (simp [errW_none, errW_some] <;> rfl) | (simp [*, errW_none, errW_some] <;> rfl), by (with_reducible repeat (first | apply Kd.R_alloc | apply Kd.R_drewN | apply Kd.R_drew)); exact Kd.R_mono (Kd.R_far (p := ⟨gb480, 7, none⟩) (Kd.R_far (p := ⟨gb480, 6, none⟩) (Kd.R_far (p := ⟨gb480, 5, none⟩) (Kd.R_far (p := ⟨gb480, 4, none⟩) (Kd.R_far (p := ⟨gb480, 3, none⟩) (Kd.R_far (p := ⟨gb480, 2, none⟩) (Kd.R_far (p := ⟨gb480, 1, none⟩) (Kd.R_far (p := ⟨gb480, 0, none⟩) (Kd.R_far (p := ⟨gb490, 6, none⟩) (Kd.R_types (Kd.R_types HO504.out BK490.out (by decide)) BK480.out (by decide)) (fun _ hk => hk.1.2) (.slice Ao91 t502.length co91)) (fun _ hk => hk.2) (.int .i64 0)) (fun _ hk => hk.2) (.int .i64 t485)) (fun _ hk => hk.2) (.int .i64 t487)) (fun _ hk => hk.2) (.int .i64 (wrap64 (rd l0 9)))) (fun _ hk => hk.2) (.int .i64 (wrap64 (rd l0 8)))) (fun _ hk => hk.2) (.int .i64 0)) (fun _ hk => hk.2) (.int .i64 0)) (fun _ hk => hk.2) (.slice Ao91 t502.length co91)) (fun _ hk => trivial), by repeat (first | (with_reducible first | exact HB.out | apply below_alloc | apply pw_below_drewN | apply below_drew1 | refine below_set ?_ GE480.out | refine below_set ?_ GE490.out) | exact HB.out)⟩
        ·rw [if_neg c14] at H
         exact absurd H (by simp)
       ·rw [if_neg c13] at H
        exact absurd H (by simp)
      ·rw [if_neg c10] at H
       exact absurd H (by simp)
     ·rw [if_neg c8] at H
      exact absurd H (by simp)
    ·rw [if_neg c7] at H
     exact absurd H (by simp)
   ·replace c6 := Bool.eq_false_iff.mpr c6
    subst c6
    rw [if_neg (show ¬ (false = true) by decide)] at H
    simp only [Option.some.injEq, Prod.mk.injEq] at H
    obtain ⟨rfl, rfl, rfl, rfl, rfl, rfl, rfl, rfl⟩ := H
    go_enter Try.func17, Try.ntmps17
    go_wp2_with (first | ((with_reducible refine gate_dst (N := 2) rfl ?_); (try (refine gate_guard (by rfl) ?_; dsimp only)); refine box_event ?hg (N := 2) ?hd (cs := #[.int .i64 0, .int .i64 0, .int .i64 0, .int .i64 0, .int .i64 0, .int .i64 0, .int .i64 0, .slice none 0 0]) (t := 36) ?hr ?_; (case hd => rfl); (case hg => rfl); (case hr => first | (go_simp; done) | (go_simp; rfl)); intro gb480 hg w94 hbox hb; have n0_ := Aside0.mk (below_step (by repeat (first | (with_reducible first | exact HB.out | apply below_alloc | apply pw_below_drewN | apply below_drew1) | exact HB.out)) hb); have n1_ := Aside0.mk (hbox); have n2_ := Aside0.mk ((by rw [hg]; exact (below_size (by repeat (first | (with_reducible first | exact HB.out | apply below_alloc | apply pw_below_drewN | apply below_drew1) | exact HB.out))) : w.heap.size ≤ gb480)); have n3_ := Aside0.mk ((by rw [hg]; exact (below_size (by repeat (first | (with_reducible first | exact HB.out | apply below_alloc | apply pw_below_drewN | apply below_drew1) | exact HB.out))) : w.heap.size ≤ gb480)); clear HB; have HB := n0_; have BK480 := n1_; have GW480 := n2_; have GE480 := n3_; clear n0_ n1_ n2_ n3_; clear hb hbox hg) | ((with_reducible refine gate_callee (f := 56) rfl ?_); refine goesL_ (some 7) rfl rfl Try.func56 (by kernel_rfl) rfl #[.slice A0 l0.length c0] rfl (by (try simp only [List.map_toArray, List.map_cons, List.map_nil]); first | done | rfl | (simp only [List.length_drop, List.length_take]; rfl)) ?_; (with_reducible refine (impl_headOk.calls k _ _ l0 true _ ?side1 ?side2 A2.out).mono ?_); (case side1 => repeat (first | exact (Kd.C_below HR0.out HB.out) | (with_reducible refine Kd.C_alloc ?_ _) | (with_reducible refine Kd.C_drewN ?_ _) | (with_reducible refine Kd.C_drew ?_))); (case side2 => exact HC0.out); rintro e w95 ⟨rfl, hb⟩; refine ⟨_, rfl, ?_⟩; have n0_ := Aside0.mk (blk_below (g := gb480) (o := .cells #[.int .i64 0, .int .i64 0, .int .i64 0, .int .i64 0, .int .i64 0, .int .i64 0, .int .i64 0, .slice none 0 0] 36 (0, 0)) (by (with_reducible repeat (first | refine blk_drewN ?_ _ | refine blk_drew ?_ | refine blk_alloc ?_ _)); exact BK480.out) hb); have n1_ := Aside0.mk (below_step (by repeat (first | (with_reducible first | exact HB.out | apply below_alloc | apply pw_below_drewN | apply below_drew1 | refine below_set ?_ GE480.out) | exact HB.out)) hb); clear BK480; clear HB; have BK480 := n0_; have HB := n1_; clear n0_ n1_; (try clear hb); (try clear hb2); (try clear hk); (try clear hi); obtain ⟨i096, hi096, _, hsz96, _⟩ := info_parts info5; obtain ⟨hcut96, hA96, hC96⟩ := print_take_of (P := Try.prog) (Value.int .u8) 0 22 5 .i64 Try.underlying22 hi096 hsz96 A0 c0 l0 20 (by omega) (of_decide_eq_true (by first | (with_reducible assumption) | assumption)) HC0.out; have HR482 := Aside0.mk (Kd.C_of_reads (h1 := fun _ => rfl) (hA96 _ (Kd.reads_of_C HR0.out))); have HC482 := Aside0.mk hC96; clear hA96 hC96 hi096 hsz96) | ((with_reducible refine gate_callee (f := 36) rfl ?_); refine goesL_ (some 13) rfl rfl Try.func36 (by kernel_rfl) rfl #[.slice A0 (l0.take 20).length c0] rfl (by (try simp only [List.map_toArray, List.map_cons, List.map_nil]); first | done | (rw [show (l0.take 20).length = 20 from (by rw [List.length_take]; have h_ : (20 : Int) ≤ (l0.length : Int) := of_decide_eq_true (by first | (with_reducible assumption) | assumption); omega)] <;> rfl) | rfl | (simp only [List.length_drop, List.length_take]; rfl)) ?_; (with_reducible refine (impl_CheckWords.calls k _ _ (l0.take 20) false _ ?side1 ?side2 A5.out).mono ?_); (case side1 => repeat (first | exact (Kd.C_below HR482.out HB.out) | (with_reducible refine Kd.C_alloc ?_ _) | (with_reducible refine Kd.C_drewN ?_ _) | (with_reducible refine Kd.C_drew ?_))); (case side2 => exact HC482.out); rintro e w' ⟨rfl, ⟨nd, rfl⟩⟩; refine ⟨_, rfl, ?_⟩; (try (rw [drewN_self w95]; generalize hq_ : World.drewN w95 _ = w95; have n0_ : Aside0 (w95.heap[gb480]? = some (.cells #[.int .i64 0, .int .i64 0, .int .i64 0, .int .i64 0, .int .i64 0, .int .i64 0, .int .i64 0, .slice none 0 0] 36 (0, 0))) := ⟨by rw [← hq_]; exact (by (with_reducible repeat (first | refine blk_drewN ?_ _ | refine blk_drew ?_ | refine blk_alloc ?_ _)); exact BK480.out)⟩; have n1_ : Aside0 (Below w.heap.size w w95) := ⟨by rw [← hq_]; exact (by repeat (first | (with_reducible first | exact HB.out | apply below_alloc | apply pw_below_drewN | apply below_drew1 | refine below_set ?_ GE480.out) | exact HB.out))⟩; clear BK480 HB hq_; have BK480 := n0_; have HB := n1_; clear n0_ n1_)); have hcz97_0 : w95.cell? ⟨gb480, 0, none⟩ = some (.int .i64 0) := (blk_cell BK480.out 0).trans rfl; have hcz97_1 : w95.cell? ⟨gb480, 1, none⟩ = some (.int .i64 0) := (blk_cell BK480.out 1).trans rfl; have hcz97_2 : w95.cell? ⟨gb480, 2, none⟩ = some (.int .i64 0) := (blk_cell BK480.out 2).trans rfl; have hcz97_3 : w95.cell? ⟨gb480, 3, none⟩ = some (.int .i64 0) := (blk_cell BK480.out 3).trans rfl; have hcz97_4 : w95.cell? ⟨gb480, 4, none⟩ = some (.int .i64 0) := (blk_cell BK480.out 4).trans rfl; have hcz97_5 : w95.cell? ⟨gb480, 5, none⟩ = some (.int .i64 0) := (blk_cell BK480.out 5).trans rfl; have hcz97_6 : w95.cell? ⟨gb480, 6, none⟩ = some (.int .i64 0) := (blk_cell BK480.out 6).trans rfl; have hcz97_7 : w95.cell? ⟨gb480, 7, none⟩ = some (.slice none 0 0) := (blk_cell BK480.out 7).trans rfl; have hfz97_0 := blk_frozen BK480.out 0; have hfz97_1 := blk_frozen BK480.out 1; have hfz97_2 := blk_frozen BK480.out 2; have hfz97_3 := blk_frozen BK480.out 3; have hfz97_4 := blk_frozen BK480.out 4; have hfz97_5 := blk_frozen BK480.out 5; have hfz97_6 := blk_frozen BK480.out 6; have hfz97_7 := blk_frozen BK480.out 7))
    refine bodyPost_ret (results_cell_row rfl _ _ gb480 36 #[.int .i64 6, .int .i64 0, .int .i64 0, .int .i64 0, .int .i64 0, .int .i64 0, .int .i64 0, .slice none 0 0] (0, 0) _ rfl (by (with_reducible repeat (first | refine blk_drewN ?_ _ | refine blk_drew ?_ | refine blk_alloc ?_ _)); refine blk_put (cs := #[.int .i64 6, .int .i64 0, .int .i64 0, .int .i64 0, .int .i64 0, .int .i64 0, .int .i64 0, .slice none 0 0]) ?_ 7 _ rfl; (with_reducible repeat (first | refine blk_drewN ?_ _ | refine blk_drew ?_ | refine blk_alloc ?_ _)); refine blk_put (cs := #[.int .i64 6, .int .i64 0, .int .i64 0, .int .i64 0, .int .i64 0, .int .i64 0, .int .i64 0, .slice none 0 0]) ?_ 6 _ rfl; (with_reducible repeat (first | refine blk_drewN ?_ _ | refine blk_drew ?_ | refine blk_alloc ?_ _)); refine blk_put (cs := #[.int .i64 6, .int .i64 0, .int .i64 0, .int .i64 0, .int .i64 0, .int .i64 0, .int .i64 0, .slice none 0 0]) ?_ 5 _ rfl; (with_reducible repeat (first | refine blk_drewN ?_ _ | refine blk_drew ?_ | refine blk_alloc ?_ _)); refine blk_put (cs := #[.int .i64 6, .int .i64 0, .int .i64 0, .int .i64 0, .int .i64 0, .int .i64 0, .int .i64 0, .slice none 0 0]) ?_ 4 _ rfl; (with_reducible repeat (first | refine blk_drewN ?_ _ | refine blk_drew ?_ | refine blk_alloc ?_ _)); refine blk_put (cs := #[.int .i64 6, .int .i64 0, .int .i64 0, .int .i64 0, .int .i64 0, .int .i64 0, .int .i64 0, .slice none 0 0]) ?_ 3 _ rfl; (with_reducible repeat (first | refine blk_drewN ?_ _ | refine blk_drew ?_ | refine blk_alloc ?_ _)); refine blk_put (cs := #[.int .i64 6, .int .i64 0, .int .i64 0, .int .i64 0, .int .i64 0, .int .i64 0, .int .i64 0, .slice none 0 0]) ?_ 2 _ rfl; (with_reducible repeat (first | refine blk_drewN ?_ _ | refine blk_drew ?_ | refine blk_alloc ?_ _)); refine blk_put (cs := #[.int .i64 6, .int .i64 0, .int .i64 0, .int .i64 0, .int .i64 0, .int .i64 0, .int .i64 0, .slice none 0 0]) ?_ 1 _ rfl; (with_reducible repeat (first | refine blk_drewN ?_ _ | refine blk_drew ?_ | refine blk_alloc ?_ _)); refine blk_put (cs := #[.int .i64 0, .int .i64 0, .int .i64 0, .int .i64 0, .int .i64 0, .int .i64 0, .int .i64 0, .slice none 0 0]) ?_ 0 _ rfl; (with_reducible repeat (first | refine blk_drewN ?_ _ | refine blk_drew ?_ | refine blk_alloc ?_ _)); exact BK480.out) Try.underlying36 rfl (by kernel_rfl)) rfl ?_
    exact ⟨_, by first | rfl | (simp [errW_none, errW_some] <;> rfl) | (simp [*, errW_none, errW_some] <;> rfl), by first | exact Kd.R_nil _ _ _ _ _ | exact Kd.N_nil _ _ _ _ _ | exact Kd.V_nil _ _ _ _ _ | exact Kd.Q_nil _ _ _ _ _ | exact Kd.S_nil _ _ _ _ _, by repeat (first | (with_reducible first | exact HB.out | apply below_alloc | apply pw_below_drewN | apply below_drew1 | refine below_set ?_ GE480.out) | exact HB.out)⟩
  ·rw [if_neg c4] at H
   exact absurd H (by simp)
 ·replace c3 := Bool.eq_false_iff.mpr c3
  subst c3
  rw [if_neg (show ¬ (false = true) by decide)] at H
  simp only [Option.some.injEq, Prod.mk.injEq] at H
  obtain ⟨rfl, rfl, rfl, rfl, rfl, rfl, rfl, rfl⟩ := H
  go_enter Try.func17, Try.ntmps17
  go_wp2_with (first | ((with_reducible refine gate_dst (N := 2) rfl ?_); (try (refine gate_guard (by rfl) ?_; dsimp only)); refine box_event ?hg (N := 2) ?hd (cs := #[.int .i64 0, .int .i64 0, .int .i64 0, .int .i64 0, .int .i64 0, .int .i64 0, .int .i64 0, .slice none 0 0]) (t := 36) ?hr ?_; (case hd => rfl); (case hg => rfl); (case hr => first | (go_simp; done) | (go_simp; rfl)); intro gb480 hg w98 hbox hb; have n0_ := Aside0.mk (below_step (by repeat (first | (with_reducible first | exact HB.out | apply below_alloc | apply pw_below_drewN | apply below_drew1) | exact HB.out)) hb); have n1_ := Aside0.mk (hbox); have n2_ := Aside0.mk ((by rw [hg]; exact (below_size (by repeat (first | (with_reducible first | exact HB.out | apply below_alloc | apply pw_below_drewN | apply below_drew1) | exact HB.out))) : w.heap.size ≤ gb480)); have n3_ := Aside0.mk ((by rw [hg]; exact (below_size (by repeat (first | (with_reducible first | exact HB.out | apply below_alloc | apply pw_below_drewN | apply below_drew1) | exact HB.out))) : w.heap.size ≤ gb480)); clear HB; have HB := n0_; have BK480 := n1_; have GW480 := n2_; have GE480 := n3_; clear n0_ n1_ n2_ n3_; clear hb hbox hg) | ((with_reducible refine gate_callee (f := 56) rfl ?_); refine goesL_ (some 7) rfl rfl Try.func56 (by kernel_rfl) rfl #[.slice A0 l0.length c0] rfl (by (try simp only [List.map_toArray, List.map_cons, List.map_nil]); first | done | rfl | (simp only [List.length_drop, List.length_take]; rfl)) ?_; (with_reducible refine (impl_headOk.calls k _ _ l0 false _ ?side1 ?side2 A2.out).mono ?_); (case side1 => repeat (first | exact (Kd.C_below HR0.out HB.out) | (with_reducible refine Kd.C_alloc ?_ _) | (with_reducible refine Kd.C_drewN ?_ _) | (with_reducible refine Kd.C_drew ?_))); (case side2 => exact HC0.out); rintro e w99 ⟨rfl, hb⟩; refine ⟨_, rfl, ?_⟩; have n0_ := Aside0.mk (blk_below (g := gb480) (o := .cells #[.int .i64 0, .int .i64 0, .int .i64 0, .int .i64 0, .int .i64 0, .int .i64 0, .int .i64 0, .slice none 0 0] 36 (0, 0)) (by (with_reducible repeat (first | refine blk_drewN ?_ _ | refine blk_drew ?_ | refine blk_alloc ?_ _)); exact BK480.out) hb); have n1_ := Aside0.mk (below_step (by repeat (first | (with_reducible first | exact HB.out | apply below_alloc | apply pw_below_drewN | apply below_drew1 | refine below_set ?_ GE480.out) | exact HB.out)) hb); clear BK480; clear HB; have BK480 := n0_; have HB := n1_; clear n0_ n1_; (try clear hb); (try clear hb2); (try clear hk); (try clear hi); have hcz100_0 : w99.cell? ⟨gb480, 0, none⟩ = some (.int .i64 0) := (blk_cell BK480.out 0).trans rfl; have hcz100_1 : w99.cell? ⟨gb480, 1, none⟩ = some (.int .i64 0) := (blk_cell BK480.out 1).trans rfl; have hcz100_2 : w99.cell? ⟨gb480, 2, none⟩ = some (.int .i64 0) := (blk_cell BK480.out 2).trans rfl; have hcz100_3 : w99.cell? ⟨gb480, 3, none⟩ = some (.int .i64 0) := (blk_cell BK480.out 3).trans rfl; have hcz100_4 : w99.cell? ⟨gb480, 4, none⟩ = some (.int .i64 0) := (blk_cell BK480.out 4).trans rfl; have hcz100_5 : w99.cell? ⟨gb480, 5, none⟩ = some (.int .i64 0) := (blk_cell BK480.out 5).trans rfl; have hcz100_6 : w99.cell? ⟨gb480, 6, none⟩ = some (.int .i64 0) := (blk_cell BK480.out 6).trans rfl; have hcz100_7 : w99.cell? ⟨gb480, 7, none⟩ = some (.slice none 0 0) := (blk_cell BK480.out 7).trans rfl; have hfz100_0 := blk_frozen BK480.out 0; have hfz100_1 := blk_frozen BK480.out 1; have hfz100_2 := blk_frozen BK480.out 2; have hfz100_3 := blk_frozen BK480.out 3; have hfz100_4 := blk_frozen BK480.out 4; have hfz100_5 := blk_frozen BK480.out 5; have hfz100_6 := blk_frozen BK480.out 6; have hfz100_7 := blk_frozen BK480.out 7))
  refine bodyPost_ret (results_cell_row rfl _ _ gb480 36 #[.int .i64 5, .int .i64 0, .int .i64 0, .int .i64 0, .int .i64 0, .int .i64 0, .int .i64 0, .slice none 0 0] (0, 0) _ rfl (by (with_reducible repeat (first | refine blk_drewN ?_ _ | refine blk_drew ?_ | refine blk_alloc ?_ _)); refine blk_put (cs := #[.int .i64 5, .int .i64 0, .int .i64 0, .int .i64 0, .int .i64 0, .int .i64 0, .int .i64 0, .slice none 0 0]) ?_ 7 _ rfl; (with_reducible repeat (first | refine blk_drewN ?_ _ | refine blk_drew ?_ | refine blk_alloc ?_ _)); refine blk_put (cs := #[.int .i64 5, .int .i64 0, .int .i64 0, .int .i64 0, .int .i64 0, .int .i64 0, .int .i64 0, .slice none 0 0]) ?_ 6 _ rfl; (with_reducible repeat (first | refine blk_drewN ?_ _ | refine blk_drew ?_ | refine blk_alloc ?_ _)); refine blk_put (cs := #[.int .i64 5, .int .i64 0, .int .i64 0, .int .i64 0, .int .i64 0, .int .i64 0, .int .i64 0, .slice none 0 0]) ?_ 5 _ rfl; (with_reducible repeat (first | refine blk_drewN ?_ _ | refine blk_drew ?_ | refine blk_alloc ?_ _)); refine blk_put (cs := #[.int .i64 5, .int .i64 0, .int .i64 0, .int .i64 0, .int .i64 0, .int .i64 0, .int .i64 0, .slice none 0 0]) ?_ 4 _ rfl; (with_reducible repeat (first | refine blk_drewN ?_ _ | refine blk_drew ?_ | refine blk_alloc ?_ _)); refine blk_put (cs := #[.int .i64 5, .int .i64 0, .int .i64 0, .int .i64 0, .int .i64 0, .int .i64 0, .int .i64 0, .slice none 0 0]) ?_ 3 _ rfl; (with_reducible repeat (first | refine blk_drewN ?_ _ | refine blk_drew ?_ | refine blk_alloc ?_ _)); refine blk_put (cs := #[.int .i64 5, .int .i64 0, .int .i64 0, .int .i64 0, .int .i64 0, .int .i64 0, .int .i64 0, .slice none 0 0]) ?_ 2 _ rfl; (with_reducible repeat (first | refine blk_drewN ?_ _ | refine blk_drew ?_ | refine blk_alloc ?_ _)); refine blk_put (cs := #[.int .i64 5, .int .i64 0, .int .i64 0, .int .i64 0, .int .i64 0, .int .i64 0, .int .i64 0, .slice none 0 0]) ?_ 1 _ rfl; (with_reducible repeat (first | refine blk_drewN ?_ _ | refine blk_drew ?_ | refine blk_alloc ?_ _)); refine blk_put (cs := #[.int .i64 0, .int .i64 0, .int .i64 0, .int .i64 0, .int .i64 0, .int .i64 0, .int .i64 0, .slice none 0 0]) ?_ 0 _ rfl; (with_reducible repeat (first | refine blk_drewN ?_ _ | refine blk_drew ?_ | refine blk_alloc ?_ _)); exact BK480.out) Try.underlying36 rfl (by kernel_rfl)) rfl ?_
  exact ⟨_, by first | rfl | (simp [errW_none, errW_some] <;> rfl) | (simp [*, errW_none, errW_some] <;> rfl), by first | exact Kd.R_nil _ _ _ _ _ | exact Kd.N_nil _ _ _ _ _ | exact Kd.V_nil _ _ _ _ _ | exact Kd.Q_nil _ _ _ _ _ | exact Kd.S_nil _ _ _ _ _, by repeat (first | (with_reducible first | exact HB.out | apply below_alloc | apply pw_below_drewN | apply below_drew1 | refine below_set ?_ GE480.out) | exact HB.out)⟩
end Go.Proofs.Ytidejdfbapjfiaa.G
namespace Go.Proofs.Ytidejdfbapjfiaa.G
open Go.RowKit Go.Proofs.YtidejdfbapjfiaaW.PrintWords Go.Proofs.YtidejdfbapjfiaaW.PrintLast Go.Proofs.YtidejdfbapjfiaaW.PrintMore
attribute [local go_sem] max2_int min2_int max_two min_two max_three min_three max_four min_four   -- for this text's walks alone
set_option linter.unusedVariables false
set_option linter.unusedSimpArgs false
set_option maxHeartbeats 4000000 in
set_option maxRecDepth 100000 in
theorem slices_Concat_byte_byte.grow (n : Int) (w : World) (h0 : 0 ≤ n) (h1 : n ≤ 140737488355328) :
    Calls Try.prog 73 #[.slice none 0 0, .int .i64 n] w fun e w' => ∃ v0_ : Value, e = .returned (v0_) ∧ Kd.R (Kd.int .u8) 5 w' w.heap.size (fun _ => True) v0_ ([] : List (Int)) ∧ Below w.heap.size w w' := by
  by_cases hn : 0 < n
  · have HB := Aside0.mk (Below.refl w.heap.size w)
    have HN := Aside0.mk h1
    have hd : decide (n < 0) = false := decide_eq_false (by omega)
    have hd2 : decide (0 < n) = true := decide_eq_true hn
    go_enter Try.func73, Try.ntmps73
    go_wp2_with (first | ((with_reducible refine gate_builtin (b := .append) (xs := #[.tmp 20, .tmp 21]) rfl ?_); at_builtin; refine Kd.R_append_zeros (Kd.int .u8) (w0 := w) w.heap.size rfl (.tmp 20) (.tmp 21) 22 3 5 (.int .u8 0) 1 rfl Try.underlying22 Try.underlying3 info5 rfl (by decide) (by omega) (.slice none 0 0) [] 0 n (fun _ => True) rfl rfl rfl (fun _ _ => trivial) ?aO h0 ?aB ?aS ?aL ?_; (case aO => exact Kd.R_nil _ _ _ _ _); (case aB => exact HB.out); (case aS => exact below_size HB.out); (case aL => have := HN.out; simp; omega); intro v1 w1 ho hb hg hat; obtain ⟨ad, c1, hv1⟩ := Kd.R_slice1 ho (by simp; omega); subst hv1; have n0_ := Aside0.mk hb; have n1_ := Aside0.mk (Kd.R_take (m := 0) ho (Nat.zero_le _)); clear HB; have HB := n0_; have HO := n1_; clear n0_ n1_ ho hb hg hat))
    go_ret
    exact ⟨_, rfl, HO.out, HB.out⟩
  · obtain rfl : n = 0 := by omega
    go_enter Try.func73, Try.ntmps73
    go_wp2
    go_ret
    exact ⟨_, rfl, Kd.R_nil _ _ _ _ _, Below.refl _ _⟩
def slices_Concat_byte_byte.f (l0 : List (List (Int))) : Option (List (Int)) := if l0.flatten.length * 1 ≤ 140737488355328 then some l0.flatten else none
theorem slices_Concat_byte_byte.flat_take {α : Type} (l : List (List α)) (i : Nat) (h : i < l.length) : (l.take (i + 1)).flatten = (l.take i).flatten ++ l.getD i [] := by
  rw [List.take_succ_eq_append_getElem h, List.flatten_append]
  simp [List.getD, List.getElem?_eq_getElem h]
theorem slices_Concat_byte_byte.flat_take_le {α : Type} (l : List (List α)) (i : Nat) : (l.take i).flatten.length ≤ l.flatten.length := by
  have h := congrArg List.length (congrArg List.flatten (List.take_append_drop i l))
  rw [List.flatten_append, List.length_append] at h
  omega
set_option maxHeartbeats 4000000 in
set_option maxRecDepth 100000 in
theorem slices_Concat_byte_byte.calls (A0 : Option Addr) (c0 : Nat) (l0 : List (List (Int))) (r : List (Int)) (w : World) (hr0 : Kd.C (Kd.slice 5 (Kd.int .u8)) w A0 l0.length l0) (hc0 : l0.length ≤ c0) (h : slices_Concat_byte_byte.f l0 = some r) :
    Calls Try.prog 49 #[.slice A0 l0.length c0] w fun e w' => ∃ v0_ : Value, e = .returned (v0_) ∧ Kd.R (Kd.int .u8) 5 w' w.heap.size (fun _ => True) v0_ r ∧ Below w.heap.size w w' := by
  unfold slices_Concat_byte_byte.f at h
  by_cases hb : l0.flatten.length * 1 ≤ 140737488355328
  · rw [if_pos hb] at h
    obtain rfl := Option.some.inj h
    clear h
    have HL := Aside0.mk hb
    clear hb
    have HN := Aside0.mk hr0.2.1
    have HR := Aside0.mk hr0
    clear hr0
    go_enter Try.func49, Try.ntmps49
    go_wp2_with fail
    go_loopg [3, 11] l0.length (fun kq v3 v11 w' => ∃ i m : Nat, v11 = .int .i64 i ∧ v3 = .int .i64 m ∧ Aside0 (m = (l0.take i).flatten.length) ∧ Aside0 (i + kq = l0.length) ∧ Aside0 (w = w'))
    case atStart => exact ⟨0, 0, rfl, by simp, ⟨by simp⟩, ⟨by omega⟩, ⟨rfl⟩⟩
    case round =>
      obtain ⟨i, m, rfl, rfl, HM, HI, HW⟩ := hrel
      obtain rfl := HW.out
      clear HW
      have hi1 : i ≤ l0.length := by have := HI.out; omega
      have hi2 : l0.length ≤ 9223372036854775807 := HN.out
      by_cases hlt : i < l0.length
      · obtain ⟨ad, A1, c1, hA, hcell, hle, hin⟩ := at_L2 HR.out (i : Int) (by omega) (by omega)
        subst hA
        obtain ⟨ys, hys⟩ : ∃ ys, ys = rd_L2 l0 (i : Int) := ⟨_, rfl⟩
        have hE := slices_Concat_byte_byte.flat_take l0 i hlt
        have hE2 : l0.getD i [] = ys := by rw [hys]; simp [rd_L2]
        rw [hE2] at hE
        rw [← hys, Int.toNat_natCast] at hcell
        clear hin hle hE2 hys
        have hb1 : (l0.take (i + 1)).flatten.length ≤ 140737488355328 := by have := slices_Concat_byte_byte.flat_take_le l0 (i + 1); have := HL.out; omega
        have hb2 : m + ys.length = (l0.take (i + 1)).flatten.length := by
          have := congrArg List.length hE
          rw [List.length_append, ← HM.out] at this
          omega
        have hb3 : m + ys.length ≤ 140737488355328 := by omega
        have HE := Aside0.mk hb2
        clear hE hb1 hb2
        go_wp2
        go_roundg (gk - 1)
        case measure => have := HI.out; omega
        case rel => exact ⟨i + 1, m + ys.length, by go_num, by go_num, HE, ⟨by have := HI.out; omega⟩, ⟨rfl⟩⟩
      · have HC0 := HR
        have hm1 : (m : Int) ≤ 140737488355328 := by have := slices_Concat_byte_byte.flat_take_le l0 i; have := HL.out; have := HM.out; omega
        have hm0 : (0 : Int) ≤ m := by omega
        clear HM HI
        go_wp2_with (go_at_call 73; refine (slices_Concat_byte_byte.grow (m : Int) _ hm0 hm1).mono ?_; rintro e w1 ⟨v1, rfl, ho, hb⟩; have HO := Aside0.mk ho; have HB := Aside0.mk hb; clear ho hb HR)
        go_loopg [6, 27] l0.length (fun kq v6 v27 w' => ∃ i : Nat, v27 = .int .i64 i ∧ Aside0 (i + kq = l0.length) ∧ Aside0 (Kd.R (Kd.int .u8) 5 w' w.heap.size (fun _ => True) v6 (l0.take i).flatten) ∧ Aside0 (Below w.heap.size w w'))
        case atStart => exact ⟨0, rfl, ⟨by omega⟩, ⟨by simpa using HO.out⟩, HB⟩
        case round =>
          clear HO HB hm0 hm1
          obtain ⟨i, rfl, HI, HO, HB⟩ := hrel
          have hi1 : i ≤ l0.length := by have := HI.out; omega
          by_cases hlt : i < l0.length
          · have HC' := Kd.C_below HC0.out HB.out
            obtain ⟨ad, A1, c1, hA, hcell, hle, hin⟩ := at_L2 HC' (i : Int) (by omega) (by omega)
            subst hA
            obtain ⟨ys, hys⟩ : ∃ ys, ys = rd_L2 l0 (i : Int) := ⟨_, rfl⟩
            have hE := slices_Concat_byte_byte.flat_take l0 i hlt
            have hE2 : l0.getD i [] = ys := by rw [hys]; simp [rd_L2]
            rw [hE2] at hE
            rw [← hys] at hin
            rw [← hys, Int.toNat_natCast] at hcell
            have hb1 : (l0.take (i + 1)).flatten.length ≤ 140737488355328 := by have := slices_Concat_byte_byte.flat_take_le l0 (i + 1); have := HL.out; omega
            have hb2 : (l0.take i).flatten.length + ys.length = (l0.take (i + 1)).flatten.length := by
              have := congrArg List.length hE
              rw [List.length_append] at this
              omega
            have HE := Aside0.mk hE
            have HS := Aside0.mk (show ((l0.take i).flatten.length + ys.length) * 1 ≤ 140737488355328 by omega)
            have HIN := Aside0.mk hin
            obtain ⟨xs, hxs⟩ : ∃ xs, xs = (l0.take i).flatten := ⟨_, rfl⟩
            rw [← hxs] at HO HE HS
            clear hle hE2 hys hE hb1 hb2 hin HC' hxs
            go_wp2_with ((with_reducible refine gate_builtin (b := .append) (xs := #[.tmp 31, .tmp 32]) rfl ?_); at_builtin; refine Kd.R_append_rows (Kd.int .u8) (Rr := (Kd.int .u8).K wr) (w0 := w) w.heap.size rfl (.tmp 31) (.tmp 32) 22 5 (.int .u8 0) 1 rfl Try.underlying22 info5 rfl (by decide) (by omega) u6 xs ys A1 ys.length c1 (fun _ => True) (fun _ => False) rfl rfl ?aO ?aR (fun _ _ h => h) (fun _ hk => hk.elim) (fun _ _ => trivial) ?aB ?aS ?aL ?_; (case aO => exact HO.out); (case aR => exact HIN.out); (case aB => exact HB.out); (case aS => exact below_size HB.out); (case aL => exact HS.out); intro v1 w2 ho hb hg hat; have HO2 := Aside0.mk ho; have HB2 := Aside0.mk hb; clear ho hb hg hat)
            go_roundg (gk - 1)
            case measure => have := HI.out; omega
            case rel => exact ⟨i + 1, by go_num, ⟨by have := HI.out; omega⟩, ⟨by rw [HE.out]; exact HO2.out⟩, HB2⟩
          · go_wp2
            go_ret
            exact ⟨u6, rfl, by have := HO.out; rwa [List.take_of_length_le (by omega)] at this, HB.out⟩
  · rw [if_neg hb] at h; cases h
end Go.Proofs.Ytidejdfbapjfiaa.G
namespace Go.Proofs.Ytidejdfbapjfiaa.G
open Go.RowKit Go.Proofs.YtidejdfbapjfiaaW.PrintWords Go.Proofs.YtidejdfbapjfiaaW.PrintLast Go.Proofs.YtidejdfbapjfiaaW.PrintMore
attribute [local go_sem] max2_int min2_int max_two min_two max_three min_three max_four min_four   -- for this text's walks alone
set_option linter.unusedVariables false
set_option linter.unusedSimpArgs false
def impl_put.l0 : Nat → Int → List Int → Int → Option (List Int)
 | 0, _, _, _ => none
 | k + 1, x0, x5, x6 => if x6 ≥ 0 then (if 0 ≤ x6 then (if x6 < (x5.length : Int) then (impl_put.l0 k (x0 / 256) (x5.set (x6 : Int).toNat ((x0) % 256)) (wrap64 (x6 - 1))) else (none)) else (none)) else (some x5)
def impl_put.f (k : Nat) (a0 : Int) (a1 : Int) : Option (List Int) := if 0 ≤ a1 then (if (a1 : Int).toNat ≤ 281474976710656 then (impl_put.l0 k a0 (List.replicate (a1 : Int).toNat 0) (wrap64 (a1 - 1))) else (none)) else (none)
set_option maxHeartbeats 8000000 in
set_option maxRecDepth 100000 in
theorem impl_put.calls (k : Nat) (a0 : Int) (a1 : Int) (r : List Int) (w : World) (h : impl_put.f k a0 a1 = some r) :
  Calls Try.prog 50 #[.int .i64 a0, .int .i64 a1] w fun e w' => ∃ v0_ : Value, e = .returned (v0_) ∧ Kd.R (Kd.int .u8) 5 w' w.heap.size (fun _ => True) v0_ r ∧ Below w.heap.size w w' := by
 have HB := Aside0.mk (Below.refl w.heap.size w)
 have H : (if 0 ≤ a1 then (if (a1 : Int).toNat ≤ 281474976710656 then (impl_put.l0 k a0 (List.replicate (a1 : Int).toNat 0) (wrap64 (a1 - 1))) else (none)) else (none)) = some r := h
 clear h
 by_cases c3 : 0 ≤ a1
 ·rw [if_pos c3] at H
  have c3b0 := eq_true c3
  have c3b1 : decide (0 ≤ a1) = true := decide_eq_true c3
  clear c3
  by_cases c4 : (a1 : Int).toNat ≤ 281474976710656
  ·rw [if_pos c4] at H
   have c4b0 := eq_true c4
   have c4b1 : decide ((a1 : Int).toNat ≤ 281474976710656) = true := decide_eq_true c4
   clear c4
   obtain ⟨y208, hy208⟩ : ∃ y_ : List Int, y_ = (List.replicate (a1 : Int).toNat 0) := ⟨_, rfl⟩
   replace H : (impl_put.l0 k a0 y208 (wrap64 (a1 - 1))) = some r := by first | (rw [hy208]; with_reducible exact H) | (have H2_ := (Option.bind_some _ _).symm.trans H; rw [hy208]; with_reducible exact H2_) | (have H2_ := (Option.bind_some _ _).symm.trans H; with_reducible exact H2_) | with_reducible exact H | (rw [hy208]; exact H) | exact H
   have Ny208 := Aside0.mk hy208
   clear hy208
   have H' := Aside0.mk H
   clear H
   go_enter Try.func50, Try.ntmps50
   go_wp2_with (first | ((with_reducible refine gate_dst (N := 8) rfl ?_); refine Kd.R_make (Kd.int .u8) _ 5 rfl (N := 8) rfl 22 _ _ rfl a1 rfl rfl Try.underlying22 (.int .u8 0) 1 info5 rfl (by decide) (by omega) 0 (ok := fun _ => True) (okp := fun _ => True) rfl (fun _ hk => hk) trivial (of_decide_eq_true (by first | (with_reducible assumption) | assumption)) (Nat.le_trans (Nat.mul_le_mul_right _ (of_decide_eq_true (by first | (with_reducible assumption) | assumption) : a1.toNat ≤ 281474976710656)) (by omega)) (Below.refl _ _) (Nat.le_refl _) ?_; intro v209 w5 ho6 hb hg_ hnew_; clear hg_ hnew_; (first | rw [← Ny208.out] at ho6 | (simp only [Int.reduceToNat] at ho6; rw [← Ny208.out] at ho6)); have n0_ := Aside0.mk (Kd.R_lower ho6 (below_size (by repeat (first | (with_reducible first | exact HB.out | apply below_alloc | apply pw_below_drewN | apply below_drew1) | exact HB.out)))); have n1_ := Aside0.mk (below_step (by repeat (first | (with_reducible first | exact HB.out | apply below_alloc | apply pw_below_drewN | apply below_drew1) | exact HB.out)) hb); clear HB; have HO210 := n0_; have HB := n1_; clear n0_ n1_; clear hb ho6))
   go_loopg [0, 6] k (fun kq v0 v6 w' => ∃ (x0_1 : Int) (x5_1 : List Int) (x6_1 : Int), v0 = .int .i64 x0_1 ∧ v6 = .int .i64 x6_1 ∧ Aside0 (impl_put.l0 kq x0_1 x5_1 x6_1 = some r) ∧ Aside0 (kq ≤ k) ∧ Aside0 (Kd.R (Kd.int .u8) 5 w' w.heap.size (fun _ => True) v209 x5_1) ∧ Aside0 (Below w.heap.size w w'))
   case atStart => exact ⟨(a0), (y208), (wrap64 (a1 - 1)), (by first | rfl | (simp; done) | (simp [*]; done)), (by first | rfl | (simp; done) | (simp [*]; done)), H', ⟨Nat.le_refl _⟩, ⟨by (with_reducible repeat (first | apply Kd.R_alloc | apply Kd.R_drewN | apply Kd.R_drew)); exact HO210.out⟩, ⟨by repeat (first | (with_reducible first | exact HB.out | apply below_alloc | apply pw_below_drewN | apply below_drew1) | exact HB.out)⟩⟩
   case round =>
    clear H'
    try clear p2
    try clear c3
    try clear c3b0
    try clear c3b1
    try clear c4
    try clear c4b0
    try clear c4b1
    try clear c5
    try clear p6
    obtain ⟨x0_1, x5_1, x6_1, rfl, rfl, HA, HK1, HO_5, HB⟩ := hrel
    cases gk with
    | zero => exact absurd HA.out (by simp [impl_put.l0])
    | succ k1 =>
     have H := HA.out
     clear HA
     simp only [impl_put.l0] at H
     by_cases c7 : x6_1 ≥ 0
     ·rw [if_pos c7] at H
      have c7b0 : decide (0 ≤ x6_1) = true := decide_eq_true c7
      clear c7
      by_cases c8 : 0 ≤ x6_1
      ·rw [if_pos c8] at H
       have c8b0 : decide (0 ≤ x6_1) = true := decide_eq_true c8
       clear c8
       by_cases c9 : x6_1 < (x5_1.length : Int)
       ·rw [if_pos c9] at H
        have c9b0 : decide (x6_1 < (x5_1.length : Int)) = true := decide_eq_true c9
        clear c9
        obtain ⟨y211, hy211⟩ : ∃ y_ : List Int, y_ = (x5_1.set (x6_1 : Int).toNat ((x0_1) % 256)) := ⟨_, rfl⟩
        replace H : (impl_put.l0 k1 (x0_1 / 256) y211 (wrap64 (x6_1 - 1))) = some r := by first | (rw [hy211]; with_reducible exact H) | (have H2_ := (Option.bind_some _ _).symm.trans H; rw [hy211]; with_reducible exact H2_) | (have H2_ := (Option.bind_some _ _).symm.trans H; with_reducible exact H2_) | with_reducible exact H | (rw [hy211]; exact H) | exact H
        have Ny211 := Aside0.mk hy211
        clear hy211
        have H' := Aside0.mk H
        clear H
        have p10 : 0 ≤ (x6_1 : Int) := of_decide_eq_true (by first | (with_reducible assumption) | assumption)
        have q10 : (x6_1 : Int) < ((x5_1.length : Int) : Int) := of_decide_eq_true (by first | (with_reducible assumption) | assumption)
        obtain ⟨go10, co10, eo10, gb10, gl10, cl10, HG10⟩ := Kd.R_form HO_5.out (by omega)
        (first | cases eo10 | (injection eo10 with ea_ en_ ec_; (first | subst ea_ | (injection ea_ with ea_; subst ea_)); subst ec_; clear en_))
        have GB10 := Aside0.mk gb10
        have GG10 := Aside0.mk HG10
        clear gb10 gl10 HG10
        obtain ⟨hx10_0, hf10_0⟩ := Kd.R_celln 0 HO_5.out (x6_1 : Int) p10 q10
        replace p10 := eq_true p10
        replace q10 := eq_true q10
        have HP11 := Kd.R_putg HO_5.out (x6_1 : Int) ((x0_1) % 256)
        go_wp2_with (first | ((with_reducible refine gate_store (t := 5) (p := 19) rfl ?_); refine store_event (t := 5) (p := 19) (v := ?vo_w12) (w1 := (wr.setCell ⟨go10, (x6_1 : Int).toNat, none⟩ (.int .u8 ((x0_1) % 256)))) ?hg ?ho ?hn ?hr ?_; (case ho => rfl); (case hg => rfl); (case hn => rfl); (case hr => first | (go_simp; done) | (go_simp; rfl)); intro w12 hw; have hg : wr.grownBy w12 (some go10) := (by rw [hw]; exact HP11.2); have hp_ : Kd.R (Kd.int .u8) 5 w12 w.heap.size (fun _ => True) (.slice (some ⟨go10, 0, none⟩) x5_1.length co10) y211 := (by rw [hw, Ny211.out]; exact HP11.1); clear HP11; have n0_ := Aside0.mk (hp_); have n1_ := Aside0.mk ((by rw [hw]; exact below_set (HB.out) GB10.out : Below w.heap.size w w12)); clear HO_5; clear HB; have HO_5 := n0_; have HB := n1_; clear n0_ n1_; clear hg hw hp_))
        go_roundg k1
        case measure => have := HK1.out; omega
        case rel => exact ⟨(x0_1 / 256), (y211), (wrap64 (x6_1 - 1)), (by first | rfl | (simp; done) | (simp [*]; done)), (by first | rfl | (simp; done) | (simp [*]; done)), H', ⟨by have := HK1.out; omega⟩, ⟨by (with_reducible repeat (first | apply Kd.R_alloc | apply Kd.R_drewN | apply Kd.R_drew)); exact HO_5.out⟩, ⟨by repeat (first | (with_reducible first | exact HB.out | apply below_alloc | apply pw_below_drewN | apply below_drew1) | exact HB.out)⟩⟩
       ·rw [if_neg c9] at H
        exact absurd H (by simp)
      ·rw [if_neg c8] at H
       exact absurd H (by simp)
     ·rw [if_neg c7] at H
      have c7b0 : decide (0 ≤ x6_1) = false := decide_eq_false c7
      clear c7
      obtain rfl := Option.some.inj H
      go_wp2
      go_ret
      exact ⟨_, by first | rfl | (simp [errW_none, errW_some] <;> rfl) | (simp [*, errW_none, errW_some] <;> rfl), by (with_reducible repeat (first | apply Kd.R_alloc | apply Kd.R_drewN | apply Kd.R_drew)); exact HO_5.out, by repeat (first | (with_reducible first | exact HB.out | apply below_alloc | apply pw_below_drewN | apply below_drew1) | exact HB.out)⟩
  ·rw [if_neg c4] at H
   exact absurd H (by simp)
 ·rw [if_neg c3] at H
  exact absurd H (by simp)
end Go.Proofs.Ytidejdfbapjfiaa.G
