/- Part 6 of the proof of FnExactGateFault: what the functions on its road do, and the plain laws. -/
import Derived.Test.YtaniedjfkiklmaaCFnExactGateFault5
namespace Go.Proofs.Ytaniedjfkiklmaa.G
open Go.RowKit Go.Proofs.YtaniedjfkiklmaaW.PrintWords Go.Proofs.YtaniedjfkiklmaaW.PrintLast Go.Proofs.YtaniedjfkiklmaaW.PrintMore
attribute [local go_sem] max2_int min2_int max_two min_two max_three min_three max_four min_four   -- for this text's walks alone
set_option linter.unusedVariables false
set_option linter.unusedSimpArgs false
def laws_FnExactGateFault.f (k : Nat) (l0 : List (S70)) (a1_0 : Int) (a1_1 : Int) (l1_2 : List (S77)) : Option (Bool) := (laws_szTermS.f l0 1048576).bind fun t491 => (if t491 < 0 then (some true) else ((laws_szGate.f a1_0 a1_1 l1_2 t491).bind fun t492 => (if t492 < 0 then (some true) else ((laws_toTermS.f k l0).bind fun t493 => ((laws_toGate.f k a1_0 a1_1 l1_2).bind fun bt496 => ((spec_GateFault.f k t493 bt496.1 bt496.2.1 bt496.2.2).bind fun t501 => ((laws_toTermS.f k l0).bind fun t502 => ((laws_toGate.f k a1_0 a1_1 l1_2).bind fun bt505 => ((impl_GateFault.f k t502 bt505.1 bt505.2.1 bt505.2.2).bind fun t511 => (if t511 = t501 then ((laws_toTermS.f k l0).bind fun t512 => ((laws_eqTermS.f k t502 t512).bind fun t515 => (if t515 = true then ((laws_toGate.f k a1_0 a1_1 l1_2).bind fun bt516 => ((laws_eqGate.f k bt505.1 bt505.2.1 bt505.2.2 bt516.1 bt516.2.1 bt516.2.2).bind fun t521 => (if t521 = true then (some true) else (some false)))) else (some false)))) else (some false)))))))))))
set_option maxHeartbeats 8000000 in
set_option maxRecDepth 100000 in
theorem laws_FnExactGateFault.calls (k : Nat) (A0 : Option Addr) (c0 : Nat) (l0 : List (S70)) (a1_0 : Int) (a1_1 : Int) (A1_2 : Option Addr) (c1_2 : Nat) (l1_2 : List (S77)) (w : World) (hr0 : Kd.C k70 w A0 l0.length l0) (hc0 : l0.length ≤ c0) (hr1_2 : Kd.C k77 w A1_2 l1_2.length l1_2) (hc1_2 : l1_2.length ≤ c1_2) (h : laws_FnExactGateFault.f k l0 a1_0 a1_1 l1_2 = some true) :
  Calls Try.prog 5 #[.slice A0 l0.length c0, .agg #[.int .i64 a1_0, .int .i64 a1_1, .slice A1_2 l1_2.length c1_2]] w fun e w' => e = .returned (.bool true) ∧ Below w.heap.size w w' := by
 have hu24 := Try.underlying24
 have hu32 := Try.underlying32
 have af := Aside0.mk hr0
 have ag := Aside0.mk hc0
 clear hr0 hc0
 have HR1_2 := Aside0.mk hr1_2
 have HC1_2 := Aside0.mk hc1_2
 clear hr1_2 hc1_2
 have HB := Aside0.mk (Below.refl w.heap.size w)
 have H : ((laws_szTermS.f l0 1048576).bind fun t491 => (if t491 < 0 then (some true) else ((laws_szGate.f a1_0 a1_1 l1_2 t491).bind fun t492 => (if t492 < 0 then (some true) else ((laws_toTermS.f k l0).bind fun t493 => ((laws_toGate.f k a1_0 a1_1 l1_2).bind fun bt496 => ((spec_GateFault.f k t493 bt496.1 bt496.2.1 bt496.2.2).bind fun t501 => ((laws_toTermS.f k l0).bind fun t502 => ((laws_toGate.f k a1_0 a1_1 l1_2).bind fun bt505 => ((impl_GateFault.f k t502 bt505.1 bt505.2.1 bt505.2.2).bind fun t511 => (if t511 = t501 then ((laws_toTermS.f k l0).bind fun t512 => ((laws_eqTermS.f k t502 t512).bind fun t515 => (if t515 = true then ((laws_toGate.f k a1_0 a1_1 l1_2).bind fun bt516 => ((laws_eqGate.f k bt505.1 bt505.2.1 bt505.2.2 bt516.1 bt516.2.1 bt516.2.2).bind fun t521 => (if t521 = true then (some true) else (some false)))) else (some false)))) else (some false)))))))))))) = some true := h
 clear h
 replace H := Option.bind_eq_some_iff.mp H
 obtain ⟨t491, b0, H⟩ := H
 try dsimp only at H
 have A3 := Aside0.mk b0
 clear b0
 by_cases c4 : t491 < 0
 ·rw [if_pos c4] at H
  have c4b0 : decide (t491 < 0) = true := decide_eq_true c4
  clear c4
  clear H
  go_enter Try.func5, Try.ntmps5
  go_wp2_with (first | ((with_reducible refine gate_dst (N := 3) rfl ?_); refine box_event ?hg (N := 3) ?hd (cs := #[.int .i64 a1_0, .int .i64 a1_1, .slice A1_2 l1_2.length c1_2]) (t := 24) ?hr ?_; (case hd => rfl); (case hg => rfl); (case hr => first | (go_simp; done) | (go_simp; rfl)); intro a6 hg w5 hbox hb; have n0_ := Aside0.mk (lP_ HB.out hb); have n3_ := Aside0.mk ((by rw [hg]; exact (below_size HB.out) : w.heap.size ≤ a6)); clear HB; have HB := n0_; have a7 := n3_; clear n0_ n3_ hb hbox hg) | ((with_reducible refine gate_callee (f := 20) rfl ?_); refine goesA_ (some 12) rfl rfl Try.func20 (by kernel_rfl) rfl #[.slice A0 l0.length c0, .int .i64 1048576] rfl ?_; (with_reducible refine (laws_szTermS.calls _ _ l0 1048576 t491 _ ?side1 ?side2 A3.out).mono ?_); (case side1 => repeat (first | exact (Kd.C_below af.out HB.out) | (with_reducible refine Kd.C_alloc ?_ _) | (with_reducible refine Kd.C_drewN ?_ _) | (with_reducible refine Kd.C_drew ?_))); (case side2 => exact ag.out); rintro e w' ⟨rfl, ⟨nd, rfl⟩⟩; refine ⟨_, rfl, ?_⟩))
  go_ret
  exact ⟨by first | rfl | (rw [hr_.out]; first | done | rfl) | (simp [errW_none, errW_some] <;> rfl) | (simp [*, errW_none, errW_some] <;> rfl), by repeat (first | (with_reducible first | exact HB.out | apply lA1_ | apply lN_ | apply lD_ | refine lS1_ ?_ a7.out) | exact HB.out)⟩
 ·rw [if_neg c4] at H
  have c4b0 : decide (t491 < 0) = false := decide_eq_false c4
  clear c4
  replace H := Option.bind_eq_some_iff.mp H
  obtain ⟨t492, b1, H⟩ := H
  try dsimp only at H
  have A6 := Aside0.mk b1
  clear b1
  by_cases c7 : t492 < 0
  ·rw [if_pos c7] at H
   have c7b0 : decide (t492 < 0) = true := decide_eq_true c7
   clear c7
   clear H
   go_enter Try.func5, Try.ntmps5
   go_wp2_with (first | ((with_reducible refine gate_dst (N := 3) rfl ?_); refine box_event ?hg (N := 3) ?hd (cs := #[.int .i64 a1_0, .int .i64 a1_1, .slice A1_2 l1_2.length c1_2]) (t := 24) ?hr ?_; (case hd => rfl); (case hg => rfl); (case hr => first | (go_simp; done) | (go_simp; rfl)); intro a6 hg w8 hbox hb; have n0_ := Aside0.mk (lP_ (by repeat (first | (with_reducible first | exact HB.out | apply lA1_ | apply lN_ | apply lD_) | exact HB.out)) hb); have n1_ := Aside0.mk (hbox); have n3_ := Aside0.mk ((by rw [hg]; exact (below_size (by repeat (first | (with_reducible first | exact HB.out | apply lA1_ | apply lN_ | apply lD_) | exact HB.out))) : w.heap.size ≤ a6)); clear HB; have HB := n0_; have a0 := n1_; have a7 := n3_; clear n0_ n1_ n3_ hb hbox hg) | ((with_reducible refine gate_callee (f := 20) rfl ?_); refine goesA_ (some 12) rfl rfl Try.func20 (by kernel_rfl) rfl #[.slice A0 l0.length c0, .int .i64 1048576] rfl ?_; (with_reducible refine (laws_szTermS.calls _ _ l0 1048576 t491 _ ?side1 ?side2 A3.out).mono ?_); (case side1 => repeat (first | exact (Kd.C_below af.out HB.out) | (with_reducible refine Kd.C_alloc ?_ _) | (with_reducible refine Kd.C_drewN ?_ _) | (with_reducible refine Kd.C_drew ?_))); (case side2 => exact ag.out); rintro e w' ⟨rfl, ⟨nd, rfl⟩⟩; refine ⟨_, rfl, ?_⟩; obtain ⟨_, _, _, _, _, _⟩ := bc3 a0.out) | ((with_reducible refine gate_callee (f := 6) rfl ?_); refine goesA_ (some 17) rfl rfl Try.func6 (by kernel_rfl) rfl #[.agg #[.int .i64 a1_0, .int .i64 a1_1, .slice A1_2 l1_2.length c1_2], .int .i64 t491] rfl ?_; (with_reducible refine (laws_szGate.calls a1_0 a1_1 _ _ l1_2 t491 t492 _ ?side1 ?side2 A6.out).mono ?_); (case side1 => repeat (first | exact (Kd.C_below HR1_2.out (by repeat (first | (with_reducible first | exact HB.out | apply lA1_ | apply lN_ | apply lD_ | refine lS1_ ?_ a7.out) | exact HB.out))) | (with_reducible refine Kd.C_alloc ?_ _) | (with_reducible refine Kd.C_drewN ?_ _) | (with_reducible refine Kd.C_drew ?_))); (case side2 => exact HC1_2.out); rintro e w10 ⟨rfl, hb⟩; refine ⟨_, rfl, ?_⟩; have n1_ := Aside0.mk (lP_ (by repeat (first | (with_reducible first | exact HB.out | apply lA1_ | apply lN_ | apply lD_ | refine lS1_ ?_ a7.out) | exact HB.out)) hb); clear HB; have HB := n1_; clear n1_; (try clear hb); (try clear hb2); (try clear hk); (try clear hi)))
   go_ret
   exact ⟨by first | rfl | (rw [hr_.out]; first | done | rfl) | (simp [errW_none, errW_some] <;> rfl) | (simp [*, errW_none, errW_some] <;> rfl), by repeat (first | (with_reducible first | exact HB.out | apply lA1_ | apply lN_ | apply lD_ | refine lS1_ ?_ a7.out) | exact HB.out)⟩
  ·rw [if_neg c7] at H
   have c7b0 : decide (t492 < 0) = false := decide_eq_false c7
   clear c7
   replace H := Option.bind_eq_some_iff.mp H
   obtain ⟨t493, aj, H⟩ := H
   try dsimp only at H
   have b6 := Aside0.mk aj
   clear aj
   replace H := Option.bind_eq_some_iff.mp H
   obtain ⟨⟨t496, t497, t498⟩, ak, H⟩ := H
   try dsimp only at H
   have b7 := Aside0.mk ak
   clear ak
   replace H := Option.bind_eq_some_iff.mp H
   obtain ⟨t501, al, H⟩ := H
   try dsimp only at H
   have b8 := Aside0.mk al
   clear al
   replace H := Option.bind_eq_some_iff.mp H
   obtain ⟨t502, am, H⟩ := H
   try dsimp only at H
   have b9 := Aside0.mk am
   clear am
   replace H := Option.bind_eq_some_iff.mp H
   obtain ⟨⟨t505, t506, t507⟩, an, H⟩ := H
   try dsimp only at H
   have ba := Aside0.mk an
   clear an
   replace H := Option.bind_eq_some_iff.mp H
   obtain ⟨t511, ao, H⟩ := H
   try dsimp only at H
   have bb := Aside0.mk ao
   clear ao
   by_cases c17 : t511 = t501
   ·rw [if_pos c17] at H
    have c17b0 : (t511 == t501) = true := beq_iff_eq.mpr c17
    have c17b1 : (t511 != t501) = false := bne_eq_false_iff_eq.mpr c17
    clear c17
    replace H := Option.bind_eq_some_iff.mp H
    obtain ⟨t512, ap, H⟩ := H
    try dsimp only at H
    have bc := Aside0.mk ap
    clear ap
    replace H := Option.bind_eq_some_iff.mp H
    obtain ⟨t515, aq, H⟩ := H
    try dsimp only at H
    have bd := Aside0.mk aq
    clear aq
    by_cases c20 : t515 = true
    ·subst c20
     rw [if_pos rfl] at H
     replace H := Option.bind_eq_some_iff.mp H
     obtain ⟨⟨t516, t517, t518⟩, ar, H⟩ := H
     try dsimp only at H
     have be := Aside0.mk ar
     clear ar
     replace H := Option.bind_eq_some_iff.mp H
     obtain ⟨t521, au, H⟩ := H
     try dsimp only at H
     have bf := Aside0.mk au
     clear au
     by_cases c23 : t521 = true
     ·subst c23
      rw [if_pos rfl] at H
      clear H
      go_enter Try.func5, Try.ntmps5
      try go_wp2_with (first | ((with_reducible refine gate_dst (N := 3) rfl ?_); refine box_event ?hg (N := 3) ?hd (cs := #[.int .i64 a1_0, .int .i64 a1_1, .slice A1_2 l1_2.length c1_2]) (t := 24) ?hr ?_; (case hd => rfl); (case hg => rfl); (case hr => first | (go_simp; done) | (go_simp; rfl)); intro a6 hg w24 hbox hb; have n0_ := Aside0.mk (lP_ HB.out hb); have n1_ := Aside0.mk (hbox); have n3_ := Aside0.mk ((by rw [hg]; exact (below_size HB.out) : w.heap.size ≤ a6)); clear HB; have HB := n0_; have a0 := n1_; have a7 := n3_; clear n0_ n1_ n3_ hb hbox hg) | ((with_reducible refine gate_callee (f := 20) rfl ?_); refine goesA_ (some 12) rfl rfl Try.func20 (by kernel_rfl) rfl #[.slice A0 l0.length c0, .int .i64 1048576] rfl ?_; (with_reducible refine (laws_szTermS.calls _ _ l0 1048576 t491 _ ?side1 ?side2 A3.out).mono ?_); (case side1 => repeat (first | exact (Kd.C_below af.out HB.out) | (with_reducible refine Kd.C_alloc ?_ _) | (with_reducible refine Kd.C_drewN ?_ _) | (with_reducible refine Kd.C_drew ?_))); (case side2 => exact ag.out); rintro e w' ⟨rfl, ⟨nd, rfl⟩⟩; refine ⟨_, rfl, ?_⟩; (try (rw [drewN_self w24]; generalize hq_ : World.drewN w24 _ = w24; have n0_ : Aside0 (w24.heap[a6]? = some (.cells #[.int .i64 a1_0, .int .i64 a1_1, .slice A1_2 l1_2.length c1_2] 24 (0, 0))) := ⟨by rw [← hq_]; exact (by (with_reducible repeat first | apply bN_ | apply bD_ | apply bA_); exact a0.out)⟩; have n1_ : Aside0 (Below w.heap.size w w24) := ⟨by rw [← hq_]; exact (by repeat (first | (with_reducible first | exact HB.out | apply lA1_ | apply lN_ | apply lD_ | refine lS1_ ?_ a7.out) | exact HB.out))⟩; clear a0 HB hq_; have a0 := n0_; have HB := n1_; clear n0_ n1_)); obtain ⟨_, _, _, _, _, _⟩ := bc3 a0.out) | ((with_reducible refine gate_callee (f := 6) rfl ?_); refine goesA_ (some 17) rfl rfl Try.func6 (by kernel_rfl) rfl #[.agg #[.int .i64 a1_0, .int .i64 a1_1, .slice A1_2 l1_2.length c1_2], .int .i64 t491] rfl ?_; (with_reducible refine (laws_szGate.calls a1_0 a1_1 _ _ l1_2 t491 t492 _ ?side1 ?side2 A6.out).mono ?_); (case side1 => repeat (first | exact (Kd.C_below HR1_2.out HB.out) | (with_reducible refine Kd.C_alloc ?_ _) | (with_reducible refine Kd.C_drewN ?_ _) | (with_reducible refine Kd.C_drew ?_))); (case side2 => exact HC1_2.out); rintro e w26 ⟨rfl, hb⟩; refine ⟨_, rfl, ?_⟩; have n0_ := Aside0.mk (bB_ (g := a6) (o := .cells #[.int .i64 a1_0, .int .i64 a1_1, .slice A1_2 l1_2.length c1_2] 24 (0, 0)) (by (with_reducible repeat first | apply bN_ | apply bD_ | apply bA_); exact a0.out) hb); have n1_ := Aside0.mk (lP_ (by repeat (first | (with_reducible first | exact HB.out | apply lA1_ | apply lN_ | apply lD_ | refine lS1_ ?_ a7.out) | exact HB.out)) hb); clear a0 HB; have a0 := n0_; have HB := n1_; clear n0_ n1_; (try clear hb); (try clear hb2); (try clear hk); (try clear hi)))
      have n0_ := Aside0.mk (bD_ a0.out)
      have n1_ := Aside0.mk (lD_ HB.out)
      clear a0
      clear HB
      have a0 := n0_
      have HB := n1_
      clear n0_ n1_
      refine start_ (n := 6) (S := fun w' => w'.cell? ⟨a6, 0, none⟩ = some (.int .i64 a1_0) ∧ w'.cell? ⟨a6, 1, none⟩ = some (.int .i64 a1_1) ∧ w'.cell? ⟨a6, 2, none⟩ = some (.slice A1_2 l1_2.length c1_2)) (ds := []) #[false, false, false, false, false, false] (by kernel_rfl) rfl rfl ⟨(blk_cell a0.out 0).trans rfl, (blk_cell a0.out 1).trans rfl, (blk_cell a0.out 2).trans rfl⟩ (fun hHeld => ?_)
      generalize w26.drew = w27 at a0 HB hHeld ⊢
      refine pure_ (i := 0) (N := some 20) (v := ?_) (a' := ?_) #[true, false, false, false, false, false] rfl rfl (by kernel_rfl) (fun _ _ _ h => h) (Or.inl ⟨by rfl, ?_⟩) ?_ ?_
      rotate_left
      ·intro w'
       go_simp
       with_reducible rfl
      rotate_left
      ·simp only [Act.put, lA_, lZ_, lS_, i64_w, i32_w]
       rfl
      refine take_ (i := 2) (N := some 22) (v := ?_) (a' := ?_) #[true, false, true, false, false, false] rfl rfl (by kernel_rfl) (fun _ _ _ h => h) (Or.inl ⟨by rfl, ?_⟩) hHeld ?_ ?_
      rotate_left
      ·rintro w' ⟨s0, s1, s2⟩
       go_simp
       with_reducible rfl
      rotate_left
      ·simp only [Act.put, lA_, lZ_, lS_, i64_w, i32_w]
       rfl
      refine one_ (i := 1) (N := some 21) #[true, true, true, false, false, false] rfl rfl (by kernel_rfl) (by decide) (fun K hK => ?_)
      refine goes_ Try.func22 (by kernel_rfl) rfl #[.slice A0 l0.length c0] (by rfl) rfl rfl (by (try simp only [List.map_toArray, List.map_cons, List.map_nil]); first | done | rfl | (simp only [List.length_drop, List.length_take]; rfl)) ?_
      with_reducible refine (laws_toTermS.calls k _ _ l0 t493 _ ?side1 ?side2 b6.out).mono ?_
      (case side1 => repeat (first | exact (Kd.C_below af.out HB.out) | (with_reducible refine Kd.C_alloc ?_ _) | (with_reducible refine Kd.C_drewN ?_ _) | (with_reducible refine Kd.C_drew ?_)))
      (case side2 => exact ag.out)
      rintro e w28 ⟨v494, rfl, ho0, hb⟩
      refine ⟨_, rfl, ?_⟩
      have n0_ := Aside0.mk (Kd.R_lower ho0 (below_size (by repeat (first | (with_reducible first | exact HB.out | apply lA1_ | apply lN_ | apply lD_ | refine lS1_ ?_ a7.out) | exact HB.out))))
      have n1_ := Aside0.mk (bB_ (g := a6) (o := .cells #[.int .i64 a1_0, .int .i64 a1_1, .slice A1_2 l1_2.length c1_2] 24 (0, 0)) (by (with_reducible repeat first | apply bN_ | apply bD_ | apply bA_); exact a0.out) hb)
      have n2_ := Aside0.mk (lP_ (by repeat (first | (with_reducible first | exact HB.out | apply lA1_ | apply lN_ | apply lD_ | refine lS1_ ?_ a7.out) | exact HB.out)) hb)
      clear a0
      clear HB
      have a1 := n0_
      have a0 := n1_
      have HB := n2_
      clear n0_ n1_ n2_
      (try clear hb)
      (try clear hb2)
      (try clear hk)
      (try clear hi)
      (try clear ho0)
      refine hK.out _ _ ⟨(blk_cell a0.out 0).trans rfl, (blk_cell a0.out 1).trans rfl, (blk_cell a0.out 2).trans rfl⟩ (fun hHeld => ?_)
      clear hK K
      refine norm_ (a' := ?_) ?_ ?_
      rotate_left
      ·show Act.put _ (some 21) _ = _
       simp only [Act.put, lA_, lZ_, lS_, i64_w, i32_w]
       rfl
      refine one_ (i := 3) (N := some 23) #[true, true, true, true, false, false] rfl rfl (by kernel_rfl) (by decide) (fun K hK => ?_)
      refine goes_ Try.func8 (by kernel_rfl) rfl #[.agg #[.int .i64 a1_0, .int .i64 a1_1, .slice A1_2 l1_2.length c1_2]] (by rfl) rfl rfl (by (try simp only [List.map_toArray, List.map_cons, List.map_nil]); first | done | rfl | (simp only [List.length_drop, List.length_take]; rfl)) ?_
      with_reducible refine (laws_toGate.calls k a1_0 a1_1 _ _ l1_2 t496 t497 t498 _ ?side1 ?side2 b7.out).mono ?_
      (case side1 => repeat (first | exact (Kd.C_below HR1_2.out HB.out) | (with_reducible refine Kd.C_alloc ?_ _) | (with_reducible refine Kd.C_drewN ?_ _) | (with_reducible refine Kd.C_drew ?_)))
      (case side2 => exact HC1_2.out)
      rintro e w29 ⟨v499, rfl, ho0, hb⟩
      refine ⟨_, rfl, ?_⟩
      have n0_ := Aside0.mk (Kd.R_below (by (with_reducible repeat first | apply rA_ | apply rN_ | apply rD_); exact a1.out) hb)
      have n1_ := Aside0.mk (Kd.R_lower ho0 (below_size (by repeat (first | (with_reducible first | exact HB.out | apply lA1_ | apply lN_ | apply lD_ | refine lS1_ ?_ a7.out) | exact HB.out))))
      have n2_ := Aside0.mk (bB_ (g := a6) (o := .cells #[.int .i64 a1_0, .int .i64 a1_1, .slice A1_2 l1_2.length c1_2] 24 (0, 0)) (by (with_reducible repeat first | apply bN_ | apply bD_ | apply bA_); exact a0.out) hb)
      have n3_ := Aside0.mk (lP_ (by repeat (first | (with_reducible first | exact HB.out | apply lA1_ | apply lN_ | apply lD_ | refine lS1_ ?_ a7.out) | exact HB.out)) hb)
      clear a1
      clear a0
      clear HB
      have a1 := n0_
      have a2 := n1_
      have a0 := n2_
      have HB := n3_
      clear n0_ n1_ n2_ n3_
      (try clear hb)
      (try clear hb2)
      (try clear hk)
      (try clear hi)
      (try clear ho0)
      obtain ⟨av, aw, eo30⟩ := Kd.R_slice a1.out
      (first | subst eo30 | (injection eo30 with f1_ f2_ f3_; have f4_ := f1_.symm; have f5_ := f3_.symm; clear f1_ f2_ f3_; subst f4_; subst f5_))
      obtain ⟨ax, ay, eo31⟩ := Kd.R_slice a2.out
      (first | subst eo31 | (injection eo31 with f1_ f2_ f3_; have f4_ := f1_.symm; have f5_ := f3_.symm; clear f1_ f2_ f3_; subst f4_; subst f5_))
      refine hK.out _ _ ⟨(blk_cell a0.out 0).trans rfl, (blk_cell a0.out 1).trans rfl, (blk_cell a0.out 2).trans rfl⟩ (fun hHeld => ?_)
      clear hK K
      refine norm_ (a' := ?_) ?_ ?_
      rotate_left
      ·show Act.put _ (some 23) _ = _
       simp only [Act.put, lA_, lZ_, lS_, i64_w, i32_w]
       rfl
      refine one_ (i := 4) (N := some 24) #[true, true, true, true, true, false] rfl rfl (by kernel_rfl) (by decide) (fun K hK => ?_)
      refine goes_ Try.func21 (by kernel_rfl) rfl #[.slice av t493.length aw, .agg #[.int .i64 t496, .int .i64 t497, .slice ax t498.length ay]] (by rfl) rfl rfl (by (try simp only [List.map_toArray, List.map_cons, List.map_nil]); first | done | rfl | (simp only [List.length_drop, List.length_take]; rfl)) ?_
      with_reducible refine (spec_GateFault.calls k _ _ t493 t496 t497 _ _ t498 t501 _ ?side1 ?side2 ?side3 ?side4 b8.out).mono ?_
      (case side1 => repeat (first | exact (Kd.R_reads' a1.out).2.2 | (with_reducible refine Kd.C_alloc ?_ _) | (with_reducible refine Kd.C_drewN ?_ _) | (with_reducible refine Kd.C_drew ?_)))
      (case side2 => exact (Kd.R_reads' a1.out).2.1)
      (case side3 => repeat (first | exact (Kd.R_reads' a2.out).2.2 | (with_reducible refine Kd.C_alloc ?_ _) | (with_reducible refine Kd.C_drewN ?_ _) | (with_reducible refine Kd.C_drew ?_)))
      (case side4 => exact (Kd.R_reads' a2.out).2.1)
      rintro e w32 ⟨rfl, hb⟩
      refine ⟨_, rfl, ?_⟩
      have n0_ := Aside0.mk (Kd.R_below (by (with_reducible repeat first | apply rA_ | apply rN_ | apply rD_); exact a1.out) hb)
      have n1_ := Aside0.mk (Kd.R_below (by (with_reducible repeat first | apply rA_ | apply rN_ | apply rD_); exact a2.out) hb)
      have n2_ := Aside0.mk (bB_ (g := a6) (o := .cells #[.int .i64 a1_0, .int .i64 a1_1, .slice A1_2 l1_2.length c1_2] 24 (0, 0)) (by (with_reducible repeat first | apply bN_ | apply bD_ | apply bA_); exact a0.out) hb)
      have n3_ := Aside0.mk (lP_ (by repeat (first | (with_reducible first | exact HB.out | apply lA1_ | apply lN_ | apply lD_ | refine lS1_ ?_ a7.out) | exact HB.out)) hb)
      clear a1
      clear a2
      clear a0
      clear HB
      have a1 := n0_
      have a2 := n1_
      have a0 := n2_
      have HB := n3_
      clear n0_ n1_ n2_ n3_
      (try clear hb)
      (try clear hb2)
      (try clear hk)
      (try clear hi)
      refine hK.out _ _ ⟨(blk_cell a0.out 0).trans rfl, (blk_cell a0.out 1).trans rfl, (blk_cell a0.out 2).trans rfl⟩ (fun hHeld => ?_)
      clear hK K
      refine norm_ (a' := ?_) ?_ ?_
      rotate_left
      ·show Act.put _ (some 24) _ = _
       simp only [Act.put, lA_, lZ_, lS_, i64_w, i32_w]
       rfl
      refine pure_ (i := 5) (N := some 6) (v := ?_) (a' := ?_) #[true, true, true, true, true, true] rfl rfl (by kernel_rfl) (fun _ _ _ h => h) (Or.inl ⟨by rfl, ?_⟩) ?_ ?_
      rotate_left
      ·intro w'
       go_simp
       with_reducible rfl
      rotate_left
      ·simp only [Act.put, lA_, lZ_, lS_, i64_w, i32_w]
       rfl
      refine done_ (by kernel_rfl) ?_
      try go_wp2_with (first | ((with_reducible refine gate_callee (f := 22) rfl ?_); refine goesA_ (some 26) rfl rfl Try.func22 (by kernel_rfl) rfl #[.slice A0 l0.length c0] rfl ?_; (with_reducible refine (laws_toTermS.calls k _ _ l0 t502 _ ?side1 ?side2 b9.out).mono ?_); (case side1 => repeat (first | exact (Kd.C_below af.out HB.out) | (with_reducible refine Kd.C_alloc ?_ _) | (with_reducible refine Kd.C_drewN ?_ _) | (with_reducible refine Kd.C_drew ?_))); (case side2 => exact ag.out); rintro e w33 ⟨v503, rfl, ho0, hb⟩; refine ⟨_, rfl, ?_⟩; have n0_ := Aside0.mk (Kd.R_elder' (by (with_reducible repeat first | apply rA_ | apply rN_ | apply rD_); exact a1.out) (Kd.R_base ho0) hb); have n1_ := Aside0.mk (Kd.R_below (by (with_reducible repeat first | apply rA_ | apply rN_ | apply rD_); exact a2.out) hb); have n2_ := Aside0.mk (Kd.R_lower (Kd.R_new' ho0 (Kd.R_lt (by (with_reducible repeat first | apply rA_ | apply rN_ | apply rD_); exact a1.out))) (below_size (by repeat (first | (with_reducible first | exact HB.out | apply lA1_ | apply lN_ | apply lD_ | refine lS1_ ?_ a7.out) | exact HB.out)))); have n3_ := Aside0.mk (bB_ (g := a6) (o := .cells #[.int .i64 a1_0, .int .i64 a1_1, .slice A1_2 l1_2.length c1_2] 24 (0, 0)) (by (with_reducible repeat first | apply bN_ | apply bD_ | apply bA_); exact a0.out) hb); have n4_ := Aside0.mk (lP_ (by repeat (first | (with_reducible first | exact HB.out | apply lA1_ | apply lN_ | apply lD_ | refine lS1_ ?_ a7.out) | exact HB.out)) hb); clear a1 a2 a0 HB; have a1 := n0_; have a2 := n1_; have a4 := n2_; have a0 := n3_; have HB := n4_; clear n0_ n1_ n2_ n3_ n4_; (try clear hb); (try clear hb2); (try clear hk); (try clear hi); (try clear ho0); obtain ⟨_, _, _, _, _, _⟩ := bc3 a0.out) | ((with_reducible refine gate_callee (f := 8) rfl ?_); refine goesA_ (some 28) rfl rfl Try.func8 (by kernel_rfl) rfl #[.agg #[.int .i64 a1_0, .int .i64 a1_1, .slice A1_2 l1_2.length c1_2]] rfl ?_; (with_reducible refine (laws_toGate.calls k a1_0 a1_1 _ _ l1_2 t505 t506 t507 _ ?side1 ?side2 ba.out).mono ?_); (case side1 => repeat (first | exact (Kd.C_below HR1_2.out HB.out) | (with_reducible refine Kd.C_alloc ?_ _) | (with_reducible refine Kd.C_drewN ?_ _) | (with_reducible refine Kd.C_drew ?_))); (case side2 => exact HC1_2.out); rintro e w35 ⟨v508, rfl, ho0, hb⟩; refine ⟨_, rfl, ?_⟩; have n0_ := Aside0.mk (Kd.R_below a1.out hb); have n1_ := Aside0.mk (Kd.R_elder' a2.out (Kd.R_base ho0) hb); have n2_ := Aside0.mk (Kd.R_below a4.out hb); have n3_ := Aside0.mk (Kd.R_lower (Kd.R_new' ho0 (Kd.R_lt a2.out)) (below_size HB.out)); have n4_ := Aside0.mk (bB_ a0.out hb); have n5_ := Aside0.mk (lP_ HB.out hb); clear a1 a2 a4 a0 HB; have a1 := n0_; have a2 := n1_; have a4 := n2_; have a5 := n3_; have a0 := n4_; have HB := n5_; clear n0_ n1_ n2_ n3_ n4_ n5_; (try clear hb); (try clear hb2); (try clear hk); (try clear hi); (try clear ho0)) | ((with_reducible refine gate_dst (N := 8) rfl ?_); refine box_event ?hg (N := 8) ?hd (cs := #[.int .i64 0, .int .i64 0, .slice none 0 0]) (t := 32) ?hr ?_; (case hd => rfl); (case hg => rfl); (case hr => first | (go_simp; done) | (go_simp; rfl)); intro a9 hg w36 hbox hb; have n0_ := Aside0.mk (Kd.R_below a1.out hb); have n1_ := Aside0.mk (Kd.R_below a2.out hb); have n2_ := Aside0.mk (Kd.R_below a4.out hb); have n3_ := Aside0.mk (Kd.R_below a5.out hb); have n4_ := Aside0.mk (bB_ a0.out hb); have n5_ := Aside0.mk (lP_ HB.out hb); have n6_ := Aside0.mk (hbox); have n8_ := Aside0.mk ((by rw [hg]; exact (below_size HB.out) : w.heap.size ≤ a9)); have n9_ := Aside0.mk ((by rw [hg]; exact Nat.ne_of_lt (blk_lt a0.out) : a6 ≠ a9)); have n10_ := Aside0.mk n9_.out.symm; clear a1 a2 a4 a5 a0 HB; have a1 := n0_; have a2 := n1_; have a4 := n2_; have a5 := n3_; have a0 := n4_; have HB := n5_; have a3 := n6_; have ac := n8_; have ae := n9_; have ah := n10_; clear n0_ n1_ n2_ n3_ n4_ n5_ n6_ n8_ n9_ n10_ hb hbox hg; have bg := ah.out; have bh := ae.out; obtain ⟨_, _, _, _, _, _⟩ := bc3 a3.out; obtain ⟨ad, ab, eo39⟩ := Kd.R_slice a5.out; subst eo39; obtain ⟨az, ai, eo40⟩ := Kd.R_slice a4.out; subst eo40) | ((with_reducible refine gate_callee (f := 23) rfl ?_); refine goesA_ (some 31) rfl rfl Try.func23 (by kernel_rfl) rfl #[.slice az t502.length ai, .agg #[.int .i64 t505, .int .i64 t506, .slice ad t507.length ab]] rfl ?_; (with_reducible refine (impl_GateFault.calls k _ _ t502 t505 t506 _ _ t507 t511 _ ?side1 ?side2 ?side3 ?side4 bb.out).mono ?_); (case side1 => refine (Kd.R_reads' (e := 68) (base := w.heap.size) (ok := fun k_ => (True ∧ some k_ ≠ (.slice av t493.length aw : Value).ownBlock)) (n := t502.length) (c := ai) ?_).2.2; exact (Kd.R_mono (rfar3 (g := a9) (Kd.R_types a4.out a3.out (by decide)) (fun _ hk => hk.2)) (fun _ h_ => h_.1))); (case side2 => exact (Kd.R_reads' a4.out).2.1); (case side3 => refine (Kd.R_reads' (e := 58) (base := w.heap.size) (ok := fun k_ => (True ∧ some k_ ≠ (.slice ax t498.length ay : Value).ownBlock)) (n := t507.length) (c := ab) ?_).2.2; exact (Kd.R_mono (rfar3 (g := a9) (Kd.R_types a5.out a3.out (by decide)) (fun _ hk => hk.2)) (fun _ h_ => h_.1))); (case side4 => exact (Kd.R_reads' a5.out).2.1); rintro e w41 ⟨rfl, hb⟩; refine ⟨_, rfl, ?_⟩; have n0_ := Aside0.mk (Kd.R_below (Kd.R_mono (rfar3 (g := a9) (Kd.R_types a1.out a3.out (by decide)) (fun _ hk => hk.2)) (fun _ h_ => h_.1)) hb); have n1_ := Aside0.mk (Kd.R_below (Kd.R_mono (rfar3 (g := a9) (Kd.R_types a2.out a3.out (by decide)) (fun _ hk => hk.2)) (fun _ h_ => h_.1)) hb); have n2_ := Aside0.mk (Kd.R_below (Kd.R_mono (rfar3 (g := a9) (Kd.R_types a4.out a3.out (by decide)) (fun _ hk => hk.2)) (fun _ h_ => h_.1)) hb); have n3_ := Aside0.mk (Kd.R_below (Kd.R_mono (rfar3 (g := a9) (Kd.R_types a5.out a3.out (by decide)) (fun _ hk => hk.2)) (fun _ h_ => h_.1)) hb); have n4_ := Aside0.mk (bB_ (g := a6) (o := .cells #[.int .i64 a1_0, .int .i64 a1_1, .slice A1_2 l1_2.length c1_2] 24 (0, 0)) (by (iterate 3 (refine bF_ ?_ ae.out _)); exact a0.out) hb); have n5_ := Aside0.mk (bB_ (g := a9) (o := .cells #[.int .i64 t505, .int .i64 t506, .slice ad t507.length ab] 32 (0, 0)) (by apply fill3; exact a3.out) hb); have n6_ := Aside0.mk (lP_ (by repeat (first | (with_reducible first | exact HB.out | refine lS1_ ?_ a7.out | refine lS1_ ?_ ac.out) | exact HB.out)) hb); clear a1 a2 a4 a5 a0 a3 HB; have a1 := n0_; have a2 := n1_; have a4 := n2_; have a5 := n3_; have a0 := n4_; have a3 := n5_; have HB := n6_; clear n0_ n1_ n2_ n3_ n4_ n5_ n6_; (try clear hb); (try clear hb2); (try clear hk); (try clear hi)) | ((with_reducible refine gate_callee (f := 22) rfl ?_); refine goesA_ (some 37) rfl rfl Try.func22 (by kernel_rfl) rfl #[.slice A0 l0.length c0] rfl ?_; (with_reducible refine (laws_toTermS.calls k _ _ l0 t512 _ ?side1 ?side2 bc.out).mono ?_); (case side1 => repeat (first | exact (Kd.C_below af.out HB.out) | (with_reducible refine Kd.C_alloc ?_ _) | (with_reducible refine Kd.C_drewN ?_ _) | (with_reducible refine Kd.C_drew ?_))); (case side2 => exact ag.out); rintro e w42 ⟨v513, rfl, ho0, hb⟩; refine ⟨_, rfl, ?_⟩; have n0_ := Aside0.mk (Kd.R_elder' a1.out (Kd.R_base ho0) hb); have n1_ := Aside0.mk (Kd.R_below a2.out hb); have n2_ := Aside0.mk (Kd.R_elder' a4.out (Kd.R_base ho0) hb); have n3_ := Aside0.mk (Kd.R_below a5.out hb); have n4_ := Aside0.mk (Kd.R_lower (Kd.R_new' (Kd.R_new' ho0 (Kd.R_lt a1.out)) (Kd.R_lt a4.out)) (below_size HB.out)); have n5_ := Aside0.mk (bB_ a0.out hb); have n6_ := Aside0.mk (bB_ a3.out hb); have n7_ := Aside0.mk (lP_ HB.out hb); clear a1 a2 a4 a5 a0 a3 HB; have a1 := n0_; have a2 := n1_; have a4 := n2_; have a5 := n3_; have a8 := n4_; have a0 := n5_; have a3 := n6_; have HB := n7_; clear n0_ n1_ n2_ n3_ n4_ n5_ n6_ n7_; (try clear hb); (try clear hb2); (try clear hk); (try clear hi); (try clear ho0); obtain ⟨b2, b3, eo43⟩ := Kd.R_slice a8.out; subst eo43) | ((with_reducible refine gate_callee (f := 24) rfl ?_); refine goesA_ (some 38) rfl rfl Try.func24 (by kernel_rfl) rfl #[.slice az t502.length ai, .slice b2 t512.length b3] rfl ?_; (with_reducible refine (laws_eqTermS.calls k _ _ t502 _ _ t512 true _ ?side1 ?side2 ?side3 ?side4 bd.out).mono ?_); (case side1 => repeat (first | exact (Kd.R_reads' a4.out).2.2 | (with_reducible refine Kd.C_alloc ?_ _) | (with_reducible refine Kd.C_drewN ?_ _) | (with_reducible refine Kd.C_drew ?_))); (case side2 => exact (Kd.R_reads' a4.out).2.1); (case side3 => repeat (first | exact (Kd.R_reads' a8.out).2.2 | (with_reducible refine Kd.C_alloc ?_ _) | (with_reducible refine Kd.C_drewN ?_ _) | (with_reducible refine Kd.C_drew ?_))); (case side4 => exact (Kd.R_reads' a8.out).2.1); rintro e w44 ⟨rfl, hb⟩; refine ⟨_, rfl, ?_⟩; have n0_ := Aside0.mk (Kd.R_below a1.out hb); have n1_ := Aside0.mk (Kd.R_below a2.out hb); have n2_ := Aside0.mk (Kd.R_below a4.out hb); have n3_ := Aside0.mk (Kd.R_below a5.out hb); have n4_ := Aside0.mk (Kd.R_below a8.out hb); have n5_ := Aside0.mk (bB_ a0.out hb); have n6_ := Aside0.mk (bB_ a3.out hb); have n7_ := Aside0.mk (lP_ HB.out hb); clear a1 a2 a4 a5 a8 a0 a3 HB; have a1 := n0_; have a2 := n1_; have a4 := n2_; have a5 := n3_; have a8 := n4_; have a0 := n5_; have a3 := n6_; have HB := n7_; clear n0_ n1_ n2_ n3_ n4_ n5_ n6_ n7_; (try clear hb); (try clear hb2); (try clear hk); (try clear hi)))
      have n0_ := Aside0.mk (rD_ a1.out)
      have n1_ := Aside0.mk (rD_ a2.out)
      have n2_ := Aside0.mk (rD_ a4.out)
      have n3_ := Aside0.mk (rD_ a5.out)
      have n4_ := Aside0.mk (rD_ a8.out)
      have n5_ := Aside0.mk (bD_ a0.out)
      have n6_ := Aside0.mk (bD_ a3.out)
      have n7_ := Aside0.mk (lD_ HB.out)
      clear a1
      clear a2
      clear a4
      clear a5
      clear a8
      clear a0
      clear a3
      clear HB
      have a1 := n0_
      have a2 := n1_
      have a4 := n2_
      have a5 := n3_
      have a8 := n4_
      have a0 := n5_
      have a3 := n6_
      have HB := n7_
      clear n0_ n1_ n2_ n3_ n4_ n5_ n6_ n7_
      refine start_ (n := 5) (S := fun w' => w'.cell? ⟨a9, 0, none⟩ = some (.int .i64 t505) ∧ w'.cell? ⟨a9, 1, none⟩ = some (.int .i64 t506) ∧ w'.cell? ⟨a9, 2, none⟩ = some (.slice ad t507.length ab) ∧ w'.cell? ⟨a6, 0, none⟩ = some (.int .i64 a1_0) ∧ w'.cell? ⟨a6, 1, none⟩ = some (.int .i64 a1_1) ∧ w'.cell? ⟨a6, 2, none⟩ = some (.slice A1_2 l1_2.length c1_2)) (ds := []) #[false, false, false, false, false] (by kernel_rfl) rfl rfl ⟨(blk_cell a3.out 0).trans rfl, (blk_cell a3.out 1).trans rfl, (blk_cell a3.out 2).trans rfl, (blk_cell a0.out 0).trans rfl, (blk_cell a0.out 1).trans rfl, (blk_cell a0.out 2).trans rfl⟩ (fun hHeld => ?_)
      generalize w44.drew = w45 at a1 a2 a4 a5 a8 a0 a3 HB hHeld ⊢
      refine take_ (i := 0) (N := some 40) (v := ?_) (a' := ?_) #[true, false, false, false, false] rfl rfl (by kernel_rfl) (fun _ _ _ h => h) (Or.inl ⟨by rfl, ?_⟩) hHeld ?_ ?_
      rotate_left
      ·rintro w' ⟨s0, s1, s2, s3, s4, s5⟩
       go_simp
       with_reducible rfl
      rotate_left
      ·simp only [Act.put, lA_, lZ_, lS_, i64_w, i32_w]
       rfl
      refine take_ (i := 1) (N := some 41) (v := ?_) (a' := ?_) #[true, true, false, false, false] rfl rfl (by kernel_rfl) (fun _ _ _ h => h) (Or.inl ⟨by rfl, ?_⟩) hHeld ?_ ?_
      rotate_left
      ·rintro w' ⟨s0, s1, s2, s3, s4, s5⟩
       go_simp
       with_reducible rfl
      rotate_left
      ·simp only [Act.put, lA_, lZ_, lS_, i64_w, i32_w]
       rfl
      refine one_ (i := 2) (N := some 42) #[true, true, true, false, false] rfl rfl (by kernel_rfl) (by decide) (fun K hK => ?_)
      refine goes_ Try.func8 (by kernel_rfl) rfl #[.agg #[.int .i64 a1_0, .int .i64 a1_1, .slice A1_2 l1_2.length c1_2]] (by rfl) rfl rfl (by (try simp only [List.map_toArray, List.map_cons, List.map_nil]); first | done | rfl | (simp only [List.length_drop, List.length_take]; rfl)) ?_
      with_reducible refine (laws_toGate.calls k a1_0 a1_1 _ _ l1_2 t516 t517 t518 _ ?side1 ?side2 be.out).mono ?_
      (case side1 => repeat (first | exact (Kd.C_below HR1_2.out HB.out) | (with_reducible refine Kd.C_alloc ?_ _) | (with_reducible refine Kd.C_drewN ?_ _) | (with_reducible refine Kd.C_drew ?_)))
      (case side2 => exact HC1_2.out)
      rintro e w46 ⟨v519, rfl, ho0, hb⟩
      refine ⟨_, rfl, ?_⟩
      have n0_ := Aside0.mk (Kd.R_below (by (with_reducible repeat first | apply rA_ | apply rN_ | apply rD_); exact a1.out) hb)
      have n1_ := Aside0.mk (Kd.R_elder' (by (with_reducible repeat first | apply rA_ | apply rN_ | apply rD_); exact a2.out) (Kd.R_base ho0) hb)
      have n2_ := Aside0.mk (Kd.R_below (by (with_reducible repeat first | apply rA_ | apply rN_ | apply rD_); exact a4.out) hb)
      have n3_ := Aside0.mk (Kd.R_elder' (by (with_reducible repeat first | apply rA_ | apply rN_ | apply rD_); exact a5.out) (Kd.R_base ho0) hb)
      have n4_ := Aside0.mk (Kd.R_below (by (with_reducible repeat first | apply rA_ | apply rN_ | apply rD_); exact a8.out) hb)
      have n5_ := Aside0.mk (Kd.R_lower (Kd.R_new' (Kd.R_new' ho0 (Kd.R_lt (by (with_reducible repeat first | apply rA_ | apply rN_ | apply rD_); exact a2.out))) (Kd.R_lt (by (with_reducible repeat first | apply rA_ | apply rN_ | apply rD_); exact a5.out))) (below_size (by repeat (first | (with_reducible first | exact HB.out | apply lA1_ | apply lN_ | apply lD_ | refine lS1_ ?_ a7.out | refine lS1_ ?_ ac.out) | exact HB.out))))
      have n6_ := Aside0.mk (bB_ (g := a6) (o := .cells #[.int .i64 a1_0, .int .i64 a1_1, .slice A1_2 l1_2.length c1_2] 24 (0, 0)) (by (with_reducible repeat first | apply bN_ | apply bD_ | apply bA_); exact a0.out) hb)
      have n7_ := Aside0.mk (bB_ (g := a9) (o := .cells #[.int .i64 t505, .int .i64 t506, .slice ad t507.length ab] 32 (0, 0)) (by (with_reducible repeat first | apply bN_ | apply bD_ | apply bA_); exact a3.out) hb)
      have n8_ := Aside0.mk (lP_ (by repeat (first | (with_reducible first | exact HB.out | apply lA1_ | apply lN_ | apply lD_ | refine lS1_ ?_ a7.out | refine lS1_ ?_ ac.out) | exact HB.out)) hb)
      clear a1
      clear a2
      clear a4
      clear a5
      clear a8
      clear a0
      clear a3
      clear HB
      have a1 := n0_
      have a2 := n1_
      have a4 := n2_
      have a5 := n3_
      have a8 := n4_
      have aa := n5_
      have a0 := n6_
      have a3 := n7_
      have HB := n8_
      clear n0_ n1_ n2_ n3_ n4_ n5_ n6_ n7_ n8_
      (try clear hb)
      (try clear hb2)
      (try clear hk)
      (try clear hi)
      (try clear ho0)
      obtain ⟨b4, b5, eo47⟩ := Kd.R_slice aa.out
      (first | subst eo47 | (injection eo47 with f1_ f2_ f3_; have f4_ := f1_.symm; have f5_ := f3_.symm; clear f1_ f2_ f3_; subst f4_; subst f5_))
      refine hK.out _ _ ⟨(blk_cell a3.out 0).trans rfl, (blk_cell a3.out 1).trans rfl, (blk_cell a3.out 2).trans rfl, (blk_cell a0.out 0).trans rfl, (blk_cell a0.out 1).trans rfl, (blk_cell a0.out 2).trans rfl⟩ (fun hHeld => ?_)
      clear hK K
      refine norm_ (a' := ?_) ?_ ?_
      rotate_left
      ·show Act.put _ (some 42) _ = _
       simp only [Act.put, lA_, lZ_, lS_, i64_w, i32_w]
       rfl
      refine one_ (i := 3) (N := some 43) #[true, true, true, true, false] rfl rfl (by kernel_rfl) (by decide) (fun K hK => ?_)
      refine goes_ Try.func11 (by kernel_rfl) rfl #[.agg #[.int .i64 t505, .int .i64 t506, .slice ad t507.length ab], .agg #[.int .i64 t516, .int .i64 t517, .slice b4 t518.length b5]] (by rfl) rfl rfl (by (try simp only [List.map_toArray, List.map_cons, List.map_nil]); first | done | rfl | (simp only [List.length_drop, List.length_take]; rfl)) ?_
      with_reducible refine (laws_eqGate.calls k t505 t506 _ _ t507 t516 t517 _ _ t518 true _ ?side1 ?side2 ?side3 ?side4 bf.out).mono ?_
      (case side1 => repeat (first | exact (Kd.R_reads' a5.out).2.2 | (with_reducible refine Kd.C_alloc ?_ _) | (with_reducible refine Kd.C_drewN ?_ _) | (with_reducible refine Kd.C_drew ?_)))
      (case side2 => exact (Kd.R_reads' a5.out).2.1)
      (case side3 => repeat (first | exact (Kd.R_reads' aa.out).2.2 | (with_reducible refine Kd.C_alloc ?_ _) | (with_reducible refine Kd.C_drewN ?_ _) | (with_reducible refine Kd.C_drew ?_)))
      (case side4 => exact (Kd.R_reads' aa.out).2.1)
      rintro e w48 ⟨rfl, hb⟩
      refine ⟨_, rfl, ?_⟩
      have n0_ := Aside0.mk (Kd.R_below (by (with_reducible repeat first | apply rA_ | apply rN_ | apply rD_); exact a1.out) hb)
      have n1_ := Aside0.mk (Kd.R_below (by (with_reducible repeat first | apply rA_ | apply rN_ | apply rD_); exact a2.out) hb)
      have n2_ := Aside0.mk (Kd.R_below (by (with_reducible repeat first | apply rA_ | apply rN_ | apply rD_); exact a4.out) hb)
      have n3_ := Aside0.mk (Kd.R_below (by (with_reducible repeat first | apply rA_ | apply rN_ | apply rD_); exact a5.out) hb)
      have n4_ := Aside0.mk (Kd.R_below (by (with_reducible repeat first | apply rA_ | apply rN_ | apply rD_); exact a8.out) hb)
      have n5_ := Aside0.mk (Kd.R_below (by (with_reducible repeat first | apply rA_ | apply rN_ | apply rD_); exact aa.out) hb)
      have n6_ := Aside0.mk (bB_ (g := a6) (o := .cells #[.int .i64 a1_0, .int .i64 a1_1, .slice A1_2 l1_2.length c1_2] 24 (0, 0)) (by (with_reducible repeat first | apply bN_ | apply bD_ | apply bA_); exact a0.out) hb)
      have n7_ := Aside0.mk (bB_ (g := a9) (o := .cells #[.int .i64 t505, .int .i64 t506, .slice ad t507.length ab] 32 (0, 0)) (by (with_reducible repeat first | apply bN_ | apply bD_ | apply bA_); exact a3.out) hb)
      have n8_ := Aside0.mk (lP_ (by repeat (first | (with_reducible first | exact HB.out | apply lA1_ | apply lN_ | apply lD_ | refine lS1_ ?_ a7.out | refine lS1_ ?_ ac.out) | exact HB.out)) hb)
      clear a1
      clear a2
      clear a4
      clear a5
      clear a8
      clear aa
      clear a0
      clear a3
      clear HB
      have a1 := n0_
      have a2 := n1_
      have a4 := n2_
      have a5 := n3_
      have a8 := n4_
      have aa := n5_
      have a0 := n6_
      have a3 := n7_
      have HB := n8_
      clear n0_ n1_ n2_ n3_ n4_ n5_ n6_ n7_ n8_
      (try clear hb)
      (try clear hb2)
      (try clear hk)
      (try clear hi)
      refine hK.out _ _ ⟨(blk_cell a3.out 0).trans rfl, (blk_cell a3.out 1).trans rfl, (blk_cell a3.out 2).trans rfl, (blk_cell a0.out 0).trans rfl, (blk_cell a0.out 1).trans rfl, (blk_cell a0.out 2).trans rfl⟩ (fun hHeld => ?_)
      clear hK K
      refine norm_ (a' := ?_) ?_ ?_
      rotate_left
      ·show Act.put _ (some 43) _ = _
       simp only [Act.put, lA_, lZ_, lS_, i64_w, i32_w]
       rfl
      refine pure_ (i := 4) (N := some 44) (v := ?_) (a' := ?_) #[true, true, true, true, true] rfl rfl (by kernel_rfl) (fun _ _ _ h => h) (Or.inl ⟨by rfl, ?_⟩) ?_ ?_
      rotate_left
      ·intro w'
       go_simp
       with_reducible rfl
      rotate_left
      ·simp only [Act.put, lA_, lZ_, lS_, i64_w, i32_w]
       rfl
      refine done_ (by kernel_rfl) ?_
      try go_wp2
      go_ret
      exact ⟨by first | rfl | (rw [hr_.out]; first | done | rfl) | (simp [errW_none, errW_some] <;> rfl) | (simp [*, errW_none, errW_some] <;> rfl), by repeat (first | (with_reducible first | exact HB.out | apply lA1_ | apply lN_ | apply lD_ | refine lS1_ ?_ a7.out | refine lS1_ ?_ ac.out) | exact HB.out)⟩
     ·replace c23 := Bool.eq_false_iff.mpr c23
      subst c23
      rw [if_neg (show ¬ (false = true) by decide)] at H
      exact absurd (Option.some.inj H) (by decide)
    ·replace c20 := Bool.eq_false_iff.mpr c20
     subst c20
     rw [if_neg (show ¬ (false = true) by decide)] at H
     exact absurd (Option.some.inj H) (by decide)
   ·rw [if_neg c17] at H
    have c17b0 : (t511 == t501) = false := beq_eq_false_iff_ne.mpr c17
    have c17b1 : (t511 != t501) = true := bne_iff_ne.mpr c17
    exact absurd (Option.some.inj H) (by decide)
end Go.Proofs.Ytaniedjfkiklmaa.G
