/- Part 4 of the proof of FnTtls: what the functions on its road do, and the plain laws. -/
import Derived.Test.YtidejdfbapjfiaaCFnTtls3
import Derived.Deep.Cut
import Derived.Laws.CopyOwn
namespace Go.Proofs.Ytidejdfbapjfiaa.G
open Go.RowKit Go.Proofs.YtidejdfbapjfiaaW.PrintWords Go.Proofs.YtidejdfbapjfiaaW.PrintLast Go.Proofs.YtidejdfbapjfiaaW.PrintMore
attribute [local go_sem] max2_int min2_int max_two min_two max_three min_three max_four min_four   -- for this text's walks alone
set_option linter.unusedVariables false
set_option linter.unusedSimpArgs false
theorem cutw_23 {P : Program} {c : Code} {Q : Exit → Act → World → Prop} {a : Act} {w : World} (F : World → Prop) (hF : F w) (h : ∀ w, F w → Code.wp P c Q a w) : Code.wp P c Q a w := h w hF
def spec_TtlDown.f (k : Nat) (l0 : List Int) : Option (Int × List Int) := (spec_ParsePacket.f k l0).bind fun bt659 => (if bt659.1 = 0 then (if bt659.2.2.2.2.1 = 1 then (some (10, ([] : List Int))) else ((spec_l2Build.f k bt659.2.1 bt659.2.2.1 bt659.2.2.2.1 (wrap64 (bt659.2.2.2.2.1 - 1)) bt659.2.2.2.2.2.1 bt659.2.2.2.2.2.2.1 bt659.2.2.2.2.2.2.2).bind fun t670 => (some (0, t670)))) else (some (bt659.1, ([] : List Int))))
set_option maxHeartbeats 8000000 in
set_option maxRecDepth 100000 in
theorem spec_TtlDown.calls (k : Nat) (A0 : Option Addr) (c0 : Nat) (l0 : List Int) (r1 : Int) (r2 : List Int) (w : World) (hr0 : Kd.C (Kd.int .u8) w A0 l0.length l0) (hc0 : l0.length ≤ c0) (h : spec_TtlDown.f k l0 = some (r1, r2)) :
  Calls Try.prog 23 #[.slice A0 l0.length c0] w fun e w' => ∃ v1_ : Value, e = .returned (.agg #[.int .i64 r1, v1_]) ∧ Kd.R (Kd.int .u8) 5 w' w.heap.size (fun _ => True) v1_ r2 ∧ Below w.heap.size w w' := by
 have hu29 := Try.underlying29
 have hu36 := Try.underlying36
 have hu34 := Try.underlying34
 have ac := Aside0.mk hr0
 have ad := Aside0.mk hc0
 clear hr0 hc0
 have HB := Aside0.mk (Below.refl w.heap.size w)
 have H : ((spec_ParsePacket.f k l0).bind fun bt659 => (if bt659.1 = 0 then (if bt659.2.2.2.2.1 = 1 then (some (10, ([] : List Int))) else ((spec_l2Build.f k bt659.2.1 bt659.2.2.1 bt659.2.2.2.1 (wrap64 (bt659.2.2.2.2.1 - 1)) bt659.2.2.2.2.2.1 bt659.2.2.2.2.2.2.1 bt659.2.2.2.2.2.2.2).bind fun t670 => (some (0, t670)))) else (some (bt659.1, ([] : List Int))))) = some (r1, r2) := h
 clear h
 replace H := Option.bind_eq_some_iff.mp H
 obtain ⟨⟨t659, t660, t661, t662, t663, t664, t665, t666⟩, af, H⟩ := H
 try dsimp only at H
 have A2 := Aside0.mk af
 clear af
 by_cases c3 : t659 = 0
 ·rw [if_pos c3] at H
  have c3b0 : (t659 == 0) = true := beq_iff_eq.mpr c3
  have c3b1 : (t659 != 0) = false := bne_eq_false_iff_eq.mpr c3
  clear c3
  by_cases c4 : t663 = 1
  ·rw [if_pos c4] at H
   have c4b0 : (t663 == 1) = true := beq_iff_eq.mpr c4
   have c4b1 : (t663 != 1) = false := bne_eq_false_iff_eq.mpr c4
   clear c4
   simp only [Option.some.injEq, Prod.mk.injEq] at H
   obtain ⟨rfl, rfl⟩ := H
   go_enter Try.func23, Try.ntmps23
   go_wp2_with (first | ((with_reducible refine gate_dst (N := 2) rfl ?_); refine box_event ?hg (N := 2) ?hd (cs := #[.int .i64 0, .slice none 0 0]) (t := 29) ?hr ?_; (case hd => rfl); (case hg => rfl); (case hr => first | (go_simp; done) | (go_simp; rfl)); intro a1 hg w5 hbox hb; have n0_ := Aside0.mk (lP_ (by repeat (first | (with_reducible first | exact HB.out | apply lA1_ | apply lN_ | apply lD_) | exact HB.out)) hb); have n1_ := Aside0.mk (hbox); have n3_ := Aside0.mk ((by rw [hg]; exact (below_size (by repeat (first | (with_reducible first | exact HB.out | apply lA1_ | apply lN_ | apply lD_) | exact HB.out))) : w.heap.size ≤ a1)); clear HB; have HB := n0_; have a0 := n1_; have a2 := n3_; clear n0_ n1_ n3_ hb hbox hg) | ((with_reducible refine gate_callee (f := 15) rfl ?_); refine goesA_ (some 5) rfl rfl Try.func15 (by kernel_rfl) rfl #[.slice A0 l0.length c0] rfl ?_; (with_reducible refine (spec_ParsePacket.calls k _ _ l0 t659 t660 t661 t662 t663 t664 t665 t666 _ ?side1 ?side2 A2.out).mono ?_); (case side1 => repeat (first | exact (Kd.C_below ac.out HB.out) | (with_reducible refine Kd.C_alloc ?_ _) | (with_reducible refine Kd.C_drewN ?_ _) | (with_reducible refine Kd.C_drew ?_))); (case side2 => exact ad.out); rintro e w6 ⟨v667, rfl, ho0, hb⟩; refine ⟨_, rfl, ?_⟩; have n0_ := Aside0.mk (Kd.R_lower ho0 (below_size (by repeat (first | (with_reducible first | exact HB.out | apply lA1_ | apply lN_ | apply lD_ | refine lS1_ ?_ a2.out) | exact HB.out)))); have n1_ := Aside0.mk (bB_ (g := a1) (o := .cells #[.int .i64 0, .slice none 0 0] 29 (0, 0)) (by (with_reducible repeat first | apply bN_ | apply bD_ | apply bA_); exact a0.out) hb); have n2_ := Aside0.mk (lP_ (by repeat (first | (with_reducible first | exact HB.out | apply lA1_ | apply lN_ | apply lD_ | refine lS1_ ?_ a2.out) | exact HB.out)) hb); clear a0 HB; have a3 := n0_; have a0 := n1_; have HB := n2_; clear n0_ n1_ n2_; (try clear hb); (try clear hb2); (try clear hk); (try clear hi); (try clear ho0)) | ((with_reducible refine gate_dst (N := 3) rfl ?_); refine box_event ?hg (N := 3) ?hd (cs := #[.int .i64 0, .int .i64 0, .int .i64 0, .int .i64 0, .int .i64 0, .int .i64 0, .int .i64 0, .slice none 0 0]) (t := 36) ?hr ?_; (case hd => rfl); (case hg => rfl); (case hr => first | (go_simp; done) | (go_simp; rfl)); intro a5 hg w7 hbox hb; have n0_ := Aside0.mk (Kd.R_below (by (with_reducible repeat first | apply rA_ | apply rN_ | apply rD_); exact a3.out) hb); have n1_ := Aside0.mk (bB_ (g := a1) (o := .cells #[.int .i64 0, .slice none 0 0] 29 (0, 0)) (by (with_reducible repeat first | apply bN_ | apply bD_ | apply bA_); exact a0.out) hb); have n2_ := Aside0.mk (lP_ (by repeat (first | (with_reducible first | exact HB.out | apply lA1_ | apply lN_ | apply lD_ | refine lS1_ ?_ a2.out) | exact HB.out)) hb); have n3_ := Aside0.mk (hbox); have n5_ := Aside0.mk ((by rw [hg]; exact (below_size (by repeat (first | (with_reducible first | exact HB.out | apply lA1_ | apply lN_ | apply lD_ | refine lS1_ ?_ a2.out) | exact HB.out))) : w.heap.size ≤ a5)); have n6_ := Aside0.mk ((by rw [hg]; exact Nat.ne_of_lt (blk_lt (g := a1) (o := .cells #[.int .i64 0, .slice none 0 0] 29 (0, 0)) (by (with_reducible repeat first | apply bN_ | apply bD_ | apply bA_); exact a0.out)) : a1 ≠ a5)); have n7_ := Aside0.mk ((by rw [hg]; exact Nat.ne_of_gt (blk_lt (g := a1) (o := .cells #[.int .i64 0, .slice none 0 0] 29 (0, 0)) (by (with_reducible repeat first | apply bN_ | apply bD_ | apply bA_); exact a0.out)) : a5 ≠ a1)); clear a3 a0 HB; have a3 := n0_; have a0 := n1_; have HB := n2_; have a6 := n3_; have a8 := n5_; have a4 := n6_; have a7 := n7_; clear n0_ n1_ n2_ n3_ n5_ n6_ n7_ hb hbox hg; have ap := a7.out; have aq := a4.out; obtain ⟨_, _, _, _, _, _, _, _, _, _, _, _, _, _, _, _⟩ := bc8 a6.out; obtain ⟨ar, au, eo10⟩ := Kd.R_slice a3.out; subst eo10; obtain ⟨_, _, _, _⟩ := bc2 a0.out))
   refine bodyPost_ret (results_cell_row rfl _ _ a1 29 #[.int .i64 10, .slice none 0 0] (0, 0) _ rfl (by (with_reducible repeat first | apply bN_ | apply bD_ | apply bA_); apply fill2; (iterate 8 ((with_reducible repeat first | apply bN_ | apply bD_ | apply bA_); refine bF_ ?_ a4.out _)); (with_reducible repeat first | apply bN_ | apply bD_ | apply bA_); exact a0.out) Try.underlying29 rfl (by kernel_rfl)) rfl ?_
   exact ⟨_, by first | rfl | (simp [errW_none, errW_some] <;> rfl) | (simp [*, errW_none, errW_some] <;> rfl), by first | exact Kd.R_nil _ _ _ _ _ | exact Kd.N_nil _ _ _ _ _ | exact Kd.V_nil _ _ _ _ _ | exact Kd.Q_nil _ _ _ _ _ | exact Kd.S_nil _ _ _ _ _, by repeat (first | (with_reducible first | exact HB.out | apply lA1_ | apply lN_ | apply lD_ | refine lS1_ ?_ a2.out | refine lS1_ ?_ a8.out) | exact HB.out)⟩
  ·rw [if_neg c4] at H
   have c4b0 : (t663 == 1) = false := beq_eq_false_iff_ne.mpr c4
   have c4b1 : (t663 != 1) = true := bne_iff_ne.mpr c4
   replace H := Option.bind_eq_some_iff.mp H
   obtain ⟨t670, ae, H⟩ := H
   try dsimp only at H
   have ai := Aside0.mk ae
   clear ae
   simp only [Option.some.injEq, Prod.mk.injEq] at H
   obtain ⟨rfl, rfl⟩ := H
   go_enter Try.func23, Try.ntmps23
   go_upto_region 7 with (first | ((with_reducible refine gate_dst (N := 2) rfl ?_); refine box_event ?hg (N := 2) ?hd (cs := #[.int .i64 0, .slice none 0 0]) (t := 29) ?hr ?_; (case hd => rfl); (case hg => rfl); (case hr => first | (go_simp; done) | (go_simp; rfl)); intro a1 hg w13 hbox hb; have n0_ := Aside0.mk (lP_ (by repeat (first | (with_reducible first | exact HB.out | apply lA1_ | apply lN_ | apply lD_) | exact HB.out)) hb); have n1_ := Aside0.mk (hbox); have n2_ := Aside0.mk ((by rw [hg]; exact (below_size (by repeat (first | (with_reducible first | exact HB.out | apply lA1_ | apply lN_ | apply lD_) | exact HB.out))) : w.heap.size ≤ a1)); have n3_ := Aside0.mk ((by rw [hg]; exact (below_size (by repeat (first | (with_reducible first | exact HB.out | apply lA1_ | apply lN_ | apply lD_) | exact HB.out))) : w.heap.size ≤ a1)); clear HB; have HB := n0_; have a0 := n1_; have aj := n2_; have a2 := n3_; clear n0_ n1_ n2_ n3_ hb hbox hg) | ((with_reducible refine gate_callee (f := 15) rfl ?_); refine goesA_ (some 5) rfl rfl Try.func15 (by kernel_rfl) rfl #[.slice A0 l0.length c0] rfl ?_; (with_reducible refine (spec_ParsePacket.calls k _ _ l0 t659 t660 t661 t662 t663 t664 t665 t666 _ ?side1 ?side2 A2.out).mono ?_); (case side1 => repeat (first | exact (Kd.C_below ac.out HB.out) | (with_reducible refine Kd.C_alloc ?_ _) | (with_reducible refine Kd.C_drewN ?_ _) | (with_reducible refine Kd.C_drew ?_))); (case side2 => exact ad.out); rintro e w14 ⟨v667, rfl, ho0, hb⟩; refine ⟨_, rfl, ?_⟩; have n0_ := Aside0.mk (Kd.R_lower ho0 (below_size (by repeat (first | (with_reducible first | exact HB.out | apply lA1_ | apply lN_ | apply lD_ | refine lS1_ ?_ a2.out) | exact HB.out)))); have n1_ := Aside0.mk (bB_ (g := a1) (o := .cells #[.int .i64 0, .slice none 0 0] 29 (0, 0)) (by (with_reducible repeat first | apply bN_ | apply bD_ | apply bA_); exact a0.out) hb); have n2_ := Aside0.mk (lP_ (by repeat (first | (with_reducible first | exact HB.out | apply lA1_ | apply lN_ | apply lD_ | refine lS1_ ?_ a2.out) | exact HB.out)) hb); clear a0 HB; have a3 := n0_; have a0 := n1_; have HB := n2_; clear n0_ n1_ n2_; (try clear hb); (try clear hb2); (try clear hk); (try clear hi); (try clear ho0)) | ((with_reducible refine gate_dst (N := 3) rfl ?_); refine box_event ?hg (N := 3) ?hd (cs := #[.int .i64 0, .int .i64 0, .int .i64 0, .int .i64 0, .int .i64 0, .int .i64 0, .int .i64 0, .slice none 0 0]) (t := 36) ?hr ?_; (case hd => rfl); (case hg => rfl); (case hr => first | (go_simp; done) | (go_simp; rfl)); intro a5 hg w15 hbox hb; have n0_ := Aside0.mk (Kd.R_below (by (with_reducible repeat first | apply rA_ | apply rN_ | apply rD_); exact a3.out) hb); have n1_ := Aside0.mk (bB_ (g := a1) (o := .cells #[.int .i64 0, .slice none 0 0] 29 (0, 0)) (by (with_reducible repeat first | apply bN_ | apply bD_ | apply bA_); exact a0.out) hb); have n2_ := Aside0.mk (lP_ (by repeat (first | (with_reducible first | exact HB.out | apply lA1_ | apply lN_ | apply lD_ | refine lS1_ ?_ a2.out) | exact HB.out)) hb); have n3_ := Aside0.mk (hbox); have n4_ := Aside0.mk ((by rw [hg]; exact (below_size (by repeat (first | (with_reducible first | exact HB.out | apply lA1_ | apply lN_ | apply lD_ | refine lS1_ ?_ a2.out) | exact HB.out))) : w.heap.size ≤ a5)); have n5_ := Aside0.mk ((by rw [hg]; exact (below_size (by repeat (first | (with_reducible first | exact HB.out | apply lA1_ | apply lN_ | apply lD_ | refine lS1_ ?_ a2.out) | exact HB.out))) : w.heap.size ≤ a5)); have n6_ := Aside0.mk ((by rw [hg]; exact Nat.ne_of_lt (blk_lt (g := a1) (o := .cells #[.int .i64 0, .slice none 0 0] 29 (0, 0)) (by (with_reducible repeat first | apply bN_ | apply bD_ | apply bA_); exact a0.out)) : a1 ≠ a5)); have n7_ := Aside0.mk ((by rw [hg]; exact Nat.ne_of_gt (blk_lt (g := a1) (o := .cells #[.int .i64 0, .slice none 0 0] 29 (0, 0)) (by (with_reducible repeat first | apply bN_ | apply bD_ | apply bA_); exact a0.out)) : a5 ≠ a1)); clear a3 a0 HB; have a3 := n0_; have a0 := n1_; have HB := n2_; have a6 := n3_; have ak := n4_; have a8 := n5_; have a4 := n6_; have a7 := n7_; clear n0_ n1_ n2_ n3_ n4_ n5_ n6_ n7_ hb hbox hg; have al := a7.out; have am := a4.out; obtain ⟨_, _, _, _, _, _, _, _, _, _, _, _, _, _, _, _⟩ := bc8 a6.out; obtain ⟨aa, a9, eo18⟩ := Kd.R_slice a3.out; subst eo18))
   refine cutw_23 (F := fun W => W.heap[a1]? = some (.cells #[.int .i64 0, .slice none 0 0] 29 (0, 0)) ∧ W.heap[a5]? = some (.cells #[.int .i64 t659, .int .i64 t660, .int .i64 t661, .int .i64 t662, .int .i64 (wrap64 (t663 - 1)), .int .i64 t664, .int .i64 t665, .slice aa t666.length a9] 36 (0, 0)) ∧ Below w.heap.size w W ∧ Kd.R (Kd.int .u8) 5 W w.heap.size (fun k_ => True) (.slice aa t666.length a9) t666) ⟨by (iterate 9 ((with_reducible repeat first | apply bN_ | apply bD_ | apply bA_); refine bF_ ?_ a4.out _)); (with_reducible repeat first | apply bN_ | apply bD_ | apply bA_); exact a0.out, by (with_reducible repeat first | apply bN_ | apply bD_ | apply bA_); refine blk_put (cs := #[.int .i64 t659, .int .i64 t660, .int .i64 t661, .int .i64 t662, .int .i64 t663, .int .i64 t664, .int .i64 t665, .slice aa t666.length a9]) ?_ 4 _ rfl; (with_reducible repeat first | apply bN_ | apply bD_ | apply bA_); apply fill8; (with_reducible repeat first | apply bN_ | apply bD_ | apply bA_); exact a6.out, by repeat (first | (with_reducible first | exact HB.out | apply lA1_ | apply lN_ | apply lD_ | refine lS1_ ?_ a2.out | refine lS1_ ?_ a8.out) | exact HB.out), (by (with_reducible repeat first | apply rA_ | apply rN_ | apply rD_); exact (Kd.R_mono (Kd.R_far (p := ⟨a5, 4, none⟩) (rfar8 (g := a5) (Kd.R_types a3.out a6.out (by decide)) (fun _ hk => hk.2)) (fun _ hk => hk.2) (.int .i64 (wrap64 (t663 - 1)))) (fun _ h_ => h_.1)))⟩ ?_
   rintro w99 ⟨b0_, b1_, b2_, b3_⟩
   clear a0 a6 HB a3
   have a0 := Aside0.mk b0_
   have a6 := Aside0.mk b1_
   have HB := Aside0.mk b2_
   have a3 := Aside0.mk b3_
   clear b0_ b1_ b2_ b3_
   obtain ⟨_, _, _, _⟩ := bc2 a0.out
   obtain ⟨_, _, _, _, _, _, _, _, _, _, _, _, _, _, _, _⟩ := bc8 a6.out
   go_wp2_with (first | ((with_reducible refine gate_callee (f := 61) rfl ?_); refine goesA_ (some 25) rfl rfl Try.func61 (by kernel_rfl) rfl #[.agg #[.int .i64 t660, .int .i64 t661, .int .i64 t662, .int .i64 (wrap64 (t663 - 1)), .int .i64 t664, .int .i64 t665, .slice aa t666.length a9]] rfl ?_; (with_reducible refine (spec_l2Build.calls k t660 t661 t662 (wrap64 (t663 - 1)) t664 t665 _ _ t666 t670 _ ?side1 ?side2 ai.out).mono ?_); (case side1 => refine (Kd.R_reads' (e := 5) (base := w.heap.size) (ok := fun k_ => True) (n := t666.length) (c := a9) ?_).2.2; exact a3.out); (case side2 => exact (Kd.R_reads' a3.out).2.1); rintro e w19 ⟨v671, rfl, ho0, hb⟩; refine ⟨_, rfl, ?_⟩; have n1_ := Aside0.mk (Kd.R_lower (Kd.R_new' ho0 (Kd.R_lt a3.out)) (below_size (by repeat (first | (with_reducible first | exact HB.out | apply lA1_ | apply lN_ | apply lD_ | refine lS1_ ?_ a2.out | refine lS1_ ?_ a8.out) | exact HB.out)))); have n2_ := Aside0.mk (bB_ (g := a1) (o := .cells #[.int .i64 0, .slice none 0 0] 29 (0, 0)) a0.out hb); have n4_ := Aside0.mk (lP_ (by repeat (first | (with_reducible first | exact HB.out | apply lA1_ | apply lN_ | apply lD_ | refine lS1_ ?_ a2.out | refine lS1_ ?_ a8.out) | exact HB.out)) hb); clear a0 HB; have ab := n1_; have a0 := n2_; have HB := n4_; clear n1_ n2_ n4_; (try clear hb); (try clear hb2); (try clear hk); (try clear hi); (try clear ho0); obtain ⟨ag, ah, eo20⟩ := Kd.R_slice ab.out; subst eo20; obtain ⟨_, _, _, _⟩ := bc2 a0.out))
   refine bodyPost_ret (results_cell_row rfl _ _ a1 29 #[.int .i64 0, .slice ag t670.length ah] (0, 0) _ rfl (by (with_reducible repeat first | apply bN_ | apply bD_ | apply bA_); apply fill2; (with_reducible repeat first | apply bN_ | apply bD_ | apply bA_); exact a0.out) Try.underlying29 rfl (by kernel_rfl)) rfl ?_
   exact ⟨_, by first | rfl | (simp [errW_none, errW_some] <;> rfl) | (simp [*, errW_none, errW_some] <;> rfl), by (with_reducible repeat first | apply rA_ | apply rN_ | apply rD_); exact Kd.R_mono (rfar2 (g := a1) (Kd.R_types ab.out a0.out (by decide)) (fun _ hk => hk.2)) (fun _ hk => trivial), by repeat (first | (with_reducible first | exact HB.out | apply lA1_ | apply lN_ | apply lD_ | refine lS1_ ?_ a2.out | refine lS1_ ?_ a8.out) | exact HB.out)⟩
 ·rw [if_neg c3] at H
  have c3b0 : (t659 == 0) = false := beq_eq_false_iff_ne.mpr c3
  have c3b1 : (t659 != 0) = true := bne_iff_ne.mpr c3
  simp only [Option.some.injEq, Prod.mk.injEq] at H
  obtain ⟨rfl, rfl⟩ := H
  go_enter Try.func23, Try.ntmps23
  go_wp2_with (first | ((with_reducible refine gate_dst (N := 2) rfl ?_); refine box_event ?hg (N := 2) ?hd (cs := #[.int .i64 0, .slice none 0 0]) (t := 29) ?hr ?_; (case hd => rfl); (case hg => rfl); (case hr => first | (go_simp; done) | (go_simp; rfl)); intro a1 hg w22 hbox hb; have n0_ := Aside0.mk (lP_ (by repeat (first | (with_reducible first | exact HB.out | apply lA1_ | apply lN_ | apply lD_) | exact HB.out)) hb); have n1_ := Aside0.mk (hbox); have n3_ := Aside0.mk ((by rw [hg]; exact (below_size (by repeat (first | (with_reducible first | exact HB.out | apply lA1_ | apply lN_ | apply lD_) | exact HB.out))) : w.heap.size ≤ a1)); clear HB; have HB := n0_; have a0 := n1_; have a2 := n3_; clear n0_ n1_ n3_ hb hbox hg) | ((with_reducible refine gate_callee (f := 15) rfl ?_); refine goesA_ (some 5) rfl rfl Try.func15 (by kernel_rfl) rfl #[.slice A0 l0.length c0] rfl ?_; (with_reducible refine (spec_ParsePacket.calls k _ _ l0 t659 t660 t661 t662 t663 t664 t665 t666 _ ?side1 ?side2 A2.out).mono ?_); (case side1 => repeat (first | exact (Kd.C_below ac.out HB.out) | (with_reducible refine Kd.C_alloc ?_ _) | (with_reducible refine Kd.C_drewN ?_ _) | (with_reducible refine Kd.C_drew ?_))); (case side2 => exact ad.out); rintro e w23 ⟨v667, rfl, ho0, hb⟩; refine ⟨_, rfl, ?_⟩; have n0_ := Aside0.mk (Kd.R_lower ho0 (below_size (by repeat (first | (with_reducible first | exact HB.out | apply lA1_ | apply lN_ | apply lD_ | refine lS1_ ?_ a2.out) | exact HB.out)))); have n1_ := Aside0.mk (bB_ (g := a1) (o := .cells #[.int .i64 0, .slice none 0 0] 29 (0, 0)) (by (with_reducible repeat first | apply bN_ | apply bD_ | apply bA_); exact a0.out) hb); have n2_ := Aside0.mk (lP_ (by repeat (first | (with_reducible first | exact HB.out | apply lA1_ | apply lN_ | apply lD_ | refine lS1_ ?_ a2.out) | exact HB.out)) hb); clear a0 HB; have a3 := n0_; have a0 := n1_; have HB := n2_; clear n0_ n1_ n2_; (try clear hb); (try clear hb2); (try clear hk); (try clear hi); (try clear ho0)) | ((with_reducible refine gate_dst (N := 3) rfl ?_); refine box_event ?hg (N := 3) ?hd (cs := #[.int .i64 0, .int .i64 0, .int .i64 0, .int .i64 0, .int .i64 0, .int .i64 0, .int .i64 0, .slice none 0 0]) (t := 36) ?hr ?_; (case hd => rfl); (case hg => rfl); (case hr => first | (go_simp; done) | (go_simp; rfl)); intro a5 hg w24 hbox hb; have n0_ := Aside0.mk (Kd.R_below (by (with_reducible repeat first | apply rA_ | apply rN_ | apply rD_); exact a3.out) hb); have n1_ := Aside0.mk (bB_ (g := a1) (o := .cells #[.int .i64 0, .slice none 0 0] 29 (0, 0)) (by (with_reducible repeat first | apply bN_ | apply bD_ | apply bA_); exact a0.out) hb); have n2_ := Aside0.mk (lP_ (by repeat (first | (with_reducible first | exact HB.out | apply lA1_ | apply lN_ | apply lD_ | refine lS1_ ?_ a2.out) | exact HB.out)) hb); have n3_ := Aside0.mk (hbox); have n5_ := Aside0.mk ((by rw [hg]; exact (below_size (by repeat (first | (with_reducible first | exact HB.out | apply lA1_ | apply lN_ | apply lD_ | refine lS1_ ?_ a2.out) | exact HB.out))) : w.heap.size ≤ a5)); have n6_ := Aside0.mk ((by rw [hg]; exact Nat.ne_of_lt (blk_lt (g := a1) (o := .cells #[.int .i64 0, .slice none 0 0] 29 (0, 0)) (by (with_reducible repeat first | apply bN_ | apply bD_ | apply bA_); exact a0.out)) : a1 ≠ a5)); have n7_ := Aside0.mk ((by rw [hg]; exact Nat.ne_of_gt (blk_lt (g := a1) (o := .cells #[.int .i64 0, .slice none 0 0] 29 (0, 0)) (by (with_reducible repeat first | apply bN_ | apply bD_ | apply bA_); exact a0.out)) : a5 ≠ a1)); clear a3 a0 HB; have a3 := n0_; have a0 := n1_; have HB := n2_; have a6 := n3_; have a8 := n5_; have a4 := n6_; have a7 := n7_; clear n0_ n1_ n2_ n3_ n5_ n6_ n7_ hb hbox hg; have an := a7.out; have ao := a4.out; obtain ⟨_, _, _, _, _, _, _, _, _, _, _, _, _, _, _, _⟩ := bc8 a6.out; obtain ⟨av, aw, eo27⟩ := Kd.R_slice a3.out; subst eo27; obtain ⟨_, _, _, _⟩ := bc2 a0.out))
  refine bodyPost_ret (results_cell_row rfl _ _ a1 29 #[.int .i64 t659, .slice none 0 0] (0, 0) _ rfl (by (with_reducible repeat first | apply bN_ | apply bD_ | apply bA_); apply fill2; (iterate 8 ((with_reducible repeat first | apply bN_ | apply bD_ | apply bA_); refine bF_ ?_ a4.out _)); (with_reducible repeat first | apply bN_ | apply bD_ | apply bA_); exact a0.out) Try.underlying29 rfl (by kernel_rfl)) rfl ?_
  exact ⟨_, by first | rfl | (simp [errW_none, errW_some] <;> rfl) | (simp [*, errW_none, errW_some] <;> rfl), by first | exact Kd.R_nil _ _ _ _ _ | exact Kd.N_nil _ _ _ _ _ | exact Kd.V_nil _ _ _ _ _ | exact Kd.Q_nil _ _ _ _ _ | exact Kd.S_nil _ _ _ _ _, by repeat (first | (with_reducible first | exact HB.out | apply lA1_ | apply lN_ | apply lD_ | refine lS1_ ?_ a2.out | refine lS1_ ?_ a8.out) | exact HB.out)⟩
end Go.Proofs.Ytidejdfbapjfiaa.G
namespace Go.Proofs.Ytidejdfbapjfiaa.G
open Go.RowKit Go.Proofs.YtidejdfbapjfiaaW.PrintWords Go.Proofs.YtidejdfbapjfiaaW.PrintLast Go.Proofs.YtidejdfbapjfiaaW.PrintMore
attribute [local go_sem] max2_int min2_int max_two min_two max_three min_three max_four min_four   -- for this text's walks alone
set_option linter.unusedVariables false
set_option linter.unusedSimpArgs false
set_option maxHeartbeats 4000000 in
set_option maxRecDepth 100000 in
theorem slices_Concat_byte_byte.grow (n : Int) (w : World) (h0 : 0 ≤ n) (h1 : n ≤ 140737488355328) :
    Calls Try.prog 73 #[.slice none 0 0, .int .i64 n] w fun e w' => ∃ v0_ : Value, e = .returned (v0_) ∧ Kd.R (Kd.int .u8) 5 w' w.heap.size (fun _ => True) v0_ ([] : List (Int)) ∧ Below w.heap.size w w' := by
  by_cases hn : 0 < n
  · have HB := Aside0.mk (Below.refl w.heap.size w)
    have HN := Aside0.mk h1
    have hd : decide (n < 0) = false := decide_eq_false (by omega)
    have hd2 : decide (0 < n) = true := decide_eq_true hn
    go_enter Try.func73, Try.ntmps73
    go_wp2_with (first | ((with_reducible refine gate_builtin (b := .append) (xs := #[.tmp 20, .tmp 21]) rfl ?_); at_builtin; refine Kd.R_append_zeros (Kd.int .u8) (w0 := w) w.heap.size rfl (.tmp 20) (.tmp 21) 22 3 5 (.int .u8 0) 1 rfl Try.underlying22 Try.underlying3 info5 rfl (by decide) (by omega) (.slice none 0 0) [] 0 n (fun _ => True) rfl rfl rfl (fun _ _ => trivial) ?aO h0 ?aB ?aS ?aL ?_; (case aO => exact Kd.R_nil _ _ _ _ _); (case aB => exact HB.out); (case aS => exact below_size HB.out); (case aL => have := HN.out; simp; omega); intro v1 w1 ho hb hg hat; obtain ⟨ad, c1, hv1⟩ := Kd.R_slice1 ho (by simp; omega); subst hv1; have n0_ := Aside0.mk hb; have n1_ := Aside0.mk (Kd.R_take (m := 0) ho (Nat.zero_le _)); clear HB; have HB := n0_; have HO := n1_; clear n0_ n1_ ho hb hg hat))
    go_ret
    exact ⟨_, rfl, HO.out, HB.out⟩
  · obtain rfl : n = 0 := by omega
    go_enter Try.func73, Try.ntmps73
    go_wp2
    go_ret
    exact ⟨_, rfl, Kd.R_nil _ _ _ _ _, Below.refl _ _⟩
def slices_Concat_byte_byte.f (l0 : List (List (Int))) : Option (List (Int)) := if l0.flatten.length * 1 ≤ 140737488355328 then some l0.flatten else none
theorem slices_Concat_byte_byte.flat_take {α : Type} (l : List (List α)) (i : Nat) (h : i < l.length) : (l.take (i + 1)).flatten = (l.take i).flatten ++ l.getD i [] := by
  rw [List.take_succ_eq_append_getElem h, List.flatten_append]
  simp [List.getD, List.getElem?_eq_getElem h]
theorem slices_Concat_byte_byte.flat_take_le {α : Type} (l : List (List α)) (i : Nat) : (l.take i).flatten.length ≤ l.flatten.length := by
  have h := congrArg List.length (congrArg List.flatten (List.take_append_drop i l))
  rw [List.flatten_append, List.length_append] at h
  omega
set_option maxHeartbeats 4000000 in
set_option maxRecDepth 100000 in
theorem slices_Concat_byte_byte.calls (A0 : Option Addr) (c0 : Nat) (l0 : List (List (Int))) (r : List (Int)) (w : World) (hr0 : Kd.C (Kd.slice 5 (Kd.int .u8)) w A0 l0.length l0) (hc0 : l0.length ≤ c0) (h : slices_Concat_byte_byte.f l0 = some r) :
    Calls Try.prog 49 #[.slice A0 l0.length c0] w fun e w' => ∃ v0_ : Value, e = .returned (v0_) ∧ Kd.R (Kd.int .u8) 5 w' w.heap.size (fun _ => True) v0_ r ∧ Below w.heap.size w w' := by
  unfold slices_Concat_byte_byte.f at h
  by_cases hb : l0.flatten.length * 1 ≤ 140737488355328
  · rw [if_pos hb] at h
    obtain rfl := Option.some.inj h
    clear h
    have HL := Aside0.mk hb
    clear hb
    have HN := Aside0.mk hr0.2.1
    have HR := Aside0.mk hr0
    clear hr0
    go_enter Try.func49, Try.ntmps49
    go_wp2_with fail
    go_loopg [3, 11] l0.length (fun kq v3 v11 w' => ∃ i m : Nat, v11 = .int .i64 i ∧ v3 = .int .i64 m ∧ Aside0 (m = (l0.take i).flatten.length) ∧ Aside0 (i + kq = l0.length) ∧ Aside0 (w = w'))
    case atStart => exact ⟨0, 0, rfl, by simp, ⟨by simp⟩, ⟨by omega⟩, ⟨rfl⟩⟩
    case round =>
      obtain ⟨i, m, rfl, rfl, HM, HI, HW⟩ := hrel
      obtain rfl := HW.out
      clear HW
      have hi1 : i ≤ l0.length := by have := HI.out; omega
      have hi2 : l0.length ≤ 9223372036854775807 := HN.out
      by_cases hlt : i < l0.length
      · obtain ⟨ad, A1, c1, hA, hcell, hle, hin⟩ := at_L2 HR.out (i : Int) (by omega) (by omega)
        subst hA
        obtain ⟨ys, hys⟩ : ∃ ys, ys = rd_L2 l0 (i : Int) := ⟨_, rfl⟩
        have hE := slices_Concat_byte_byte.flat_take l0 i hlt
        have hE2 : l0.getD i [] = ys := by rw [hys]; simp [rd_L2]
        rw [hE2] at hE
        rw [← hys, Int.toNat_natCast] at hcell
        clear hin hle hE2 hys
        have hb1 : (l0.take (i + 1)).flatten.length ≤ 140737488355328 := by have := slices_Concat_byte_byte.flat_take_le l0 (i + 1); have := HL.out; omega
        have hb2 : m + ys.length = (l0.take (i + 1)).flatten.length := by
          have := congrArg List.length hE
          rw [List.length_append, ← HM.out] at this
          omega
        have hb3 : m + ys.length ≤ 140737488355328 := by omega
        have HE := Aside0.mk hb2
        clear hE hb1 hb2
        go_wp2
        go_roundg (gk - 1)
        case measure => have := HI.out; omega
        case rel => exact ⟨i + 1, m + ys.length, by go_num, by go_num, HE, ⟨by have := HI.out; omega⟩, ⟨rfl⟩⟩
      · have HC0 := HR
        have hm1 : (m : Int) ≤ 140737488355328 := by have := slices_Concat_byte_byte.flat_take_le l0 i; have := HL.out; have := HM.out; omega
        have hm0 : (0 : Int) ≤ m := by omega
        clear HM HI
        go_wp2_with (go_at_call 73; refine (slices_Concat_byte_byte.grow (m : Int) _ hm0 hm1).mono ?_; rintro e w1 ⟨v1, rfl, ho, hb⟩; have HO := Aside0.mk ho; have HB := Aside0.mk hb; clear ho hb HR)
        go_loopg [6, 27] l0.length (fun kq v6 v27 w' => ∃ i : Nat, v27 = .int .i64 i ∧ Aside0 (i + kq = l0.length) ∧ Aside0 (Kd.R (Kd.int .u8) 5 w' w.heap.size (fun _ => True) v6 (l0.take i).flatten) ∧ Aside0 (Below w.heap.size w w'))
        case atStart => exact ⟨0, rfl, ⟨by omega⟩, ⟨by simpa using HO.out⟩, HB⟩
        case round =>
          clear HO HB hm0 hm1
          obtain ⟨i, rfl, HI, HO, HB⟩ := hrel
          have hi1 : i ≤ l0.length := by have := HI.out; omega
          by_cases hlt : i < l0.length
          · have HC' := Kd.C_below HC0.out HB.out
            obtain ⟨ad, A1, c1, hA, hcell, hle, hin⟩ := at_L2 HC' (i : Int) (by omega) (by omega)
            subst hA
            obtain ⟨ys, hys⟩ : ∃ ys, ys = rd_L2 l0 (i : Int) := ⟨_, rfl⟩
            have hE := slices_Concat_byte_byte.flat_take l0 i hlt
            have hE2 : l0.getD i [] = ys := by rw [hys]; simp [rd_L2]
            rw [hE2] at hE
            rw [← hys] at hin
            rw [← hys, Int.toNat_natCast] at hcell
            have hb1 : (l0.take (i + 1)).flatten.length ≤ 140737488355328 := by have := slices_Concat_byte_byte.flat_take_le l0 (i + 1); have := HL.out; omega
            have hb2 : (l0.take i).flatten.length + ys.length = (l0.take (i + 1)).flatten.length := by
              have := congrArg List.length hE
              rw [List.length_append] at this
              omega
            have HE := Aside0.mk hE
            have HS := Aside0.mk (show ((l0.take i).flatten.length + ys.length) * 1 ≤ 140737488355328 by omega)
            have HIN := Aside0.mk hin
            obtain ⟨xs, hxs⟩ : ∃ xs, xs = (l0.take i).flatten := ⟨_, rfl⟩
            rw [← hxs] at HO HE HS
            clear hle hE2 hys hE hb1 hb2 hin HC' hxs
            go_wp2_with ((with_reducible refine gate_builtin (b := .append) (xs := #[.tmp 31, .tmp 32]) rfl ?_); at_builtin; refine Kd.R_append_rows (Kd.int .u8) (Rr := (Kd.int .u8).K wr) (w0 := w) w.heap.size rfl (.tmp 31) (.tmp 32) 22 5 (.int .u8 0) 1 rfl Try.underlying22 info5 rfl (by decide) (by omega) u6 xs ys A1 ys.length c1 (fun _ => True) (fun _ => False) rfl rfl ?aO ?aR (fun _ _ h => h) (fun _ hk => hk.elim) (fun _ _ => trivial) ?aB ?aS ?aL ?_; (case aO => exact HO.out); (case aR => exact HIN.out); (case aB => exact HB.out); (case aS => exact below_size HB.out); (case aL => exact HS.out); intro v1 w2 ho hb hg hat; have HO2 := Aside0.mk ho; have HB2 := Aside0.mk hb; clear ho hb hg hat)
            go_roundg (gk - 1)
            case measure => have := HI.out; omega
            case rel => exact ⟨i + 1, by go_num, ⟨by have := HI.out; omega⟩, ⟨by rw [HE.out]; exact HO2.out⟩, HB2⟩
          · go_wp2
            go_ret
            exact ⟨u6, rfl, by have := HO.out; rwa [List.take_of_length_le (by omega)] at this, HB.out⟩
  · rw [if_neg hb] at h; cases h
end Go.Proofs.Ytidejdfbapjfiaa.G
namespace Go.Proofs.Ytidejdfbapjfiaa.G
open Go.RowKit Go.Proofs.YtidejdfbapjfiaaW.PrintWords Go.Proofs.YtidejdfbapjfiaaW.PrintLast Go.Proofs.YtidejdfbapjfiaaW.PrintMore
attribute [local go_sem] max2_int min2_int max_two min_two max_three min_three max_four min_four   -- for this text's walks alone
set_option linter.unusedVariables false
set_option linter.unusedSimpArgs false
def impl_put.l0 : Nat → Int → List Int → Int → Option (List Int)
 | 0, _, _, _ => none
 | k + 1, x0, x5, x6 => if x6 ≥ 0 then (if 0 ≤ x6 then (if x6 < (x5.length : Int) then (impl_put.l0 k (x0 / 256) (x5.set (x6 : Int).toNat ((x0) % 256)) (wrap64 (x6 - 1))) else (none)) else (none)) else (some x5)
def impl_put.f (k : Nat) (a0 : Int) (a1 : Int) : Option (List Int) := if 0 ≤ a1 then (if (a1 : Int).toNat ≤ 281474976710656 then (impl_put.l0 k a0 (List.replicate (a1 : Int).toNat 0) (wrap64 (a1 - 1))) else (none)) else (none)
set_option maxHeartbeats 8000000 in
set_option maxRecDepth 100000 in
theorem impl_put.calls (k : Nat) (a0 : Int) (a1 : Int) (r : List Int) (w : World) (h : impl_put.f k a0 a1 = some r) :
  Calls Try.prog 50 #[.int .i64 a0, .int .i64 a1] w fun e w' => ∃ v0_ : Value, e = .returned (v0_) ∧ Kd.R (Kd.int .u8) 5 w' w.heap.size (fun _ => True) v0_ r ∧ Below w.heap.size w w' := by
 have HB := Aside0.mk (Below.refl w.heap.size w)
 have H : (if 0 ≤ a1 then (if (a1 : Int).toNat ≤ 281474976710656 then (impl_put.l0 k a0 (List.replicate (a1 : Int).toNat 0) (wrap64 (a1 - 1))) else (none)) else (none)) = some r := h
 clear h
 by_cases c3 : 0 ≤ a1
 ·rw [if_pos c3] at H
  have c3b0 := eq_true c3
  have c3b1 : decide (0 ≤ a1) = true := decide_eq_true c3
  clear c3
  by_cases c4 : (a1 : Int).toNat ≤ 281474976710656
  ·rw [if_pos c4] at H
   have c4b0 := eq_true c4
   have c4b1 : decide ((a1 : Int).toNat ≤ 281474976710656) = true := decide_eq_true c4
   clear c4
   obtain ⟨y208, hy208⟩ : ∃ y_ : List Int, y_ = (List.replicate (a1 : Int).toNat 0) := ⟨_, rfl⟩
   replace H : (impl_put.l0 k a0 y208 (wrap64 (a1 - 1))) = some r := by first | (rw [hy208]; with_reducible exact H) | (have H2_ := (Option.bind_some _ _).symm.trans H; rw [hy208]; with_reducible exact H2_) | (have H2_ := (Option.bind_some _ _).symm.trans H; with_reducible exact H2_) | with_reducible exact H | (rw [hy208]; exact H) | exact H
   have a3 := Aside0.mk hy208
   clear hy208
   have H' := Aside0.mk H
   clear H
   go_enter Try.func50, Try.ntmps50
   go_wp2_with (first | ((with_reducible refine gate_dst (N := 8) rfl ?_); refine Kd.R_make (Kd.int .u8) _ 5 rfl (N := 8) rfl 22 _ _ rfl a1 rfl rfl Try.underlying22 (.int .u8 0) 1 info5 rfl (by decide) (by omega) 0 (ok := fun _ => True) (okp := fun _ => True) rfl (fun _ hk => hk) trivial (of_decide_eq_true (by first | (with_reducible assumption) | assumption)) (Nat.le_trans (Nat.mul_le_mul_right _ (of_decide_eq_true (by first | (with_reducible assumption) | assumption) : a1.toNat ≤ 281474976710656)) (by omega)) (Below.refl _ _) (Nat.le_refl _) ?_; intro v209 w5 ho6 hb hg_ hnew_; clear hg_ hnew_; (first | rw [← a3.out] at ho6 | (simp only [Int.reduceToNat] at ho6; rw [← a3.out] at ho6)); have n0_ := Aside0.mk (Kd.R_lower ho6 (below_size (by repeat (first | (with_reducible first | exact HB.out | apply lA1_ | apply lN_ | apply lD_) | exact HB.out)))); have n1_ := Aside0.mk (lP_ (by repeat (first | (with_reducible first | exact HB.out | apply lA1_ | apply lN_ | apply lD_) | exact HB.out)) hb); clear HB; have a5 := n0_; have HB := n1_; clear n0_ n1_ hb ho6))
   go_loopg [0, 6] k (fun kq v0 v6 w' => ∃ (x0_1 : Int) (x5_1 : List Int) (x6_1 : Int), v0 = .int .i64 x0_1 ∧ v6 = .int .i64 x6_1 ∧ Aside0 (impl_put.l0 kq x0_1 x5_1 x6_1 = some r) ∧ Aside0 (kq ≤ k) ∧ Aside0 (Kd.R (Kd.int .u8) 5 w' w.heap.size (fun _ => True) v209 x5_1) ∧ Aside0 (Below w.heap.size w w'))
   case atStart => exact ⟨(a0), (y208), (wrap64 (a1 - 1)), (by first | rfl | (simp; done) | (simp [*]; done)), (by first | rfl | (simp; done) | (simp [*]; done)), H', ⟨Nat.le_refl _⟩, ⟨by (with_reducible repeat first | apply rA_ | apply rN_ | apply rD_); exact a5.out⟩, ⟨by repeat (first | (with_reducible first | exact HB.out | apply lA1_ | apply lN_ | apply lD_) | exact HB.out)⟩⟩
   case round =>
    clear H'
    try clear p2
    try clear c3
    try clear c3b0
    try clear c3b1
    try clear c4
    try clear c4b0
    try clear c4b1
    try clear c5
    try clear p6
    obtain ⟨x0_1, x5_1, x6_1, rfl, rfl, HA, HK1, a2, HB⟩ := hrel
    cases gk with
    | zero => exact absurd HA.out (by simp [impl_put.l0])
    | succ k1 =>
     have H := HA.out
     clear HA
     simp only [impl_put.l0] at H
     by_cases c7 : x6_1 ≥ 0
     ·rw [if_pos c7] at H
      have c7b0 : decide (0 ≤ x6_1) = true := decide_eq_true c7
      clear c7
      by_cases c8 : 0 ≤ x6_1
      ·rw [if_pos c8] at H
       have c8b0 : decide (0 ≤ x6_1) = true := decide_eq_true c8
       clear c8
       by_cases c9 : x6_1 < (x5_1.length : Int)
       ·rw [if_pos c9] at H
        have c9b0 : decide (x6_1 < (x5_1.length : Int)) = true := decide_eq_true c9
        clear c9
        obtain ⟨y211, hy211⟩ : ∃ y_ : List Int, y_ = (x5_1.set (x6_1 : Int).toNat ((x0_1) % 256)) := ⟨_, rfl⟩
        replace H : (impl_put.l0 k1 (x0_1 / 256) y211 (wrap64 (x6_1 - 1))) = some r := by first | (rw [hy211]; with_reducible exact H) | (have H2_ := (Option.bind_some _ _).symm.trans H; rw [hy211]; with_reducible exact H2_) | (have H2_ := (Option.bind_some _ _).symm.trans H; with_reducible exact H2_) | with_reducible exact H | (rw [hy211]; exact H) | exact H
        have a6 := Aside0.mk hy211
        clear hy211
        have H' := Aside0.mk H
        clear H
        have p10 : 0 ≤ (x6_1 : Int) := of_decide_eq_true (by first | (with_reducible assumption) | assumption)
        have q10 : (x6_1 : Int) < ((x5_1.length : Int) : Int) := of_decide_eq_true (by first | (with_reducible assumption) | assumption)
        obtain ⟨go10, a7, eo10, a4, gl10, cl10, HG10⟩ := Kd.R_form a2.out (by omega)
        (first | cases eo10 | (injection eo10 with ea_ en_ ec_; (first | subst ea_ | (injection ea_ with ea_; subst ea_)); subst ec_; clear en_))
        have a8 := Aside0.mk a4
        have GG10 := Aside0.mk HG10
        clear a4 gl10 HG10
        obtain ⟨hx10_0, hf10_0⟩ := Kd.R_celln 0 a2.out (x6_1 : Int) p10 q10
        replace p10 := eq_true p10
        replace q10 := eq_true q10
        have HP11 := Kd.R_putg a2.out (x6_1 : Int) ((x0_1) % 256)
        go_wp2_with (first | ((with_reducible refine gate_store (t := 5) (p := 19) rfl ?_); refine store_event (t := 5) (p := 19) (v := ?vo_w12) (w1 := (wr.setCell ⟨go10, (x6_1 : Int).toNat, none⟩ (.int .u8 ((x0_1) % 256)))) ?hg ?ho ?hn ?hr ?_; (case ho => rfl); (case hg => rfl); (case hn => rfl); (case hr => first | (go_simp; done) | (go_simp; rfl)); intro w12 hw; have hg : wr.grownBy w12 (some go10) := (by rw [hw]; exact HP11.2); have hp_ : Kd.R (Kd.int .u8) 5 w12 w.heap.size (fun _ => True) (.slice (some ⟨go10, 0, none⟩) x5_1.length a7) y211 := (by rw [hw, a6.out]; exact HP11.1); clear HP11; have n0_ := Aside0.mk (hp_); have n1_ := Aside0.mk ((by rw [hw]; exact lS1_ (HB.out) a8.out : Below w.heap.size w w12)); clear a2 HB; have a2 := n0_; have HB := n1_; clear n0_ n1_ hg hw hp_))
        go_roundg k1
        case measure => have := HK1.out; omega
        case rel => exact ⟨(x0_1 / 256), (y211), (wrap64 (x6_1 - 1)), (by first | rfl | (simp; done) | (simp [*]; done)), (by first | rfl | (simp; done) | (simp [*]; done)), H', ⟨by have := HK1.out; omega⟩, ⟨by (with_reducible repeat first | apply rA_ | apply rN_ | apply rD_); exact a2.out⟩, ⟨by repeat (first | (with_reducible first | exact HB.out | apply lA1_ | apply lN_ | apply lD_) | exact HB.out)⟩⟩
       ·rw [if_neg c9] at H
        exact absurd H (by simp)
      ·rw [if_neg c8] at H
       exact absurd H (by simp)
     ·rw [if_neg c7] at H
      have c7b0 : decide (0 ≤ x6_1) = false := decide_eq_false c7
      clear c7
      obtain rfl := Option.some.inj H
      go_wp2
      go_ret
      exact ⟨_, by first | rfl | (simp [errW_none, errW_some] <;> rfl) | (simp [*, errW_none, errW_some] <;> rfl), by (with_reducible repeat first | apply rA_ | apply rN_ | apply rD_); exact a2.out, by repeat (first | (with_reducible first | exact HB.out | apply lA1_ | apply lN_ | apply lD_) | exact HB.out)⟩
  ·rw [if_neg c4] at H
   exact absurd H (by simp)
 ·rw [if_neg c3] at H
  exact absurd H (by simp)
end Go.Proofs.Ytidejdfbapjfiaa.G
namespace Go.Proofs.Ytidejdfbapjfiaa.G
open Go.RowKit Go.Proofs.YtidejdfbapjfiaaW.PrintWords Go.Proofs.YtidejdfbapjfiaaW.PrintLast Go.Proofs.YtidejdfbapjfiaaW.PrintMore
attribute [local go_sem] max2_int min2_int max_two min_two max_three min_three max_four min_four   -- for this text's walks alone
set_option linter.unusedVariables false
set_option linter.unusedSimpArgs false
theorem step_copy_row {P : Program} {ops : Array Oper} {o : Oper} {a : Act} {w : World} {K : Act → World → Prop} {Q : Exit → Act → World → Prop} {E : Prop} (hgd : o.guard = none) (d s : Operand) (dT sT : TypeId)
    (ho : o.op = .call { callee := .builtin .copy, args := #[d, s], argTypes := #[dT, sT] }) (elem : TypeId) (hu : P.underlying dT = some (.slice elem)) (hsz : (P.info? elem).map (·.size) = some 1)
    (g off dLen dCap : Nat) (ad : Addr) (sLen sCap : Nat) (hd : a.eval d = .slice (some ⟨g, off, none⟩) dLen dCap) (hs : a.eval s = .slice (some ad) sLen sCap)
    (cur : Array Value) (t : TypeId) (hg : w.heap[g]? = some (.cells cur t (0, 0))) (cs : List Value) (hn : cs.length = Nat.min sLen dLen)
    (hsrc : ∀ j v, cs[j]? = some v → w.cell? (ad.add j) = some v) (hfit : off + cs.length ≤ cur.size) (h1 : ∀ v ∈ cs, v.oneCell' = true)
    (h : K (a.put o.dst (goInt cs.length)) (w.setRow g (cur.toList.take off ++ (cs ++ cur.toList.drop (off + cs.length))).toArray)) :
    if Region.wanted o (yielded ops a.tmps) = true then Oper.wp P o a w K Q else E := by
  have hw : Region.wanted o (yielded ops a.tmps) = true := by simp [Region.wanted, hgd]
  rw [if_pos hw]
  have hrun := run_copy_row (P := P) w dT sT o.type elem g off dLen dCap ad sLen sCap cur t cs hu hsz hg hn hsrc hfit h1
  unfold Oper.wp
  simp [execOp, ho, resolve, invoke, builtin, hd, hs, hrun, Result.andThen]
  exact h
theorem build_open {w : World} {base : Nat} {ok : Nat → Prop} {v : Value} {xs : List Int} (h : Kd.R (Kd.int .u8) 5 w base ok v xs) (hx : 0 < xs.length) :
    ∃ (g c : Nat) (cur : Array Value), v = .slice (some ⟨g, 0, none⟩) xs.length c ∧ w.heap[g]? = some (.cells cur 5 (0, 0)) ∧ ok g ∧ base ≤ g ∧ xs.length ≤ c ∧ c ≤ maxLen ∧ cur.size = c ∧ cur.toList.take xs.length = xs.map (Value.int .u8) := by
  obtain ⟨_, ho⟩ := Kd.own_of_R h
  rcases ho with ⟨_, e0⟩ | ⟨g, cap, cur, e, hb, hg, h3, h4, h5, h6⟩
  · omega
  · subst e
    exact ⟨g, cap, cur, rfl, hg, h.1 g rfl, hb, h3, h4, by omega, by rw [Nat.mul_one] at h6; exact h6⟩
theorem build_src {w : World} {g : Nat} {cur : Array Value} {xs : List Int} (hg : w.heap[g]? = some (.cells cur 5 (0, 0))) (ht : cur.toList.take xs.length = xs.map (Value.int .u8)) :
    ∀ j v, (xs.map (Value.int .u8))[j]? = some v → w.cell? ((⟨g, 0, none⟩ : Addr).add j) = some v := by
  intro j v hv
  have e : (⟨g, 0, none⟩ : Addr).add j = ⟨g, j, none⟩ := by simp [Addr.add, eq_comm]
  have hj : j < xs.length := by
    have := (List.getElem?_eq_some_iff.1 hv).1
    simpa using this
  rw [e, blk_cell hg j, ← Array.getElem?_toList]
  rw [← ht, List.getElem?_take_of_lt hj] at hv
  exact hv
theorem splice_len {α : Type} (L : List α) (off : Nat) (cs : List α) (h : off + cs.length ≤ L.length) : (splice L off cs).length = L.length := by
  simp [splice]; omega
theorem build_after {w : World} {base g c : Nat} {cur : Array Value} {xs zs : List Int} (hb : base ≤ g) (hg : w.heap[g]? = some (.cells cur 5 (0, 0))) (hc : xs.length ≤ c) (hm : c ≤ maxLen) (hs : cur.size = c)
    (ht : cur.toList.take xs.length = xs.map (Value.int .u8)) (hx : xs.length = 20) (hz : zs.length = 2) :
    Kd.R (Kd.int .u8) 5 (w.setRow g (cur.toList.take 10 ++ (zs.map (Value.int .u8) ++ cur.toList.drop (10 + 2))).toArray) base (fun _ => True) (.slice (some ⟨g, 0, none⟩) xs.length c) (splice xs 10 zs) := by
  have hl : (splice xs 10 zs).length = xs.length := splice_len _ _ _ (by omega)
  have hcl : cur.toList.length = c := by simpa using hs
  have hcur : cur.toList = xs.map (Value.int .u8) ++ cur.toList.drop xs.length := by rw [← ht, List.take_append_drop]
  refine Kd.R_of_own ⟨by simp [encs], .inr ⟨g, c, _, by rw [hl], hb, setRow_heap w g cur _ 5 (0, 0) hg, by omega, hm, ?_, ?_⟩⟩ (fun _ _ => trivial)
  · simp; omega
  · rw [hl, Nat.mul_one]
    have e1 : cur.toList.take 10 = (xs.take 10).map (Value.int .u8) := by
      rw [hcur, List.take_append_of_le_length (by simp; omega), List.map_take]
    have e2 : cur.toList.drop (10 + 2) = (xs.drop 12).map (Value.int .u8) ++ cur.toList.drop xs.length := by
      conv => lhs; rw [hcur]
      rw [List.drop_append_of_le_length (by simp; omega), List.map_drop]
    have e3 : (cur.toList.take 10 ++ (zs.map (Value.int .u8) ++ cur.toList.drop (10 + 2))).toArray.toList = (splice xs 10 zs).map (Value.int .u8) ++ cur.toList.drop xs.length := by
      rw [e1, e2]
      simp [splice, hz]
    rw [e3, List.take_append_of_le_length (by simp [hl]), List.take_of_length_le (by simp [hl])]
    rfl
theorem build_keep {w w' : World} {base : Nat} {ok : Nat → Prop} {v : Value} {xs : List Int} (h : Kd.R (Kd.int .u8) 5 w base ok v xs) (hk : ∀ k, v.ownBlock = some k → w'.heap[k]? = w.heap[k]?) : Kd.R (Kd.int .u8) 5 w' base ok v xs := by
  obtain ⟨hl, ho⟩ := Kd.own_of_R h
  refine Kd.R_of_own ⟨hl, ?_⟩ h.1
  rcases ho with h0 | ⟨g, cap, cur, e, hb, hg, hr⟩
  · exact .inl h0
  · exact .inr ⟨g, cap, cur, e, hb, (hk g (by rw [e]; rfl)).trans hg, hr⟩
theorem build_FK {w : World} {base : Nat} {ok : Nat → Prop} {A : Option Addr} {n c : Nat} {xs : List Int} (hn : n = xs.length) (h : Kd.R (Kd.int .u8) 5 w base ok (.slice A n c) xs) : Kd.FK (Kd.slice 5 (Kd.int .u8)) w ok xs [.slice A n c] := by
  subst hn
  exact Kd.FK_slice_mk (Kd.R_reads' h).2.1 (Kd.R_F h)
def impl_build.j0 : Nat → List Int → Int → Int → Int → Int → Int → Int → List Int → Option (List Int)
 | 0, _, _, _, _, _, _, _, _ => none
 | k + 1, x3, x674000, x674001, x674002, x674003, x674004, x674005, x674006 => (impl_put.f k (wrap64 ((wrap64 (20 + (x3.length : Int))) + (x674006.length : Int))) 2).bind fun t690 => ((impl_put.f k x674000 4).bind fun t699 => ((impl_put.f k x674001 4).bind fun t702 => ((slices_Concat_byte_byte.f (([(([69, 0] : List Int)), t690, (([0, 0, 64, 0, (x674003) % 256, (x674002) % 256, 0, 0] : List Int)), t699, t702] : List (List Int)))).bind fun t708 => ((impl_SumWords.f k t708).bind fun ts_ => ((impl_put.f k ts_ 2).bind fun tz_ => (if t708.length = 20 ∧ tz_.length = 2 then ((slices_Concat_byte_byte.f (([splice t708 10 tz_, x3, x674006] : List (List Int)))).bind fun t714 => (some t714)) else (none)))))))
def impl_build.f (k : Nat) (a0_0 : Int) (a0_1 : Int) (a0_2 : Int) (a0_3 : Int) (a0_4 : Int) (a0_5 : Int) (l0_6 : List Int) : Option (List Int) := (impl_HasPorts.f a0_2).bind fun t677 => (if t677 = true then ((impl_put.f k a0_4 2).bind fun t678 => ((impl_put.f k a0_5 2).bind fun t681 => ((slices_Concat_byte_byte.f (([t678, t681] : List (List Int)))).bind fun t687 => (impl_build.j0 k t687 a0_0 a0_1 a0_2 a0_3 a0_4 a0_5 l0_6)))) else (impl_build.j0 k (([] : List Int)) a0_0 a0_1 a0_2 a0_3 a0_4 a0_5 l0_6))
def impl_build.T3 : Bool × List (List Nat × List Nat) := (true, [([], []), ([0], [0]), ([1], [1]), ([], []), ([3], [3]), ([4, 2], [4]), ([2, 5], [2, 5]), ([6, 5], [6]), ([7, 7, 0, 1, 2, 3, 4, 5, 6, 7], [7])])
def impl_build.B3 : List Nat := [0, 1, 3, 0, 8, 31, 63, 127, 255]
theorem impl_build.tab3 : rtab .any (opsOf Try.f62 3) = impl_build.T3 := by kernel_rfl
theorem impl_build.bits3 : waitsOk impl_build.T3.2 impl_build.B3 = true := by kernel_rfl
def impl_build.T5 : Bool × List (List Nat × List Nat) := (true, [([], []), ([], []), ([], []), ([2], [2]), ([3], [3]), ([], []), ([5], [5]), ([6], [6]), ([4, 7], [4, 7]), ([], []), ([9], [9]), ([10], [10]), ([], []), ([12], [12]), ([13, 11], [13]), ([0, 1, 8, 11, 14], [0, 1, 8, 11, 14]), ([15, 14], [15]), ([16, 16, 0, 1, 2, 3, 4, 5, 6, 7, 8, 9, 10, 11, 12, 13, 14, 15, 16], [16])])
def impl_build.B5 : List Nat := [0, 0, 0, 4, 12, 0, 32, 96, 252, 0, 512, 1536, 0, 4096, 15872, 32767, 65535, 131071]
theorem impl_build.tab5 : rtab .any (opsOf Try.f62 5) = impl_build.T5 := by kernel_rfl
theorem impl_build.bits5 : waitsOk impl_build.T5.2 impl_build.B5 = true := by kernel_rfl
set_option maxHeartbeats 8000000 in
set_option maxRecDepth 100000 in
theorem impl_build.callsV (k : Nat) (a0_0 : Int) (a0_1 : Int) (a0_2 : Int) (a0_3 : Int) (a0_4 : Int) (a0_5 : Int) (P0_6_ : Nat → Prop) (A0_6 : Option Addr) (c0_6 : Nat) (l0_6 : List Int) (r : List Int) (w : World) (hs0_6 : Kd.V (Kd.int .u8) 5 w w.heap.size (fun k_ => P0_6_ k_) (.slice A0_6 l0_6.length c0_6) l0_6) (h : impl_build.f k a0_0 a0_1 a0_2 a0_3 a0_4 a0_5 l0_6 = some r) :
  Calls Try.prog 62 #[.agg #[.int .i64 a0_0, .int .i64 a0_1, .int .i64 a0_2, .int .i64 a0_3, .int .i64 a0_4, .int .i64 a0_5, .slice A0_6 l0_6.length c0_6]] w fun e w' => ∃ v0_ : Value, e = .returned (v0_) ∧ Kd.R (Kd.int .u8) 5 w' w.heap.size (fun k_ => (w.heap.size ≤ k_)) v0_ r ∧ Below w.heap.size w w' := by
 have hu34 := Try.underlying34
 have a8 := Aside0.mk (show Kd.V (Kd.int .u8) 5 w w.heap.size (fun k_ => (P0_6_ k_ ∨ w.heap.size ≤ k_)) (.slice A0_6 l0_6.length c0_6) l0_6 from Kd.V_mono hs0_6 (fun k_ hk => .inl hk))
 have HB := Aside0.mk (Below.refl w.heap.size w)
 have H : ((impl_HasPorts.f a0_2).bind fun t677 => (if t677 = true then ((impl_put.f k a0_4 2).bind fun t678 => ((impl_put.f k a0_5 2).bind fun t681 => ((slices_Concat_byte_byte.f (([t678, t681] : List (List Int)))).bind fun t687 => (impl_build.j0 k t687 a0_0 a0_1 a0_2 a0_3 a0_4 a0_5 l0_6)))) else (impl_build.j0 k (([] : List Int)) a0_0 a0_1 a0_2 a0_3 a0_4 a0_5 l0_6))) = some r := h
 clear h
 obtain ⟨y674, hy674⟩ : ∃ y_ : List Int, y_ = (([] : List Int)) := ⟨_, rfl⟩
 replace H : ((impl_HasPorts.f a0_2).bind fun t677 => (if t677 = true then ((impl_put.f k a0_4 2).bind fun t678 => ((impl_put.f k a0_5 2).bind fun t681 => ((slices_Concat_byte_byte.f (([t678, t681] : List (List Int)))).bind fun t687 => (impl_build.j0 k t687 a0_0 a0_1 a0_2 a0_3 a0_4 a0_5 l0_6)))) else (impl_build.j0 k y674 a0_0 a0_1 a0_2 a0_3 a0_4 a0_5 l0_6))) = some r := by first | (rw [hy674]; with_reducible exact H) | (have H2_ := (Option.bind_some _ _).symm.trans H; rw [hy674]; with_reducible exact H2_) | (have H2_ := (Option.bind_some _ _).symm.trans H; with_reducible exact H2_) | with_reducible exact H | (rw [hy674]; exact H) | exact H
 have av := Aside0.mk hy674
 clear hy674
 replace H := Option.bind_eq_some_iff.mp H
 obtain ⟨t677, bj, H⟩ := H
 try dsimp only at H
 have A2 := Aside0.mk bj
 clear bj
 have b0 := Aside0.mk H
 clear H
 go_enter Try.func62, Try.ntmps62
 go_upto_if 9 with (first | ((with_reducible refine gate_dst (N := 1) rfl ?_); refine box_event ?hg (N := 1) ?hd (cs := #[.int .i64 a0_0, .int .i64 a0_1, .int .i64 a0_2, .int .i64 a0_3, .int .i64 a0_4, .int .i64 a0_5, .slice A0_6 l0_6.length c0_6]) (t := 34) ?hr ?_; (case hd => rfl); (case hg => rfl); (case hr => first | (go_simp; done) | (go_simp; rfl)); intro a2 hg w4 hbox hb; have n0_ := Aside0.mk (Kd.V_below (Kd.V_elderB (by (with_reducible repeat (first | apply Kd.V_alloc | apply Kd.V_drewN | apply Kd.V_drew)); exact a8.out) a2 (Nat.le_of_eq hg.symm)) hb); have n1_ := Aside0.mk (lP_ (by repeat (first | (with_reducible first | exact HB.out | apply lA1_ | apply lN_ | apply lD_) | exact HB.out)) hb); have n2_ := Aside0.mk (hbox); have n3_ := Aside0.mk ((by rw [hg]; exact (below_size (by repeat (first | (with_reducible first | exact HB.out | apply lA1_ | apply lN_ | apply lD_) | exact HB.out))) : w.heap.size ≤ a2)); have n4_ := Aside0.mk ((by rw [hg]; exact (below_size (by repeat (first | (with_reducible first | exact HB.out | apply lA1_ | apply lN_ | apply lD_) | exact HB.out))) : w.heap.size ≤ a2)); clear a8 HB; have a8 := n0_; have HB := n1_; have a0 := n2_; have bw := n3_; have a4 := n4_; clear n0_ n1_ n2_ n3_ n4_ hb hbox hg) | ((with_reducible refine gate_dst (N := 6) rfl ?_); refine Kd.R_lit (Kd.int .u8) _ 5 ?hg (N := 6) ?hd (xs := ([] : List Int)) (inner := []) (ok := fun _ => True) (okp := fun _ => True) ?hr ?hp (fun _ hk => hk) trivial (Below.refl _ _) (Nat.le_refl _) (by simp) ?_; (case hd => rfl); (case hg => rfl); (case hr => first | (go_simp; done) | (go_simp; rfl)); (case hp => exact (Reps.none _ _)); intro v675 w5 ho6 hb hg_ hnew_; clear hg_ hnew_; (first | rw [← av.out] at ho6 | (simp only [Int.reduceToNat] at ho6; rw [← av.out] at ho6)); have n0_ := Aside0.mk (Kd.V_elder' (by (with_reducible repeat (first | apply Kd.V_alloc | apply Kd.V_drewN | apply Kd.V_drew)); exact a8.out) (Kd.R_base ho6) hb); have n1_ := Aside0.mk (Kd.R_lower (Kd.R_newM (M := fun k_ => (w.heap.size ≤ k_)) ho6 (below_size (by repeat (first | (with_reducible first | exact HB.out | apply lA1_ | apply lN_ | apply lD_ | refine lS1_ ?_ a4.out) | exact HB.out))) (fun k_ h_ => h_)) (below_size (by repeat (first | (with_reducible first | exact HB.out | apply lA1_ | apply lN_ | apply lD_ | refine lS1_ ?_ a4.out) | exact HB.out)))); have n2_ := Aside0.mk (bB_ (g := a2) (o := .cells #[.int .i64 a0_0, .int .i64 a0_1, .int .i64 a0_2, .int .i64 a0_3, .int .i64 a0_4, .int .i64 a0_5, .slice A0_6 l0_6.length c0_6] 34 (0, 0)) (by (with_reducible repeat first | apply bN_ | apply bD_ | apply bA_); exact a0.out) hb); have n3_ := Aside0.mk (lP_ (by repeat (first | (with_reducible first | exact HB.out | apply lA1_ | apply lN_ | apply lD_ | refine lS1_ ?_ a4.out) | exact HB.out)) hb); clear a8 a0 HB; have a8 := n0_; have a9 := n1_; have a0 := n2_; have HB := n3_; clear n0_ n1_ n2_ n3_ hb ho6; obtain ⟨_, _, _, _, _, _, _, _, _, _, _, _, _, _⟩ := bc7 a0.out) | ((with_reducible refine gate_callee (f := 57) rfl ?_); refine goesA_ (some 9) rfl rfl Try.func57 (by kernel_rfl) rfl #[.int .i64 a0_2] rfl ?_; (with_reducible refine (impl_HasPorts.calls a0_2 t677 _ A2.out).mono ?_); rintro e w' ⟨rfl, ⟨nd, rfl⟩⟩; refine ⟨_, rfl, ?_⟩))
 (try simp only [Act.put, lA_, lZ_, lS_])
 go_cut [3] (fun v3 wc => ∃ (kq : Nat) (x3_2 : List Int), Aside0 (impl_build.j0 kq x3_2 a0_0 a0_1 a0_2 a0_3 a0_4 a0_5 l0_6 = some r) ∧ Aside0 (kq ≤ k) ∧ Aside0 (Kd.R (Kd.int .u8) 5 wc w.heap.size (fun k_ => (w.heap.size ≤ k_)) v3 x3_2) ∧ Aside0 (Kd.V (Kd.int .u8) 5 wc w.heap.size (fun k_ => (P0_6_ k_ ∨ w.heap.size ≤ k_) ∧ some k_ ≠ (v3 : Value).ownBlock ∧ k_ ≠ a2) (.slice A0_6 l0_6.length c0_6) l0_6) ∧ Aside0 (wc.heap[a2]? = some (.cells #[.int .i64 a0_0, .int .i64 a0_1, .int .i64 a0_2, .int .i64 a0_3, .int .i64 a0_4, .int .i64 a0_5, (.slice A0_6 l0_6.length c0_6)] 34 (0, 0))) ∧ Aside0 (Below w.heap.size w wc))
 case first =>
  have H := b0.out
  clear b0
  by_cases c8 : t677 = true
  ·subst c8
   rw [if_pos rfl] at H
   replace H := Option.bind_eq_some_iff.mp H
   obtain ⟨t678, bk, H⟩ := H
   try dsimp only at H
   have A9 := Aside0.mk bk
   clear bk
   replace H := Option.bind_eq_some_iff.mp H
   obtain ⟨t681, b1, H⟩ := H
   try dsimp only at H
   have bp := Aside0.mk b1
   clear b1
   obtain ⟨y684, hy684⟩ : ∃ y_ : List (List Int), y_ = (([t678, t681] : List (List Int))) := ⟨_, rfl⟩
   replace H : ((slices_Concat_byte_byte.f y684).bind fun t687 => (impl_build.j0 k t687 a0_0 a0_1 a0_2 a0_3 a0_4 a0_5 l0_6)) = some r := by first | (rw [hy684]; with_reducible exact H) | (have H2_ := (Option.bind_some _ _).symm.trans H; rw [hy684]; with_reducible exact H2_) | (have H2_ := (Option.bind_some _ _).symm.trans H; with_reducible exact H2_) | with_reducible exact H | (rw [hy684]; exact H) | exact H
   have aw := Aside0.mk hy684
   clear hy684
   replace H := Option.bind_eq_some_iff.mp H
   obtain ⟨t687, b2, H⟩ := H
   try dsimp only at H
   have bq := Aside0.mk b2
   clear b2
   have H' := Aside0.mk H
   clear H
   try go_wp2
   try (have m0_ := Aside0.mk (Kd.V_drewN a8.out nd); have m1_ := Aside0.mk (rN_ a9.out nd); have m2_ := Aside0.mk (bN_ a0.out nd); have m3_ := Aside0.mk (lN_ HB.out nd); clear a8 a9 a0 HB; generalize hw_ : World.drewN w5 nd = wz_ at m0_ m1_ m2_ m3_ ⊢; have a8 := m0_; have a9 := m1_; have a0 := m2_; have HB := m3_; clear m0_ m1_ m2_ m3_ hw_)
   have n0_ := Aside0.mk (Kd.V_drew a8.out)
   have n1_ := Aside0.mk (rD_ a9.out)
   have n2_ := Aside0.mk (bD_ a0.out)
   have n3_ := Aside0.mk (lD_ HB.out)
   clear a8
   clear a9
   clear a0
   clear HB
   have a8 := n0_
   have a9 := n1_
   have a0 := n2_
   have HB := n3_
   clear n0_ n1_ n2_ n3_
   refine start_ (n := 9) (S := fun w' => w'.cell? ⟨a2, 0, none⟩ = some (.int .i64 a0_0) ∧ w'.cell? ⟨a2, 1, none⟩ = some (.int .i64 a0_1) ∧ w'.cell? ⟨a2, 2, none⟩ = some (.int .i64 a0_2) ∧ w'.cell? ⟨a2, 3, none⟩ = some (.int .i64 a0_3) ∧ w'.cell? ⟨a2, 4, none⟩ = some (.int .i64 a0_4) ∧ w'.cell? ⟨a2, 5, none⟩ = some (.int .i64 a0_5) ∧ w'.cell? ⟨a2, 6, none⟩ = some (.slice A0_6 l0_6.length c0_6)) (ds := []) #[false, false, false, false, false, false, false, false, false] (by kernel_rfl) rfl rfl ⟨(blk_cell a0.out 0).trans rfl, (blk_cell a0.out 1).trans rfl, (blk_cell a0.out 2).trans rfl, (blk_cell a0.out 3).trans rfl, (blk_cell a0.out 4).trans rfl, (blk_cell a0.out 5).trans rfl, (blk_cell a0.out 6).trans rfl⟩ (fun hHeld => ?_); refine with_tabW impl_build.tab3 impl_build.bits3 (fun HT_ HW_ => ?_)
   first | generalize wz_.drew = w12 at a8 a9 a0 HB hHeld ⊢ | generalize w5.drew = w12 at a8 a9 a0 HB hHeld ⊢
   refine pure_ (i := 0) (N := some 10) (v := ?_) (a' := ?_) #[true, false, false, false, false, false, false, false, false] rfl rfl (any_of HT_.out (by kernel_rfl)) (fun _ _ _ h => h) (Or.inl ⟨by rfl, ?_⟩) ?_ ?_
   rotate_left
   ·intro w'
    go_simp
    with_reducible rfl
   rotate_left
   ·simp only [Act.put, lA_, lZ_, lS_, i64_w, i32_w]
    rfl
   refine pure_ (i := 3) (N := some 13) (v := ?_) (a' := ?_) #[true, false, false, true, false, false, false, false, false] rfl rfl (any_of HT_.out (by kernel_rfl)) (fun _ _ _ h => h) (Or.inl ⟨by rfl, ?_⟩) ?_ ?_
   rotate_left
   ·intro w'
    go_simp
    with_reducible rfl
   rotate_left
   ·simp only [Act.put, lA_, lZ_, lS_, i64_w, i32_w]
    rfl
   refine take_ (i := 1) (N := some 11) (v := ?_) (a' := ?_) #[true, true, false, true, false, false, false, false, false] rfl rfl (take_ofW HT_.out HW_.out (by kernel_rfl)) (fun _ _ _ h => h) (Or.inl ⟨by rfl, ?_⟩) hHeld ?_ ?_
   rotate_left
   ·rintro w' ⟨s0, s1, s2, s3, s4, s5, s6⟩
    go_simp
    with_reducible rfl
   rotate_left
   ·simp only [Act.put, lA_, lZ_, lS_, i64_w, i32_w]
    rfl
   refine take_ (i := 4) (N := some 14) (v := ?_) (a' := ?_) #[true, true, false, true, true, false, false, false, false] rfl rfl (take_ofW HT_.out HW_.out (by kernel_rfl)) (fun _ _ _ h => h) (Or.inl ⟨by rfl, ?_⟩) hHeld ?_ ?_
   rotate_left
   ·rintro w' ⟨s0, s1, s2, s3, s4, s5, s6⟩
    go_simp
    with_reducible rfl
   rotate_left
   ·simp only [Act.put, lA_, lZ_, lS_, i64_w, i32_w]
    rfl
   refine one_ (i := 2) (N := some 12) #[true, true, true, true, true, false, false, false, false] rfl rfl (one_of HT_.out (by kernel_rfl)) (by decide) (fun K hK => ?_)
   refine goes_ Try.func50 (by kernel_rfl) rfl #[.int .i64 a0_4, .int .i64 2] (by rfl) rfl rfl (by (try simp only [List.map_toArray, List.map_cons, List.map_nil]); first | done | rfl | (simp only [List.length_drop, List.length_take]; rfl)) ?_
   with_reducible refine (impl_put.calls k a0_4 2 t678 _ A9.out).mono ?_
   rintro e w13 ⟨v679, rfl, ho0, hb⟩
   refine ⟨_, rfl, ?_⟩
   have n0_ := Aside0.mk (Kd.V_elder' (by (with_reducible repeat (first | apply Kd.V_alloc | apply Kd.V_drewN | apply Kd.V_drew)); exact a8.out) (Kd.R_base ho0) hb)
   have n1_ := Aside0.mk (Kd.R_elder' (by (with_reducible repeat first | apply rA_ | apply rN_ | apply rD_); exact a9.out) (Kd.R_base ho0) hb)
   have n2_ := Aside0.mk (Kd.R_lower (Kd.R_new' (Kd.R_newM (M := fun k_ => (w.heap.size ≤ k_)) ho0 (below_size (by repeat (first | (with_reducible first | exact HB.out | apply lA1_ | apply lN_ | apply lD_ | refine lS1_ ?_ a4.out) | exact HB.out))) (fun k_ h_ => h_)) (Kd.R_lt (by (with_reducible repeat first | apply rA_ | apply rN_ | apply rD_); exact a9.out))) (below_size (by repeat (first | (with_reducible first | exact HB.out | apply lA1_ | apply lN_ | apply lD_ | refine lS1_ ?_ a4.out) | exact HB.out))))
   have n3_ := Aside0.mk (bB_ (g := a2) (o := .cells #[.int .i64 a0_0, .int .i64 a0_1, .int .i64 a0_2, .int .i64 a0_3, .int .i64 a0_4, .int .i64 a0_5, .slice A0_6 l0_6.length c0_6] 34 (0, 0)) (by (with_reducible repeat first | apply bN_ | apply bD_ | apply bA_); exact a0.out) hb)
   have n4_ := Aside0.mk (lP_ (by repeat (first | (with_reducible first | exact HB.out | apply lA1_ | apply lN_ | apply lD_ | refine lS1_ ?_ a4.out) | exact HB.out)) hb)
   clear a8
   clear a9
   clear a0
   clear HB
   have a8 := n0_
   have a9 := n1_
   have ad := n2_
   have a0 := n3_
   have HB := n4_
   clear n0_ n1_ n2_ n3_ n4_
   (try clear hb)
   (try clear hb2)
   (try clear hk)
   (try clear hi)
   (try clear ho0)
   refine hK.out _ _ ⟨(blk_cell a0.out 0).trans rfl, (blk_cell a0.out 1).trans rfl, (blk_cell a0.out 2).trans rfl, (blk_cell a0.out 3).trans rfl, (blk_cell a0.out 4).trans rfl, (blk_cell a0.out 5).trans rfl, (blk_cell a0.out 6).trans rfl⟩ (fun hHeld => ?_)
   clear hK K
   refine norm_ (a' := ?_) ?_ ?_
   rotate_left
   ·show Act.put _ (some 12) _ = _
    simp only [Act.put, lA_, lZ_, lS_, i64_w, i32_w]
    rfl
   refine one_ (i := 5) (N := some 15) #[true, true, true, true, true, true, false, false, false] rfl rfl (one_of HT_.out (by kernel_rfl)) (by decide) (fun K hK => ?_)
   refine goes_ Try.func50 (by kernel_rfl) rfl #[.int .i64 a0_5, .int .i64 2] (by rfl) rfl rfl (by (try simp only [List.map_toArray, List.map_cons, List.map_nil]); first | done | rfl | (simp only [List.length_drop, List.length_take]; rfl)) ?_
   with_reducible refine (impl_put.calls k a0_5 2 t681 _ bp.out).mono ?_
   rintro e w14 ⟨v682, rfl, ho0, hb⟩
   refine ⟨_, rfl, ?_⟩
   have n0_ := Aside0.mk (Kd.V_elder' (by (with_reducible repeat (first | apply Kd.V_alloc | apply Kd.V_drewN | apply Kd.V_drew)); exact a8.out) (Kd.R_base ho0) hb)
   have n1_ := Aside0.mk (Kd.R_elder' (by (with_reducible repeat first | apply rA_ | apply rN_ | apply rD_); exact a9.out) (Kd.R_base ho0) hb)
   have n2_ := Aside0.mk (Kd.R_elder' (by (with_reducible repeat first | apply rA_ | apply rN_ | apply rD_); exact ad.out) (Kd.R_base ho0) hb)
   have n3_ := Aside0.mk (Kd.R_lower (Kd.R_new' (Kd.R_new' (Kd.R_newM (M := fun k_ => (w.heap.size ≤ k_)) ho0 (below_size (by repeat (first | (with_reducible first | exact HB.out | apply lA1_ | apply lN_ | apply lD_ | refine lS1_ ?_ a4.out) | exact HB.out))) (fun k_ h_ => h_)) (Kd.R_lt (by (with_reducible repeat first | apply rA_ | apply rN_ | apply rD_); exact a9.out))) (Kd.R_lt (by (with_reducible repeat first | apply rA_ | apply rN_ | apply rD_); exact ad.out))) (below_size (by repeat (first | (with_reducible first | exact HB.out | apply lA1_ | apply lN_ | apply lD_ | refine lS1_ ?_ a4.out) | exact HB.out))))
   have n4_ := Aside0.mk (bB_ (g := a2) (o := .cells #[.int .i64 a0_0, .int .i64 a0_1, .int .i64 a0_2, .int .i64 a0_3, .int .i64 a0_4, .int .i64 a0_5, .slice A0_6 l0_6.length c0_6] 34 (0, 0)) (by (with_reducible repeat first | apply bN_ | apply bD_ | apply bA_); exact a0.out) hb)
   have n5_ := Aside0.mk (lP_ (by repeat (first | (with_reducible first | exact HB.out | apply lA1_ | apply lN_ | apply lD_ | refine lS1_ ?_ a4.out) | exact HB.out)) hb)
   clear a8
   clear a9
   clear ad
   clear a0
   clear HB
   have a8 := n0_
   have a9 := n1_
   have ad := n2_
   have ai := n3_
   have a0 := n4_
   have HB := n5_
   clear n0_ n1_ n2_ n3_ n4_ n5_
   (try clear hb)
   (try clear hb2)
   (try clear hk)
   (try clear hi)
   (try clear ho0)
   obtain ⟨b3, b4, eo15⟩ := Kd.R_slice ad.out
   (first | subst eo15 | (injection eo15 with f1_ f2_ f3_; have f4_ := f1_.symm; have f5_ := f3_.symm; clear f1_ f2_ f3_; subst f4_; subst f5_))
   obtain ⟨b5, b6, eo16⟩ := Kd.R_slice ai.out
   (first | subst eo16 | (injection eo16 with f1_ f2_ f3_; have f4_ := f1_.symm; have f5_ := f3_.symm; clear f1_ f2_ f3_; subst f4_; subst f5_))
   refine hK.out _ _ ⟨(blk_cell a0.out 0).trans rfl, (blk_cell a0.out 1).trans rfl, (blk_cell a0.out 2).trans rfl, (blk_cell a0.out 3).trans rfl, (blk_cell a0.out 4).trans rfl, (blk_cell a0.out 5).trans rfl, (blk_cell a0.out 6).trans rfl⟩ (fun hHeld => ?_)
   clear hK K
   refine norm_ (a' := ?_) ?_ ?_
   rotate_left
   ·show Act.put _ (some 15) _ = _
    simp only [Act.put, lA_, lZ_, lS_, i64_w, i32_w]
    rfl
   refine one_ (i := 6) (N := some 16) #[true, true, true, true, true, true, true, false, false] rfl rfl (one_of HT_.out (by kernel_rfl)) (by decide) (fun K hK => ?_)
   refine Kd.N_lit_step (Kd.slice 5 (Kd.int .u8)) _ 22 ?hg (N' := 16) ?hd (xs := ([t678, t681] : List (List Int))) (inner := [.slice b3 t678.length b4, .slice b5 t681.length b6]) (ok := (fun k_ => (P0_6_ k_ ∨ w.heap.size ≤ k_) ∧ some k_ ≠ (v675 : Value).ownBlock ∧ k_ ≠ a2)) (okp := (fun k_ => (P0_6_ k_ ∨ w.heap.size ≤ k_) ∧ some k_ ≠ (v675 : Value).ownBlock ∧ k_ ≠ a2)) ?hr ?hp (fun _ hk => hk) ((show ∀ k_, w14.heap.size ≤ k_ → (fun k_ => (P0_6_ k_ ∨ w.heap.size ≤ k_) ∧ some k_ ≠ (v675 : Value).ownBlock ∧ k_ ≠ a2) k_ from fun k_ hk => ⟨(.inr (Nat.le_trans (below_size (by repeat (first | (with_reducible first | exact HB.out | apply lA1_ | apply lN_ | apply lD_ | refine lS1_ ?_ a4.out) | exact HB.out))) hk)), Kd.fresh' (Kd.R_lt (by (with_reducible repeat first | apply rA_ | apply rN_ | apply rD_); exact a9.out)) k_ hk, Kd.freshB (g := a2) (o := .cells #[.int .i64 a0_0, .int .i64 a0_1, .int .i64 a0_2, .int .i64 a0_3, .int .i64 a0_4, .int .i64 a0_5, .slice A0_6 l0_6.length c0_6] 34 (0, 0)) (by (with_reducible repeat first | apply bN_ | apply bD_ | apply bA_); exact a0.out) k_ hk⟩) _ (Nat.le_refl _)) (Below.refl _ _) (Nat.le_refl _) (by simp) ?_; (case hd => rfl); (case hg => rfl); (case hr => first | (go_simp; done) | (go_simp; rfl)); (case hp => exact (Reps.one (show Kd.FK (Kd.slice 5 (Kd.int .u8)) _ _ t678 [.slice b3 t678.length b4] from (Kd.FK_slice_mk (Kd.R_reads' (Kd.R_mono (ok' := (fun k_ => (P0_6_ k_ ∨ w.heap.size ≤ k_) ∧ some k_ ≠ (v675 : Value).ownBlock ∧ k_ ≠ a2)) (Kd.R_types (ad.out) a0.out (by decide)) (fun k_ hk => ⟨(.inr (hk.1.1.1.1)), ⟨hk.1.1.2, hk.2⟩⟩))).2.1 (Kd.R_F (Kd.R_mono (ok' := (fun k_ => (P0_6_ k_ ∨ w.heap.size ≤ k_) ∧ some k_ ≠ (v675 : Value).ownBlock ∧ k_ ≠ a2)) (Kd.R_types (ad.out) a0.out (by decide)) (fun k_ hk => ⟨(.inr (hk.1.1.1.1)), ⟨hk.1.1.2, hk.2⟩⟩))))) (Reps.one (show Kd.FK (Kd.slice 5 (Kd.int .u8)) _ _ t681 [.slice b5 t681.length b6] from (Kd.FK_slice_mk (Kd.R_reads' (Kd.R_mono (ok' := (fun k_ => (P0_6_ k_ ∨ w.heap.size ≤ k_) ∧ some k_ ≠ (v675 : Value).ownBlock ∧ k_ ≠ a2)) (Kd.R_types (ai.out) a0.out (by decide)) (fun k_ hk => ⟨(.inr (hk.1.1.1.1)), ⟨hk.1.1.2, hk.2⟩⟩))).2.1 (Kd.R_F (Kd.R_mono (ok' := (fun k_ => (P0_6_ k_ ∨ w.heap.size ≤ k_) ∧ some k_ ≠ (v675 : Value).ownBlock ∧ k_ ≠ a2)) (Kd.R_types (ai.out) a0.out (by decide)) (fun k_ hk => ⟨(.inr (hk.1.1.1.1)), ⟨hk.1.1.2, hk.2⟩⟩))))) (Reps.none _ _))))
   intro v685 w17 ho18 hb hg_ hnew_
   clear hg_ hnew_
   (first | rw [← aw.out] at ho18 | (simp only [Int.reduceToNat] at ho18; rw [← aw.out] at ho18))
   have n0_ := Aside0.mk (Kd.V_elder' (by (with_reducible repeat (first | apply Kd.V_alloc | apply Kd.V_drewN | apply Kd.V_drew)); exact a8.out) (Kd.N_base ho18) hb)
   have n1_ := Aside0.mk (Kd.R_below (by (with_reducible repeat first | apply rA_ | apply rN_ | apply rD_); exact a9.out) hb)
   have n2_ := Aside0.mk (Kd.N_lower ho18 (below_size (by repeat (first | (with_reducible first | exact HB.out | apply lA1_ | apply lN_ | apply lD_ | refine lS1_ ?_ a4.out) | exact HB.out))))
   have n3_ := Aside0.mk (bB_ (g := a2) (o := .cells #[.int .i64 a0_0, .int .i64 a0_1, .int .i64 a0_2, .int .i64 a0_3, .int .i64 a0_4, .int .i64 a0_5, .slice A0_6 l0_6.length c0_6] 34 (0, 0)) (by (with_reducible repeat first | apply bN_ | apply bD_ | apply bA_); exact a0.out) hb)
   have n4_ := Aside0.mk (lP_ (by repeat (first | (with_reducible first | exact HB.out | apply lA1_ | apply lN_ | apply lD_ | refine lS1_ ?_ a4.out) | exact HB.out)) hb)
   clear a8
   clear a9
   clear a0
   clear HB
   clear ad
   clear ai
   have a8 := n0_
   have a9 := n1_
   have ae := n2_
   have a0 := n3_
   have HB := n4_
   clear n0_ n1_ n2_ n3_ n4_
   clear hb ho18
   obtain ⟨bl, bm, eo19⟩ := Kd.N_slice ae.out
   (first | subst eo19 | (injection eo19 with f1_ f2_ f3_; have f4_ := f1_.symm; have f5_ := f3_.symm; clear f1_ f2_ f3_; subst f4_; subst f5_))
   refine hK.out _ _ ⟨(blk_cell a0.out 0).trans rfl, (blk_cell a0.out 1).trans rfl, (blk_cell a0.out 2).trans rfl, (blk_cell a0.out 3).trans rfl, (blk_cell a0.out 4).trans rfl, (blk_cell a0.out 5).trans rfl, (blk_cell a0.out 6).trans rfl⟩ (fun hHeld => ?_)
   clear hK K
   refine norm_ (a' := ?_) ?_ ?_
   rotate_left
   ·show Act.put _ (some 16) _ = _
    simp only [Act.put, lA_, lZ_, lS_, i64_w, i32_w]
    rfl
   refine one_ (i := 7) (N := some 17) #[true, true, true, true, true, true, true, true, false] rfl rfl (one_of HT_.out (by kernel_rfl)) (by decide) (fun K hK => ?_)
   refine goes_ Try.func49 (by kernel_rfl) rfl #[.slice bl y684.length bm] (by rfl) rfl rfl (by (try simp only [List.map_toArray, List.map_cons, List.map_nil]); first | done | rfl | (simp only [List.length_drop, List.length_take]; rfl)) ?_
   with_reducible refine (slices_Concat_byte_byte.calls _ _ y684 t687 _ ?side1 ?side2 bq.out).mono ?_
   (case side1 => repeat (first | exact (Kd.N_reads' ae.out).2.2 | (with_reducible refine Kd.C_alloc ?_ _) | (with_reducible refine Kd.C_drewN ?_ _) | (with_reducible refine Kd.C_drew ?_)))
   (case side2 => exact (Kd.N_reads' ae.out).2.1)
   rintro e w20 ⟨v688, rfl, ho0, hb⟩
   refine ⟨_, rfl, ?_⟩
   have n0_ := Aside0.mk (Kd.V_elder' (by (with_reducible repeat (first | apply Kd.V_alloc | apply Kd.V_drewN | apply Kd.V_drew)); exact a8.out) (Kd.R_base ho0) hb)
   have n1_ := Aside0.mk (Kd.R_elder' (by (with_reducible repeat first | apply rA_ | apply rN_ | apply rD_); exact a9.out) (Kd.R_base ho0) hb)
   have n2_ := Aside0.mk (Kd.N_elder' (by (with_reducible repeat (first | apply Kd.N_alloc | apply Kd.N_drewN | apply Kd.N_drew)); exact ae.out) (Kd.R_base ho0) hb)
   have n3_ := Aside0.mk (Kd.R_lower (Kd.R_new' (Kd.R_newM (M := fun k_ => (w.heap.size ≤ k_)) ho0 (below_size (by repeat (first | (with_reducible first | exact HB.out | apply lA1_ | apply lN_ | apply lD_ | refine lS1_ ?_ a4.out) | exact HB.out))) (fun k_ h_ => h_)) (Kd.R_lt (by (with_reducible repeat first | apply rA_ | apply rN_ | apply rD_); exact a9.out))) (below_size (by repeat (first | (with_reducible first | exact HB.out | apply lA1_ | apply lN_ | apply lD_ | refine lS1_ ?_ a4.out) | exact HB.out))))
   have n4_ := Aside0.mk (bB_ (g := a2) (o := .cells #[.int .i64 a0_0, .int .i64 a0_1, .int .i64 a0_2, .int .i64 a0_3, .int .i64 a0_4, .int .i64 a0_5, .slice A0_6 l0_6.length c0_6] 34 (0, 0)) (by (with_reducible repeat first | apply bN_ | apply bD_ | apply bA_); exact a0.out) hb)
   have n5_ := Aside0.mk (lP_ (by repeat (first | (with_reducible first | exact HB.out | apply lA1_ | apply lN_ | apply lD_ | refine lS1_ ?_ a4.out) | exact HB.out)) hb)
   clear a8
   clear a9
   clear ae
   clear a0
   clear HB
   have a8 := n0_
   have a9 := n1_
   have ae := n2_
   have bg := n3_
   have a0 := n4_
   have HB := n5_
   clear n0_ n1_ n2_ n3_ n4_ n5_
   (try clear hb)
   (try clear hb2)
   (try clear hk)
   (try clear hi)
   (try clear ho0)
   refine hK.out _ _ ⟨(blk_cell a0.out 0).trans rfl, (blk_cell a0.out 1).trans rfl, (blk_cell a0.out 2).trans rfl, (blk_cell a0.out 3).trans rfl, (blk_cell a0.out 4).trans rfl, (blk_cell a0.out 5).trans rfl, (blk_cell a0.out 6).trans rfl⟩ (fun hHeld => ?_)
   clear hK K
   refine norm_ (a' := ?_) ?_ ?_
   rotate_left
   ·show Act.put _ (some 17) _ = _
    simp only [Act.put, lA_, lZ_, lS_, i64_w, i32_w]
    rfl
   refine pure_ (i := 8) (N := some 3) (v := ?_) (a' := ?_) #[true, true, true, true, true, true, true, true, true] rfl rfl (any_of HT_.out (by kernel_rfl)) (fun _ _ _ h => h) (Or.inl ⟨by rfl, ?_⟩) ?_ ?_
   rotate_left
   ·intro w'
    go_simp
    with_reducible rfl
   rotate_left
   ·simp only [Act.put, lA_, lZ_, lS_, i64_w, i32_w]
    rfl
   refine done_ (done_of HT_.out (by kernel_rfl)) ?_
   try go_wp2
   go_meet
   case rel => exact ⟨_, (t687), H', ⟨by first | omega | exact Nat.le_refl _⟩, ⟨by (with_reducible repeat first | apply rA_ | apply rN_ | apply rD_); exact Kd.R_mono bg.out (fun _ hk => hk.1.1)⟩, ⟨by (with_reducible repeat (first | apply Kd.V_alloc | apply Kd.V_drewN | apply Kd.V_drew)); exact Kd.V_mono a8.out (fun _ hk => ⟨hk.1.1.1.1.1.1, ⟨hk.2, hk.1.1.1.1.1.2⟩⟩)⟩, ⟨by (with_reducible repeat first | apply bN_ | apply bD_ | apply bA_); exact a0.out⟩, ⟨by repeat (first | (with_reducible first | exact HB.out | apply lA1_ | apply lN_ | apply lD_ | refine lS1_ ?_ a4.out) | exact HB.out)⟩⟩
  ·replace c8 := Bool.eq_false_iff.mpr c8
   subst c8
   rw [if_neg (show ¬ (false = true) by decide)] at H
   have H' := Aside0.mk H
   clear H
   go_wp2
   go_meet
   case rel => exact ⟨_, (y674), H', ⟨by first | omega | exact Nat.le_refl _⟩, ⟨by (with_reducible repeat first | apply rA_ | apply rN_ | apply rD_); exact Kd.R_mono a9.out (fun _ hk => hk.1)⟩, ⟨by (with_reducible repeat (first | apply Kd.V_alloc | apply Kd.V_drewN | apply Kd.V_drew)); exact Kd.V_mono a8.out (fun _ hk => ⟨hk.1.1, ⟨hk.2, hk.1.2⟩⟩)⟩, ⟨by (with_reducible repeat first | apply bN_ | apply bD_ | apply bA_); exact a0.out⟩, ⟨by repeat (first | (with_reducible first | exact HB.out | apply lA1_ | apply lN_ | apply lD_ | refine lS1_ ?_ a4.out) | exact HB.out)⟩⟩
 case rest =>
  clear b0
  try clear p2
  try clear c4
  try clear c5
  try clear c6
  try clear c8
  try clear hcz7_0
  try clear hcz7_1
  try clear hcz7_2
  try clear hcz7_3
  try clear hcz7_4
  try clear hcz7_5
  try clear hcz7_6
  try clear hfz7_0
  try clear hfz7_1
  try clear hfz7_2
  try clear hfz7_3
  try clear hfz7_4
  try clear hfz7_5
  try clear hfz7_6
  obtain ⟨kq, x3_2, HA, HJ2, a3, a1, a0, HB⟩ := hcut
  cases kq with
  | zero => exact absurd HA.out (by simp [impl_build.j0])
  | succ kj2 =>
   have H := HA.out
   clear HA
   simp only [impl_build.j0] at H
   replace H := Option.bind_eq_some_iff.mp H
   obtain ⟨t690, b7, H⟩ := H
   try dsimp only at H
   have br := Aside0.mk b7
   clear b7
   obtain ⟨y693, hy693⟩ : ∃ y_ : List Int, y_ = (([69, 0] : List Int)) := ⟨_, rfl⟩
   replace H : ((impl_put.f kj2 a0_0 4).bind fun t699 => ((impl_put.f kj2 a0_1 4).bind fun t702 => ((slices_Concat_byte_byte.f (([y693, t690, (([0, 0, 64, 0, (a0_3) % 256, (a0_2) % 256, 0, 0] : List Int)), t699, t702] : List (List Int)))).bind fun t708 => ((impl_SumWords.f kj2 t708).bind fun ts_ => ((impl_put.f kj2 ts_ 2).bind fun tz_ => (if t708.length = 20 ∧ tz_.length = 2 then ((slices_Concat_byte_byte.f (([splice t708 10 tz_, x3_2, l0_6] : List (List Int)))).bind fun t714 => (some t714)) else (none))))))) = some r := by first | (rw [hy693]; with_reducible exact H) | (have H2_ := (Option.bind_some _ _).symm.trans H; rw [hy693]; with_reducible exact H2_) | (have H2_ := (Option.bind_some _ _).symm.trans H; with_reducible exact H2_) | with_reducible exact H | (rw [hy693]; exact H) | exact H
   have ax := Aside0.mk hy693
   clear hy693
   obtain ⟨y696, hy696⟩ : ∃ y_ : List Int, y_ = (([0, 0, 64, 0, (a0_3) % 256, (a0_2) % 256, 0, 0] : List Int)) := ⟨_, rfl⟩
   replace H : ((impl_put.f kj2 a0_0 4).bind fun t699 => ((impl_put.f kj2 a0_1 4).bind fun t702 => ((slices_Concat_byte_byte.f (([y693, t690, y696, t699, t702] : List (List Int)))).bind fun t708 => ((impl_SumWords.f kj2 t708).bind fun ts_ => ((impl_put.f kj2 ts_ 2).bind fun tz_ => (if t708.length = 20 ∧ tz_.length = 2 then ((slices_Concat_byte_byte.f (([splice t708 10 tz_, x3_2, l0_6] : List (List Int)))).bind fun t714 => (some t714)) else (none))))))) = some r := by first | (rw [hy696]; with_reducible exact H) | (have H2_ := (Option.bind_some _ _).symm.trans H; rw [hy696]; with_reducible exact H2_) | (have H2_ := (Option.bind_some _ _).symm.trans H; with_reducible exact H2_) | with_reducible exact H | (rw [hy696]; exact H) | exact H
   have ay := Aside0.mk hy696
   clear hy696
   replace H := Option.bind_eq_some_iff.mp H
   obtain ⟨t699, b8, H⟩ := H
   try dsimp only at H
   have bs := Aside0.mk b8
   clear b8
   replace H := Option.bind_eq_some_iff.mp H
   obtain ⟨t702, b9, H⟩ := H
   try dsimp only at H
   have bt := Aside0.mk b9
   clear b9
   obtain ⟨y705, hy705⟩ : ∃ y_ : List (List Int), y_ = (([y693, t690, y696, t699, t702] : List (List Int))) := ⟨_, rfl⟩
   replace H : ((slices_Concat_byte_byte.f y705).bind fun t708 => ((impl_SumWords.f kj2 t708).bind fun ts_ => ((impl_put.f kj2 ts_ 2).bind fun tz_ => (if t708.length = 20 ∧ tz_.length = 2 then ((slices_Concat_byte_byte.f (([splice t708 10 tz_, x3_2, l0_6] : List (List Int)))).bind fun t714 => (some t714)) else (none))))) = some r := by first | (rw [hy705]; with_reducible exact H) | (have H2_ := (Option.bind_some _ _).symm.trans H; rw [hy705]; with_reducible exact H2_) | (have H2_ := (Option.bind_some _ _).symm.trans H; with_reducible exact H2_) | with_reducible exact H | (rw [hy705]; exact H) | exact H
   have az := Aside0.mk hy705
   clear hy705
   replace H := Option.bind_eq_some_iff.mp H
   obtain ⟨t708, ba, H⟩ := H
   try dsimp only at H
   have bu := Aside0.mk ba
   clear ba
   replace H := Option.bind_eq_some_iff.mp H
   obtain ⟨ts_, AS0_, H⟩ := H
   try dsimp only at H
   have AS_ := Aside0.mk AS0_
   clear AS0_
   replace H := Option.bind_eq_some_iff.mp H
   obtain ⟨tz_, AZ0_, H⟩ := H
   try dsimp only at H
   have AZ_ := Aside0.mk AZ0_
   clear AZ0_
   by_cases cl_ : t708.length = 20 ∧ tz_.length = 2
   rotate_left
   ·rw [if_neg cl_] at H
    cases H
   rw [if_pos cl_] at H
   have CL_ := Aside0.mk cl_
   clear cl_
   obtain ⟨ty_, hty_⟩ : ∃ ty_, ty_ = splice t708 10 tz_ := ⟨_, rfl⟩
   rw [← hty_] at H
   have HTY_ := Aside0.mk hty_
   clear hty_
   obtain ⟨y711, hy711⟩ : ∃ y_ : List (List Int), y_ = (([ty_, x3_2, l0_6] : List (List Int))) := ⟨_, rfl⟩
   replace H : ((slices_Concat_byte_byte.f y711).bind fun t714 => (some t714)) = some r := by first | (rw [hy711]; with_reducible exact H) | (have H2_ := (Option.bind_some _ _).symm.trans H; rw [hy711]; with_reducible exact H2_) | (have H2_ := (Option.bind_some _ _).symm.trans H; with_reducible exact H2_) | with_reducible exact H | (rw [hy711]; exact H) | exact H
   have bh := Aside0.mk hy711
   clear hy711
   replace H := Option.bind_eq_some_iff.mp H
   obtain ⟨t714, bb, H⟩ := H
   try dsimp only at H
   have bv := Aside0.mk bb
   clear bb
   obtain rfl := Option.some.inj H
   obtain ⟨a6, a7, eo26⟩ := Kd.R_slice a3.out
   subst eo26
   obtain ⟨_, _, _, _, _, _, _, _, _, _, _, _, _, _⟩ := bc7 a0.out
   try go_wp2_with (first | ((with_reducible refine gate_callee (f := 50) rfl ?_); refine goesA_ (some 25) rfl rfl Try.func50 (by kernel_rfl) rfl #[.int .i64 (wrap64 ((wrap64 (20 + (x3_2.length : Int))) + (l0_6.length : Int))), .int .i64 2] rfl ?_; (with_reducible refine (impl_put.calls kj2 (wrap64 ((wrap64 (20 + (x3_2.length : Int))) + (l0_6.length : Int))) 2 t690 _ br.out).mono ?_); rintro e w28 ⟨v691, rfl, ho0, hb⟩; refine ⟨_, rfl, ?_⟩; have n0_ := Aside0.mk (Kd.R_elder' (by (with_reducible repeat first | apply rA_ | apply rN_ | apply rD_); exact a3.out) (Kd.R_base ho0) hb); have n1_ := Aside0.mk (Kd.V_elder' (by (with_reducible repeat (first | apply Kd.V_alloc | apply Kd.V_drewN | apply Kd.V_drew)); exact a1.out) (Kd.R_base ho0) hb); have n2_ := Aside0.mk (Kd.R_lower (Kd.R_new' (Kd.R_newM (M := fun k_ => (w.heap.size ≤ k_)) ho0 (below_size (by repeat (first | (with_reducible first | exact HB.out | apply lA1_ | apply lN_ | apply lD_ | refine lS1_ ?_ a4.out) | exact HB.out))) (fun k_ h_ => h_)) (Kd.R_lt (by (with_reducible repeat first | apply rA_ | apply rN_ | apply rD_); exact a3.out))) (below_size (by repeat (first | (with_reducible first | exact HB.out | apply lA1_ | apply lN_ | apply lD_ | refine lS1_ ?_ a4.out) | exact HB.out)))); have n3_ := Aside0.mk (bB_ (g := a2) (o := .cells #[.int .i64 a0_0, .int .i64 a0_1, .int .i64 a0_2, .int .i64 a0_3, .int .i64 a0_4, .int .i64 a0_5, .slice A0_6 l0_6.length c0_6] 34 (0, 0)) (by (with_reducible repeat first | apply bN_ | apply bD_ | apply bA_); exact a0.out) hb); have n4_ := Aside0.mk (lP_ (by repeat (first | (with_reducible first | exact HB.out | apply lA1_ | apply lN_ | apply lD_ | refine lS1_ ?_ a4.out) | exact HB.out)) hb); clear a3 a1 a0 HB; have a3 := n0_; have a1 := n1_; have a5 := n2_; have a0 := n3_; have HB := n4_; clear n0_ n1_ n2_ n3_ n4_; (try clear hb); (try clear hb2); (try clear hk); (try clear hi); (try clear ho0)))
   have n0_ := Aside0.mk (rD_ a3.out)
   have n1_ := Aside0.mk (Kd.V_drew a1.out)
   have n2_ := Aside0.mk (rD_ a5.out)
   have n3_ := Aside0.mk (bD_ a0.out)
   have n4_ := Aside0.mk (lD_ HB.out)
   clear a3
   clear a1
   clear a5
   clear a0
   clear HB
   have a3 := n0_
   have a1 := n1_
   have a5 := n2_
   have a0 := n3_
   have HB := n4_
   clear n0_ n1_ n2_ n3_ n4_
   refine start_ (n := 18) (S := fun w' => True) (ds := []) #[false, false, false, false, false, false, false, false, false, false, false, false, false, false, false, false, false, false] (by kernel_rfl) rfl rfl trivial (fun hHeld => ?_); refine with_tabW impl_build.tab5 impl_build.bits5 (fun HT_ HW_ => ?_)
   generalize w28.drew = w29 at a3 a1 a5 a0 HB hHeld ⊢
   refine pure_ (i := 1) (N := some 27) (v := ?_) (a' := ?_) #[false, true, false, false, false, false, false, false, false, false, false, false, false, false, false, false, false, false] rfl rfl (any_of HT_.out (by kernel_rfl)) (fun _ _ _ h => h) (Or.inl ⟨by rfl, ?_⟩) ?_ ?_
   rotate_left
   ·intro w'
    go_simp
    with_reducible rfl
   rotate_left
   ·simp only [Act.put, lA_, lZ_, lS_, i64_w, i32_w]
    rfl
   refine pure_ (i := 2) (N := some 28) (v := ?_) (a' := ?_) #[false, true, true, false, false, false, false, false, false, false, false, false, false, false, false, false, false, false] rfl rfl (any_of HT_.out (by kernel_rfl)) (fun _ _ _ h => h) (Or.inl ⟨by rfl, ?_⟩) ?_ ?_
   rotate_left
   ·intro w'
    go_simp
    with_reducible rfl
   rotate_left
   ·simp only [Act.put, lA_, lZ_, lS_, i64_w, i32_w]
    rfl
   refine pure_ (i := 5) (N := some 31) (v := ?_) (a' := ?_) #[false, true, true, false, false, true, false, false, false, false, false, false, false, false, false, false, false, false] rfl rfl (any_of HT_.out (by kernel_rfl)) (fun _ _ _ h => h) (Or.inl ⟨by rfl, ?_⟩) ?_ ?_
   rotate_left
   ·intro w'
    go_simp
    with_reducible rfl
   rotate_left
   ·simp only [Act.put, lA_, lZ_, lS_, i64_w, i32_w]
    rfl
   refine pure_ (i := 9) (N := some 35) (v := ?_) (a' := ?_) #[false, true, true, false, false, true, false, false, false, true, false, false, false, false, false, false, false, false] rfl rfl (any_of HT_.out (by kernel_rfl)) (fun _ _ _ h => h) (Or.inl ⟨by rfl, ?_⟩) ?_ ?_
   rotate_left
   ·intro w'
    go_simp
    with_reducible rfl
   rotate_left
   ·simp only [Act.put, lA_, lZ_, lS_, i64_w, i32_w]
    rfl
   refine pure_ (i := 12) (N := some 38) (v := ?_) (a' := ?_) #[false, true, true, false, false, true, false, false, false, true, false, false, true, false, false, false, false, false] rfl rfl (any_of HT_.out (by kernel_rfl)) (fun _ _ _ h => h) (Or.inl ⟨by rfl, ?_⟩) ?_ ?_
   rotate_left
   ·intro w'
    go_simp
    with_reducible rfl
   rotate_left
   ·simp only [Act.put, lA_, lZ_, lS_, i64_w, i32_w]
    rfl
   refine inv_at [0, 3, 4, 6, 7, 8, 10, 11, 13, 14, 15, 16, 17] (fun a0_ b a w' => ∃ (v694 : Value) (v697 : Value) (v700 : Value) (v703 : Value) (v706 : Value) (v709 : Value) (m17_ : Value), a = putSel a0_ b [(0, 26, v694), (3, 29, .int .i64 a0_3), (4, 30, .int .u8 ((a0_3) % 256)), (6, 32, .int .i64 a0_2), (7, 33, .int .u8 ((a0_2) % 256)), (8, 34, v697), (10, 36, .int .i64 a0_0), (11, 37, v700), (13, 39, .int .i64 a0_1), (14, 40, v703), (15, 41, v706), (16, 42, v709), (17, 5, m17_)] ∧ (b 15 = false → Kd.R (Kd.int .u8) 5 w' w.heap.size (fun k_ => (w.heap.size ≤ k_) ∧ some k_ ≠ (.slice a6 x3_2.length a7 : Value).ownBlock) v691 t690) ∧ (b 15 = false → Kd.R (Kd.int .u8) 5 w' w.heap.size (fun k_ => (w.heap.size ≤ k_) ∧ some k_ ≠ (v691 : Value).ownBlock) (.slice a6 x3_2.length a7) x3_2) ∧ (b 15 = false → Kd.V (Kd.int .u8) 5 w' w.heap.size (fun k_ => (P0_6_ k_ ∨ w.heap.size ≤ k_) ∧ some k_ ≠ (v691 : Value).ownBlock ∧ some k_ ≠ (.slice a6 x3_2.length a7 : Value).ownBlock ∧ k_ ≠ a2) (.slice A0_6 l0_6.length c0_6) l0_6) ∧ (w'.heap[a2]? = some (.cells #[.int .i64 a0_0, .int .i64 a0_1, .int .i64 a0_2, .int .i64 a0_3, .int .i64 a0_4, .int .i64 a0_5, .slice A0_6 l0_6.length c0_6] 34 (0, 0))) ∧ (Below w.heap.size w w') ∧ (b 0 = true → b 15 = false → Kd.R (Kd.int .u8) 5 w' w.heap.size (fun k_ => (w.heap.size ≤ k_) ∧ some k_ ≠ (v691 : Value).ownBlock ∧ some k_ ≠ (.slice a6 x3_2.length a7 : Value).ownBlock) v694 y693) ∧ (b 8 = true → b 15 = false → Kd.R (Kd.int .u8) 5 w' w.heap.size (fun k_ => (w.heap.size ≤ k_) ∧ some k_ ≠ (v691 : Value).ownBlock ∧ some k_ ≠ (.slice a6 x3_2.length a7 : Value).ownBlock) v697 y696) ∧ (b 11 = true → b 15 = false → Kd.R (Kd.int .u8) 5 w' w.heap.size (fun k_ => (w.heap.size ≤ k_) ∧ some k_ ≠ (v691 : Value).ownBlock ∧ some k_ ≠ (.slice a6 x3_2.length a7 : Value).ownBlock) v700 t699) ∧ (b 14 = true → b 15 = false → Kd.R (Kd.int .u8) 5 w' w.heap.size (fun k_ => (w.heap.size ≤ k_) ∧ some k_ ≠ (v691 : Value).ownBlock ∧ some k_ ≠ (.slice a6 x3_2.length a7 : Value).ownBlock) v703 t702) ∧ (b 15 = true → Kd.N (Kd.slice 5 (Kd.int .u8)) 22 w' w.heap.size (fun k_ => (P0_6_ k_ ∨ w.heap.size ≤ k_) ∧ some k_ ≠ (.slice a6 x3_2.length a7 : Value).ownBlock ∧ k_ ≠ a2) v706 y705) ∧ (b 15 = true → Kd.R (Kd.int .u8) 5 w' w.heap.size (fun k_ => (w.heap.size ≤ k_)) (.slice a6 x3_2.length a7) x3_2) ∧ (b 15 = true → Kd.V (Kd.int .u8) 5 w' w.heap.size (fun k_ => (P0_6_ k_ ∨ w.heap.size ≤ k_) ∧ some k_ ≠ (.slice a6 x3_2.length a7 : Value).ownBlock ∧ k_ ≠ a2) (.slice A0_6 l0_6.length c0_6) l0_6) ∧ (b 16 = true → Kd.R (Kd.int .u8) 5 w' w.heap.size (fun k_ => (w.heap.size ≤ k_) ∧ some k_ ≠ (.slice a6 x3_2.length a7 : Value).ownBlock) v709 t708) ∧ (b 17 = true → (m17_ : Value) = v709)) HT_.out HW_.out (by kernel_rfl) (by kernel_rfl) ?_ ?_ ?_
   ·exact ⟨.bool false, .bool false, .bool false, .bool false, .bool false, .bool false, .bool false, by simp only [putSel, Bool.false_eq_true, if_false], fun _ => Kd.R_mono a5.out (fun _ hk => by simp_all), fun _ => Kd.R_mono a3.out (fun _ hk => by simp_all), fun _ => Kd.V_mono a1.out (fun _ hk => by simp_all), a0.out, HB.out, fun h_ => absurd h_ (by decide), fun h_ => absurd h_ (by decide), fun h_ => absurd h_ (by decide), fun h_ => absurd h_ (by decide), fun h_ => absurd h_ (by decide), fun h_ => absurd h_ (by decide), fun h_ => absurd h_ (by decide), fun h_ => absurd h_ (by decide), fun h_ => absurd h_ (by decide)⟩
   ·skip
    clear a0 HB a5 a3 a1
    refine steps_cons ?_ ?_
    ·rintro b a w' ⟨v694, v697, v700, v703, v706, v709, m17_, ha, Q_HO692, Q_HO_3, Q_HO_674006, Q_BK673, Q_HB, Q_HO695, Q_HO698, Q_HO701, Q_HO704, Q_HO707, Q_HO_3_e15, Q_HO_674006_e15, Q_HO710, Q_X17_⟩ hb_ hon hoff
     refine ⟨_, rfl, fun K hK => ?_⟩
     replace ha := Aside0.mk ha
     have a5 := Aside0.mk (Q_HO692 (hoff 15 (by kernel_rfl)))
     have a3 := Aside0.mk (Q_HO_3 (hoff 15 (by kernel_rfl)))
     have a1 := Aside0.mk (Q_HO_674006 (hoff 15 (by kernel_rfl)))
     have a0 := Aside0.mk Q_BK673
     have HB := Aside0.mk Q_HB
     refine Kd.R_lit_step (Kd.int .u8) _ 5 ?hg (N := 26) ?hd (xs := ([69, 0] : List Int)) (inner := [.int .u8 69, .int .u8 0]) (ok := fun _ => True) (okp := fun _ => True) ?hr ?hp (fun _ hk => hk) trivial (Below.refl _ _) (Nat.le_refl _) (by simp) ?_; (case hd => rfl); (case hg => rfl); (case hr => first | (go_simp; done) | (go_simp; rfl)); (case hp => exact (Reps.one (show Kd.M (Kd.int .u8) _ _ _ 69 [.int .u8 69] from rfl) (Reps.one (show Kd.M (Kd.int .u8) _ _ _ 0 [.int .u8 0] from rfl) (Reps.none _ _))))
     intro v694 w30 ho31 hb hg_ hnew_
     clear hg_ hnew_
     (first | rw [← ax.out] at ho31 | (simp only [Int.reduceToNat] at ho31; rw [← ax.out] at ho31))
     have n0_ := Aside0.mk (Kd.R_elder' (by (with_reducible repeat first | apply rA_ | apply rN_ | apply rD_); exact a3.out) (Kd.R_base ho31) hb)
     have n1_ := Aside0.mk (Kd.V_elder' (by (with_reducible repeat (first | apply Kd.V_alloc | apply Kd.V_drewN | apply Kd.V_drew)); exact a1.out) (Kd.R_base ho31) hb)
     have n2_ := Aside0.mk (Kd.R_elder' (by (with_reducible repeat first | apply rA_ | apply rN_ | apply rD_); exact a5.out) (Kd.R_base ho31) hb)
     have n3_ := Aside0.mk (Kd.R_lower (Kd.R_new' (Kd.R_new' (Kd.R_newM (M := fun k_ => (w.heap.size ≤ k_)) ho31 (below_size (by repeat (first | (with_reducible first | exact HB.out | apply lA1_ | apply lN_ | apply lD_ | refine lS1_ ?_ a4.out) | exact HB.out))) (fun k_ h_ => h_)) (Kd.R_lt (by (with_reducible repeat first | apply rA_ | apply rN_ | apply rD_); exact a3.out))) (Kd.R_lt (by (with_reducible repeat first | apply rA_ | apply rN_ | apply rD_); exact a5.out))) (below_size (by repeat (first | (with_reducible first | exact HB.out | apply lA1_ | apply lN_ | apply lD_ | refine lS1_ ?_ a4.out) | exact HB.out))))
     have n4_ := Aside0.mk (bB_ (g := a2) (o := .cells #[.int .i64 a0_0, .int .i64 a0_1, .int .i64 a0_2, .int .i64 a0_3, .int .i64 a0_4, .int .i64 a0_5, .slice A0_6 l0_6.length c0_6] 34 (0, 0)) (by (with_reducible repeat first | apply bN_ | apply bD_ | apply bA_); exact a0.out) hb)
     have n5_ := Aside0.mk (lP_ (by repeat (first | (with_reducible first | exact HB.out | apply lA1_ | apply lN_ | apply lD_ | refine lS1_ ?_ a4.out) | exact HB.out)) hb)
     have z_HO698 := fun (h0_ : b 8 = true) (h1_ : b 15 = false) => (show Kd.R (Kd.int .u8) 5 w30 w.heap.size (fun k_ => (w.heap.size ≤ k_) ∧ some k_ ≠ (v691 : Value).ownBlock ∧ some k_ ≠ (.slice a6 x3_2.length a7 : Value).ownBlock) v697 y696 from by first | exact (Kd.R_elder' (by (with_reducible repeat first | apply rA_ | apply rN_ | apply rD_); exact (Q_HO698 h0_ h1_)) (Kd.R_base ho31) hb) | exact Kd.R_mono (Kd.R_elder' (by (with_reducible repeat first | apply rA_ | apply rN_ | apply rD_); exact (Q_HO698 h0_ h1_)) (Kd.R_base ho31) hb) (fun _ h_ => by first | trivial | exact h_ | exact h_.1))
     have z_HO701 := fun (h0_ : b 11 = true) (h1_ : b 15 = false) => (show Kd.R (Kd.int .u8) 5 w30 w.heap.size (fun k_ => (w.heap.size ≤ k_) ∧ some k_ ≠ (v691 : Value).ownBlock ∧ some k_ ≠ (.slice a6 x3_2.length a7 : Value).ownBlock) v700 t699 from by first | exact (Kd.R_elder' (by (with_reducible repeat first | apply rA_ | apply rN_ | apply rD_); exact (Q_HO701 h0_ h1_)) (Kd.R_base ho31) hb) | exact Kd.R_mono (Kd.R_elder' (by (with_reducible repeat first | apply rA_ | apply rN_ | apply rD_); exact (Q_HO701 h0_ h1_)) (Kd.R_base ho31) hb) (fun _ h_ => by first | trivial | exact h_ | exact h_.1))
     have z_HO704 := fun (h0_ : b 14 = true) (h1_ : b 15 = false) => (show Kd.R (Kd.int .u8) 5 w30 w.heap.size (fun k_ => (w.heap.size ≤ k_) ∧ some k_ ≠ (v691 : Value).ownBlock ∧ some k_ ≠ (.slice a6 x3_2.length a7 : Value).ownBlock) v703 t702 from by first | exact (Kd.R_elder' (by (with_reducible repeat first | apply rA_ | apply rN_ | apply rD_); exact (Q_HO704 h0_ h1_)) (Kd.R_base ho31) hb) | exact Kd.R_mono (Kd.R_elder' (by (with_reducible repeat first | apply rA_ | apply rN_ | apply rD_); exact (Q_HO704 h0_ h1_)) (Kd.R_base ho31) hb) (fun _ h_ => by first | trivial | exact h_ | exact h_.1))
     clear a3
     clear a1
     clear a5
     clear a0
     clear HB
     have a3 := n0_
     have a1 := n1_
     have a5 := n2_
     have af := n3_
     have a0 := n4_
     have HB := n5_
     clear n0_ n1_ n2_ n3_ n4_ n5_
     clear hb ho31
     refine hK.out _ _ ⟨v694, v697, v700, v703, v706, v709, m17_, (by rw [ha.out]; exact putSel_upk 0 hb_ rfl rfl rfl), fun _ => (by (with_reducible repeat first | apply rA_ | apply rN_ | apply rD_); exact Kd.R_mono a5.out (fun _ hk => by simp_all)), fun _ => (by (with_reducible repeat first | apply rA_ | apply rN_ | apply rD_); exact Kd.R_mono a3.out (fun _ hk => by simp_all)), fun _ => (by (with_reducible repeat (first | apply Kd.V_alloc | apply Kd.V_drewN | apply Kd.V_drew)); exact Kd.V_mono a1.out (fun _ hk => by simp_all)), (by (with_reducible repeat first | apply bN_ | apply bD_ | apply bA_); exact a0.out), (by repeat (first | (with_reducible first | exact HB.out | apply lA1_ | apply lN_ | apply lD_ | refine lS1_ ?_ a4.out) | exact HB.out)), fun _ _ => (by (with_reducible repeat first | apply rA_ | apply rN_ | apply rD_); exact Kd.R_mono af.out (fun _ hk => by simp_all)), z_HO698, z_HO701, z_HO704, fun h0_ => absurd ((hoff 15 (by kernel_rfl)).symm.trans h0_) (by decide), fun h0_ => absurd ((hoff 15 (by kernel_rfl)).symm.trans h0_) (by decide), fun h0_ => absurd ((hoff 15 (by kernel_rfl)).symm.trans h0_) (by decide), fun h0_ => absurd ((hoff 16 (by kernel_rfl)).symm.trans h0_) (by decide), fun h0_ => absurd ((hoff 17 (by kernel_rfl)).symm.trans h0_) (by decide)⟩
    refine steps_cons ?_ ?_
    ·rintro b a w' ⟨v694, v697, v700, v703, v706, v709, m17_, ha, Q_HO692, Q_HO_3, Q_HO_674006, Q_BK673, Q_HB, Q_HO695, Q_HO698, Q_HO701, Q_HO704, Q_HO707, Q_HO_3_e15, Q_HO_674006_e15, Q_HO710, Q_X17_⟩ hb_ hon hoff
     refine ⟨_, rfl, fun K hK => ?_⟩
     have e28 : a.tmps[28]? = some (.pointer (some ⟨a2, 3, none⟩)) := by rw [ha]; exact (putSel_off rfl).trans rfl
     replace ha := Aside0.mk ha
     have a5 := Aside0.mk (Q_HO692 (hoff 15 (by kernel_rfl)))
     have a3 := Aside0.mk (Q_HO_3 (hoff 15 (by kernel_rfl)))
     have a1 := Aside0.mk (Q_HO_674006 (hoff 15 (by kernel_rfl)))
     have a0 := Aside0.mk Q_BK673
     have HB := Aside0.mk Q_HB
     have hc0_ : w'.cell? ⟨a2, 0, none⟩ = some (.int .i64 a0_0) := (blk_cell a0.out 0).trans rfl
     have hc1_ : w'.cell? ⟨a2, 1, none⟩ = some (.int .i64 a0_1) := (blk_cell a0.out 1).trans rfl
     have hc2_ : w'.cell? ⟨a2, 2, none⟩ = some (.int .i64 a0_2) := (blk_cell a0.out 2).trans rfl
     have hc3_ : w'.cell? ⟨a2, 3, none⟩ = some (.int .i64 a0_3) := (blk_cell a0.out 3).trans rfl
     have hc4_ : w'.cell? ⟨a2, 4, none⟩ = some (.int .i64 a0_4) := (blk_cell a0.out 4).trans rfl
     have hc5_ : w'.cell? ⟨a2, 5, none⟩ = some (.int .i64 a0_5) := (blk_cell a0.out 5).trans rfl
     have hc6_ : w'.cell? ⟨a2, 6, none⟩ = some (.slice A0_6 l0_6.length c0_6) := (blk_cell a0.out 6).trans rfl
     refine value_ (w1 := w') (v := .int .i64 a0_3) (by rfl) rfl ?_ ?_
     ·go_simp
      (try simp only [i64_w])
      try rfl
     refine hK.out _ _ ⟨v694, v697, v700, v703, v706, v709, m17_, (by rw [ha.out]; exact putSel_upk 1 hb_ rfl rfl rfl), Q_HO692, Q_HO_3, Q_HO_674006, Q_BK673, Q_HB, Q_HO695, fun h0_ _ => absurd ((hoff 8 (by kernel_rfl)).symm.trans h0_) (by decide), Q_HO701, Q_HO704, fun h0_ => absurd ((hoff 15 (by kernel_rfl)).symm.trans h0_) (by decide), fun h0_ => absurd ((hoff 15 (by kernel_rfl)).symm.trans h0_) (by decide), fun h0_ => absurd ((hoff 15 (by kernel_rfl)).symm.trans h0_) (by decide), fun h0_ => absurd ((hoff 16 (by kernel_rfl)).symm.trans h0_) (by decide), fun h0_ => absurd ((hoff 17 (by kernel_rfl)).symm.trans h0_) (by decide)⟩
    refine steps_cons ?_ ?_
    ·rintro b a w' ⟨v694, v697, v700, v703, v706, v709, m17_, ha, Q_HO692, Q_HO_3, Q_HO_674006, Q_BK673, Q_HB, Q_HO695, Q_HO698, Q_HO701, Q_HO704, Q_HO707, Q_HO_3_e15, Q_HO_674006_e15, Q_HO710, Q_X17_⟩ hb_ hon hoff
     refine ⟨_, rfl, fun K hK => ?_⟩
     have e29 : a.tmps[29]? = some (.int .i64 a0_3) := by rw [ha]; exact putSel_on (e := (3, 29, .int .i64 a0_3)) 1 rfl rfl (hon 3 (by kernel_rfl)) rfl
     replace ha := Aside0.mk ha
     have a5 := Aside0.mk (Q_HO692 (hoff 15 (by kernel_rfl)))
     have a3 := Aside0.mk (Q_HO_3 (hoff 15 (by kernel_rfl)))
     have a1 := Aside0.mk (Q_HO_674006 (hoff 15 (by kernel_rfl)))
     have a0 := Aside0.mk Q_BK673
     have HB := Aside0.mk Q_HB
     refine value_ (w1 := w') (v := .int .u8 ((a0_3) % 256)) (by rfl) rfl ?_ ?_
     ·go_simp
      (try simp only [i64_w])
      try rfl
     refine hK.out _ _ ⟨v694, v697, v700, v703, v706, v709, m17_, (by rw [ha.out]; exact putSel_upk 2 hb_ rfl rfl rfl), Q_HO692, Q_HO_3, Q_HO_674006, Q_BK673, Q_HB, Q_HO695, fun h0_ _ => absurd ((hoff 8 (by kernel_rfl)).symm.trans h0_) (by decide), Q_HO701, Q_HO704, fun h0_ => absurd ((hoff 15 (by kernel_rfl)).symm.trans h0_) (by decide), fun h0_ => absurd ((hoff 15 (by kernel_rfl)).symm.trans h0_) (by decide), fun h0_ => absurd ((hoff 15 (by kernel_rfl)).symm.trans h0_) (by decide), fun h0_ => absurd ((hoff 16 (by kernel_rfl)).symm.trans h0_) (by decide), fun h0_ => absurd ((hoff 17 (by kernel_rfl)).symm.trans h0_) (by decide)⟩
    refine steps_cons ?_ ?_
    ·rintro b a w' ⟨v694, v697, v700, v703, v706, v709, m17_, ha, Q_HO692, Q_HO_3, Q_HO_674006, Q_BK673, Q_HB, Q_HO695, Q_HO698, Q_HO701, Q_HO704, Q_HO707, Q_HO_3_e15, Q_HO_674006_e15, Q_HO710, Q_X17_⟩ hb_ hon hoff
     refine ⟨_, rfl, fun K hK => ?_⟩
     have e31 : a.tmps[31]? = some (.pointer (some ⟨a2, 2, none⟩)) := by rw [ha]; exact (putSel_off rfl).trans rfl
     replace ha := Aside0.mk ha
     have a5 := Aside0.mk (Q_HO692 (hoff 15 (by kernel_rfl)))
     have a3 := Aside0.mk (Q_HO_3 (hoff 15 (by kernel_rfl)))
     have a1 := Aside0.mk (Q_HO_674006 (hoff 15 (by kernel_rfl)))
     have a0 := Aside0.mk Q_BK673
     have HB := Aside0.mk Q_HB
     have hc0_ : w'.cell? ⟨a2, 0, none⟩ = some (.int .i64 a0_0) := (blk_cell a0.out 0).trans rfl
     have hc1_ : w'.cell? ⟨a2, 1, none⟩ = some (.int .i64 a0_1) := (blk_cell a0.out 1).trans rfl
     have hc2_ : w'.cell? ⟨a2, 2, none⟩ = some (.int .i64 a0_2) := (blk_cell a0.out 2).trans rfl
     have hc3_ : w'.cell? ⟨a2, 3, none⟩ = some (.int .i64 a0_3) := (blk_cell a0.out 3).trans rfl
     have hc4_ : w'.cell? ⟨a2, 4, none⟩ = some (.int .i64 a0_4) := (blk_cell a0.out 4).trans rfl
     have hc5_ : w'.cell? ⟨a2, 5, none⟩ = some (.int .i64 a0_5) := (blk_cell a0.out 5).trans rfl
     have hc6_ : w'.cell? ⟨a2, 6, none⟩ = some (.slice A0_6 l0_6.length c0_6) := (blk_cell a0.out 6).trans rfl
     refine value_ (w1 := w') (v := .int .i64 a0_2) (by rfl) rfl ?_ ?_
     ·go_simp
      (try simp only [i64_w])
      try rfl
     refine hK.out _ _ ⟨v694, v697, v700, v703, v706, v709, m17_, (by rw [ha.out]; exact putSel_upk 3 hb_ rfl rfl rfl), Q_HO692, Q_HO_3, Q_HO_674006, Q_BK673, Q_HB, Q_HO695, fun h0_ _ => absurd ((hoff 8 (by kernel_rfl)).symm.trans h0_) (by decide), Q_HO701, Q_HO704, fun h0_ => absurd ((hoff 15 (by kernel_rfl)).symm.trans h0_) (by decide), fun h0_ => absurd ((hoff 15 (by kernel_rfl)).symm.trans h0_) (by decide), fun h0_ => absurd ((hoff 15 (by kernel_rfl)).symm.trans h0_) (by decide), fun h0_ => absurd ((hoff 16 (by kernel_rfl)).symm.trans h0_) (by decide), fun h0_ => absurd ((hoff 17 (by kernel_rfl)).symm.trans h0_) (by decide)⟩
    refine steps_cons ?_ ?_
    ·rintro b a w' ⟨v694, v697, v700, v703, v706, v709, m17_, ha, Q_HO692, Q_HO_3, Q_HO_674006, Q_BK673, Q_HB, Q_HO695, Q_HO698, Q_HO701, Q_HO704, Q_HO707, Q_HO_3_e15, Q_HO_674006_e15, Q_HO710, Q_X17_⟩ hb_ hon hoff
     refine ⟨_, rfl, fun K hK => ?_⟩
     have e32 : a.tmps[32]? = some (.int .i64 a0_2) := by rw [ha]; exact putSel_on (e := (6, 32, .int .i64 a0_2)) 3 rfl rfl (hon 6 (by kernel_rfl)) rfl
     replace ha := Aside0.mk ha
     have a5 := Aside0.mk (Q_HO692 (hoff 15 (by kernel_rfl)))
     have a3 := Aside0.mk (Q_HO_3 (hoff 15 (by kernel_rfl)))
     have a1 := Aside0.mk (Q_HO_674006 (hoff 15 (by kernel_rfl)))
     have a0 := Aside0.mk Q_BK673
     have HB := Aside0.mk Q_HB
     refine value_ (w1 := w') (v := .int .u8 ((a0_2) % 256)) (by rfl) rfl ?_ ?_
     ·go_simp
      (try simp only [i64_w])
      try rfl
     refine hK.out _ _ ⟨v694, v697, v700, v703, v706, v709, m17_, (by rw [ha.out]; exact putSel_upk 4 hb_ rfl rfl rfl), Q_HO692, Q_HO_3, Q_HO_674006, Q_BK673, Q_HB, Q_HO695, fun h0_ _ => absurd ((hoff 8 (by kernel_rfl)).symm.trans h0_) (by decide), Q_HO701, Q_HO704, fun h0_ => absurd ((hoff 15 (by kernel_rfl)).symm.trans h0_) (by decide), fun h0_ => absurd ((hoff 15 (by kernel_rfl)).symm.trans h0_) (by decide), fun h0_ => absurd ((hoff 15 (by kernel_rfl)).symm.trans h0_) (by decide), fun h0_ => absurd ((hoff 16 (by kernel_rfl)).symm.trans h0_) (by decide), fun h0_ => absurd ((hoff 17 (by kernel_rfl)).symm.trans h0_) (by decide)⟩
    refine steps_cons ?_ ?_
    ·rintro b a w' ⟨v694, v697, v700, v703, v706, v709, m17_, ha, Q_HO692, Q_HO_3, Q_HO_674006, Q_BK673, Q_HB, Q_HO695, Q_HO698, Q_HO701, Q_HO704, Q_HO707, Q_HO_3_e15, Q_HO_674006_e15, Q_HO710, Q_X17_⟩ hb_ hon hoff
     refine ⟨_, rfl, fun K hK => ?_⟩
     have e30 : a.tmps[30]? = some (.int .u8 ((a0_3) % 256)) := by rw [ha]; exact putSel_on (e := (4, 30, .int .u8 ((a0_3) % 256))) 2 rfl rfl (hon 4 (by kernel_rfl)) rfl
     have e33 : a.tmps[33]? = some (.int .u8 ((a0_2) % 256)) := by rw [ha]; exact putSel_on (e := (7, 33, .int .u8 ((a0_2) % 256))) 4 rfl rfl (hon 7 (by kernel_rfl)) rfl
     replace ha := Aside0.mk ha
     have a5 := Aside0.mk (Q_HO692 (hoff 15 (by kernel_rfl)))
     have a3 := Aside0.mk (Q_HO_3 (hoff 15 (by kernel_rfl)))
     have a1 := Aside0.mk (Q_HO_674006 (hoff 15 (by kernel_rfl)))
     have a0 := Aside0.mk Q_BK673
     have HB := Aside0.mk Q_HB
     refine Kd.R_lit_step (Kd.int .u8) _ 5 ?hg (N := 34) ?hd (xs := ([0, 0, 64, 0, (a0_3) % 256, (a0_2) % 256, 0, 0] : List Int)) (inner := [.int .u8 0, .int .u8 0, .int .u8 64, .int .u8 0, .int .u8 ((a0_3) % 256), .int .u8 ((a0_2) % 256), .int .u8 0, .int .u8 0]) (ok := fun _ => True) (okp := fun _ => True) ?hr ?hp (fun _ hk => hk) trivial (Below.refl _ _) (Nat.le_refl _) (by simp) ?_; (case hd => rfl); (case hg => rfl); (case hr => first | (go_simp; done) | (go_simp; rfl)); (case hp => exact (Reps.one (show Kd.M (Kd.int .u8) _ _ _ 0 [.int .u8 0] from rfl) (Reps.one (show Kd.M (Kd.int .u8) _ _ _ 0 [.int .u8 0] from rfl) (Reps.one (show Kd.M (Kd.int .u8) _ _ _ 64 [.int .u8 64] from rfl) (Reps.one (show Kd.M (Kd.int .u8) _ _ _ 0 [.int .u8 0] from rfl) (Reps.one (show Kd.M (Kd.int .u8) _ _ _ ((a0_3) % 256) [.int .u8 ((a0_3) % 256)] from rfl) (Reps.one (show Kd.M (Kd.int .u8) _ _ _ ((a0_2) % 256) [.int .u8 ((a0_2) % 256)] from rfl) (Reps.one (show Kd.M (Kd.int .u8) _ _ _ 0 [.int .u8 0] from rfl) (Reps.one (show Kd.M (Kd.int .u8) _ _ _ 0 [.int .u8 0] from rfl) (Reps.none _ _))))))))))
     intro v697 w30 ho31 hb hg_ hnew_
     clear hg_ hnew_
     (first | rw [← ay.out] at ho31 | (simp only [Int.reduceToNat] at ho31; rw [← ay.out] at ho31))
     have n0_ := Aside0.mk (Kd.R_elder' (by (with_reducible repeat first | apply rA_ | apply rN_ | apply rD_); exact a3.out) (Kd.R_base ho31) hb)
     have n1_ := Aside0.mk (Kd.V_elder' (by (with_reducible repeat (first | apply Kd.V_alloc | apply Kd.V_drewN | apply Kd.V_drew)); exact a1.out) (Kd.R_base ho31) hb)
     have n2_ := Aside0.mk (Kd.R_elder' (by (with_reducible repeat first | apply rA_ | apply rN_ | apply rD_); exact a5.out) (Kd.R_base ho31) hb)
     have n3_ := Aside0.mk (Kd.R_lower (Kd.R_new' (Kd.R_new' (Kd.R_newM (M := fun k_ => (w.heap.size ≤ k_)) ho31 (below_size (by repeat (first | (with_reducible first | exact HB.out | apply lA1_ | apply lN_ | apply lD_ | refine lS1_ ?_ a4.out) | exact HB.out))) (fun k_ h_ => h_)) (Kd.R_lt (by (with_reducible repeat first | apply rA_ | apply rN_ | apply rD_); exact a3.out))) (Kd.R_lt (by (with_reducible repeat first | apply rA_ | apply rN_ | apply rD_); exact a5.out))) (below_size (by repeat (first | (with_reducible first | exact HB.out | apply lA1_ | apply lN_ | apply lD_ | refine lS1_ ?_ a4.out) | exact HB.out))))
     have n4_ := Aside0.mk (bB_ (g := a2) (o := .cells #[.int .i64 a0_0, .int .i64 a0_1, .int .i64 a0_2, .int .i64 a0_3, .int .i64 a0_4, .int .i64 a0_5, .slice A0_6 l0_6.length c0_6] 34 (0, 0)) (by (with_reducible repeat first | apply bN_ | apply bD_ | apply bA_); exact a0.out) hb)
     have n5_ := Aside0.mk (lP_ (by repeat (first | (with_reducible first | exact HB.out | apply lA1_ | apply lN_ | apply lD_ | refine lS1_ ?_ a4.out) | exact HB.out)) hb)
     have z_HO695 := fun (h0_ : b 0 = true) (h1_ : b 15 = false) => (show Kd.R (Kd.int .u8) 5 w30 w.heap.size (fun k_ => (w.heap.size ≤ k_) ∧ some k_ ≠ (v691 : Value).ownBlock ∧ some k_ ≠ (.slice a6 x3_2.length a7 : Value).ownBlock) v694 y693 from by first | exact (Kd.R_elder' (by (with_reducible repeat first | apply rA_ | apply rN_ | apply rD_); exact (Q_HO695 h0_ h1_)) (Kd.R_base ho31) hb) | exact Kd.R_mono (Kd.R_elder' (by (with_reducible repeat first | apply rA_ | apply rN_ | apply rD_); exact (Q_HO695 h0_ h1_)) (Kd.R_base ho31) hb) (fun _ h_ => by first | trivial | exact h_ | exact h_.1))
     have z_HO701 := fun (h0_ : b 11 = true) (h1_ : b 15 = false) => (show Kd.R (Kd.int .u8) 5 w30 w.heap.size (fun k_ => (w.heap.size ≤ k_) ∧ some k_ ≠ (v691 : Value).ownBlock ∧ some k_ ≠ (.slice a6 x3_2.length a7 : Value).ownBlock) v700 t699 from by first | exact (Kd.R_elder' (by (with_reducible repeat first | apply rA_ | apply rN_ | apply rD_); exact (Q_HO701 h0_ h1_)) (Kd.R_base ho31) hb) | exact Kd.R_mono (Kd.R_elder' (by (with_reducible repeat first | apply rA_ | apply rN_ | apply rD_); exact (Q_HO701 h0_ h1_)) (Kd.R_base ho31) hb) (fun _ h_ => by first | trivial | exact h_ | exact h_.1))
     have z_HO704 := fun (h0_ : b 14 = true) (h1_ : b 15 = false) => (show Kd.R (Kd.int .u8) 5 w30 w.heap.size (fun k_ => (w.heap.size ≤ k_) ∧ some k_ ≠ (v691 : Value).ownBlock ∧ some k_ ≠ (.slice a6 x3_2.length a7 : Value).ownBlock) v703 t702 from by first | exact (Kd.R_elder' (by (with_reducible repeat first | apply rA_ | apply rN_ | apply rD_); exact (Q_HO704 h0_ h1_)) (Kd.R_base ho31) hb) | exact Kd.R_mono (Kd.R_elder' (by (with_reducible repeat first | apply rA_ | apply rN_ | apply rD_); exact (Q_HO704 h0_ h1_)) (Kd.R_base ho31) hb) (fun _ h_ => by first | trivial | exact h_ | exact h_.1))
     clear a3
     clear a1
     clear a5
     clear a0
     clear HB
     have a3 := n0_
     have a1 := n1_
     have a5 := n2_
     have ag := n3_
     have a0 := n4_
     have HB := n5_
     clear n0_ n1_ n2_ n3_ n4_ n5_
     clear hb ho31
     refine hK.out _ _ ⟨v694, v697, v700, v703, v706, v709, m17_, (by rw [ha.out]; exact putSel_upk 5 hb_ rfl rfl rfl), fun _ => (by (with_reducible repeat first | apply rA_ | apply rN_ | apply rD_); exact Kd.R_mono a5.out (fun _ hk => by simp_all)), fun _ => (by (with_reducible repeat first | apply rA_ | apply rN_ | apply rD_); exact Kd.R_mono a3.out (fun _ hk => by simp_all)), fun _ => (by (with_reducible repeat (first | apply Kd.V_alloc | apply Kd.V_drewN | apply Kd.V_drew)); exact Kd.V_mono a1.out (fun _ hk => by simp_all)), (by (with_reducible repeat first | apply bN_ | apply bD_ | apply bA_); exact a0.out), (by repeat (first | (with_reducible first | exact HB.out | apply lA1_ | apply lN_ | apply lD_ | refine lS1_ ?_ a4.out) | exact HB.out)), z_HO695, fun _ _ => (by (with_reducible repeat first | apply rA_ | apply rN_ | apply rD_); exact Kd.R_mono ag.out (fun _ hk => by simp_all)), z_HO701, z_HO704, fun h0_ => absurd ((hoff 15 (by kernel_rfl)).symm.trans h0_) (by decide), fun h0_ => absurd ((hoff 15 (by kernel_rfl)).symm.trans h0_) (by decide), fun h0_ => absurd ((hoff 15 (by kernel_rfl)).symm.trans h0_) (by decide), fun h0_ => absurd ((hoff 16 (by kernel_rfl)).symm.trans h0_) (by decide), fun h0_ => absurd ((hoff 17 (by kernel_rfl)).symm.trans h0_) (by decide)⟩
    refine steps_cons ?_ ?_
    ·rintro b a w' ⟨v694, v697, v700, v703, v706, v709, m17_, ha, Q_HO692, Q_HO_3, Q_HO_674006, Q_BK673, Q_HB, Q_HO695, Q_HO698, Q_HO701, Q_HO704, Q_HO707, Q_HO_3_e15, Q_HO_674006_e15, Q_HO710, Q_X17_⟩ hb_ hon hoff
     refine ⟨_, rfl, fun K hK => ?_⟩
     have e35 : a.tmps[35]? = some (.pointer (some ⟨a2, 0, none⟩)) := by rw [ha]; exact (putSel_off rfl).trans rfl
     replace ha := Aside0.mk ha
     have a5 := Aside0.mk (Q_HO692 (hoff 15 (by kernel_rfl)))
     have a3 := Aside0.mk (Q_HO_3 (hoff 15 (by kernel_rfl)))
     have a1 := Aside0.mk (Q_HO_674006 (hoff 15 (by kernel_rfl)))
     have a0 := Aside0.mk Q_BK673
     have HB := Aside0.mk Q_HB
     have hc0_ : w'.cell? ⟨a2, 0, none⟩ = some (.int .i64 a0_0) := (blk_cell a0.out 0).trans rfl
     have hc1_ : w'.cell? ⟨a2, 1, none⟩ = some (.int .i64 a0_1) := (blk_cell a0.out 1).trans rfl
     have hc2_ : w'.cell? ⟨a2, 2, none⟩ = some (.int .i64 a0_2) := (blk_cell a0.out 2).trans rfl
     have hc3_ : w'.cell? ⟨a2, 3, none⟩ = some (.int .i64 a0_3) := (blk_cell a0.out 3).trans rfl
     have hc4_ : w'.cell? ⟨a2, 4, none⟩ = some (.int .i64 a0_4) := (blk_cell a0.out 4).trans rfl
     have hc5_ : w'.cell? ⟨a2, 5, none⟩ = some (.int .i64 a0_5) := (blk_cell a0.out 5).trans rfl
     have hc6_ : w'.cell? ⟨a2, 6, none⟩ = some (.slice A0_6 l0_6.length c0_6) := (blk_cell a0.out 6).trans rfl
     refine value_ (w1 := w') (v := .int .i64 a0_0) (by rfl) rfl ?_ ?_
     ·go_simp
      (try simp only [i64_w])
      try rfl
     refine hK.out _ _ ⟨v694, v697, v700, v703, v706, v709, m17_, (by rw [ha.out]; exact putSel_upk 6 hb_ rfl rfl rfl), Q_HO692, Q_HO_3, Q_HO_674006, Q_BK673, Q_HB, Q_HO695, Q_HO698, fun h0_ _ => absurd ((hoff 11 (by kernel_rfl)).symm.trans h0_) (by decide), fun h0_ _ => absurd ((hoff 14 (by kernel_rfl)).symm.trans h0_) (by decide), fun h0_ => absurd ((hoff 15 (by kernel_rfl)).symm.trans h0_) (by decide), fun h0_ => absurd ((hoff 15 (by kernel_rfl)).symm.trans h0_) (by decide), fun h0_ => absurd ((hoff 15 (by kernel_rfl)).symm.trans h0_) (by decide), fun h0_ => absurd ((hoff 16 (by kernel_rfl)).symm.trans h0_) (by decide), fun h0_ => absurd ((hoff 17 (by kernel_rfl)).symm.trans h0_) (by decide)⟩
    refine steps_cons ?_ ?_
    ·rintro b a w' ⟨v694, v697, v700, v703, v706, v709, m17_, ha, Q_HO692, Q_HO_3, Q_HO_674006, Q_BK673, Q_HB, Q_HO695, Q_HO698, Q_HO701, Q_HO704, Q_HO707, Q_HO_3_e15, Q_HO_674006_e15, Q_HO710, Q_X17_⟩ hb_ hon hoff
     refine ⟨_, rfl, fun K hK => ?_⟩
     have e36 : a.tmps[36]? = some (.int .i64 a0_0) := by rw [ha]; exact putSel_on (e := (10, 36, .int .i64 a0_0)) 6 rfl rfl (hon 10 (by kernel_rfl)) rfl
     replace ha := Aside0.mk ha
     have a5 := Aside0.mk (Q_HO692 (hoff 15 (by kernel_rfl)))
     have a3 := Aside0.mk (Q_HO_3 (hoff 15 (by kernel_rfl)))
     have a1 := Aside0.mk (Q_HO_674006 (hoff 15 (by kernel_rfl)))
     have a0 := Aside0.mk Q_BK673
     have HB := Aside0.mk Q_HB
     refine goes_ Try.func50 (by kernel_rfl) rfl #[.int .i64 a0_0, .int .i64 4] (by rfl) rfl rfl (by first | (simp only [List.map_toArray, List.map_cons, List.map_nil, Act.eval, Array.getD_eq_getD_getElem?, Option.getD_some, e36]; done) | (simp only [List.map_toArray, List.map_cons, List.map_nil, Act.eval, Array.getD_eq_getD_getElem?, Option.getD_some, e36]; rfl)) ?_
     with_reducible refine (impl_put.calls kj2 a0_0 4 t699 _ bs.out).mono ?_
     rintro e w30 ⟨v700, rfl, ho0, hb⟩
     refine ⟨_, rfl, ?_⟩
     have n0_ := Aside0.mk (Kd.R_elder' (by (with_reducible repeat first | apply rA_ | apply rN_ | apply rD_); exact a3.out) (Kd.R_base ho0) hb)
     have n1_ := Aside0.mk (Kd.V_elder' (by (with_reducible repeat (first | apply Kd.V_alloc | apply Kd.V_drewN | apply Kd.V_drew)); exact a1.out) (Kd.R_base ho0) hb)
     have n2_ := Aside0.mk (Kd.R_elder' (by (with_reducible repeat first | apply rA_ | apply rN_ | apply rD_); exact a5.out) (Kd.R_base ho0) hb)
     have n3_ := Aside0.mk (Kd.R_lower (Kd.R_new' (Kd.R_new' (Kd.R_newM (M := fun k_ => (w.heap.size ≤ k_)) ho0 (below_size (by repeat (first | (with_reducible first | exact HB.out | apply lA1_ | apply lN_ | apply lD_ | refine lS1_ ?_ a4.out) | exact HB.out))) (fun k_ h_ => h_)) (Kd.R_lt (by (with_reducible repeat first | apply rA_ | apply rN_ | apply rD_); exact a3.out))) (Kd.R_lt (by (with_reducible repeat first | apply rA_ | apply rN_ | apply rD_); exact a5.out))) (below_size (by repeat (first | (with_reducible first | exact HB.out | apply lA1_ | apply lN_ | apply lD_ | refine lS1_ ?_ a4.out) | exact HB.out))))
     have n4_ := Aside0.mk (bB_ (g := a2) (o := .cells #[.int .i64 a0_0, .int .i64 a0_1, .int .i64 a0_2, .int .i64 a0_3, .int .i64 a0_4, .int .i64 a0_5, .slice A0_6 l0_6.length c0_6] 34 (0, 0)) (by (with_reducible repeat first | apply bN_ | apply bD_ | apply bA_); exact a0.out) hb)
     have n5_ := Aside0.mk (lP_ (by repeat (first | (with_reducible first | exact HB.out | apply lA1_ | apply lN_ | apply lD_ | refine lS1_ ?_ a4.out) | exact HB.out)) hb)
     have z_HO695 := fun (h0_ : b 0 = true) (h1_ : b 15 = false) => (show Kd.R (Kd.int .u8) 5 w30 w.heap.size (fun k_ => (w.heap.size ≤ k_) ∧ some k_ ≠ (v691 : Value).ownBlock ∧ some k_ ≠ (.slice a6 x3_2.length a7 : Value).ownBlock) v694 y693 from by first | exact (Kd.R_elder' (by (with_reducible repeat first | apply rA_ | apply rN_ | apply rD_); exact (Q_HO695 h0_ h1_)) (Kd.R_base ho0) hb) | exact Kd.R_mono (Kd.R_elder' (by (with_reducible repeat first | apply rA_ | apply rN_ | apply rD_); exact (Q_HO695 h0_ h1_)) (Kd.R_base ho0) hb) (fun _ h_ => by first | trivial | exact h_ | exact h_.1))
     have z_HO698 := fun (h0_ : b 8 = true) (h1_ : b 15 = false) => (show Kd.R (Kd.int .u8) 5 w30 w.heap.size (fun k_ => (w.heap.size ≤ k_) ∧ some k_ ≠ (v691 : Value).ownBlock ∧ some k_ ≠ (.slice a6 x3_2.length a7 : Value).ownBlock) v697 y696 from by first | exact (Kd.R_elder' (by (with_reducible repeat first | apply rA_ | apply rN_ | apply rD_); exact (Q_HO698 h0_ h1_)) (Kd.R_base ho0) hb) | exact Kd.R_mono (Kd.R_elder' (by (with_reducible repeat first | apply rA_ | apply rN_ | apply rD_); exact (Q_HO698 h0_ h1_)) (Kd.R_base ho0) hb) (fun _ h_ => by first | trivial | exact h_ | exact h_.1))
     clear a3
     clear a1
     clear a5
     clear a0
     clear HB
     have a3 := n0_
     have a1 := n1_
     have a5 := n2_
     have ab := n3_
     have a0 := n4_
     have HB := n5_
     clear n0_ n1_ n2_ n3_ n4_ n5_
     (try clear hb)
     (try clear hb2)
     (try clear hk)
     (try clear hi)
     (try clear ho0)
     refine hK.out _ _ ⟨v694, v697, v700, v703, v706, v709, m17_, (by rw [ha.out]; exact putSel_upk 7 hb_ rfl rfl rfl), fun _ => (by (with_reducible repeat first | apply rA_ | apply rN_ | apply rD_); exact Kd.R_mono a5.out (fun _ hk => by simp_all)), fun _ => (by (with_reducible repeat first | apply rA_ | apply rN_ | apply rD_); exact Kd.R_mono a3.out (fun _ hk => by simp_all)), fun _ => (by (with_reducible repeat (first | apply Kd.V_alloc | apply Kd.V_drewN | apply Kd.V_drew)); exact Kd.V_mono a1.out (fun _ hk => by simp_all)), (by (with_reducible repeat first | apply bN_ | apply bD_ | apply bA_); exact a0.out), (by repeat (first | (with_reducible first | exact HB.out | apply lA1_ | apply lN_ | apply lD_ | refine lS1_ ?_ a4.out) | exact HB.out)), z_HO695, z_HO698, fun _ _ => (by (with_reducible repeat first | apply rA_ | apply rN_ | apply rD_); exact Kd.R_mono ab.out (fun _ hk => by simp_all)), fun h0_ _ => absurd ((hoff 14 (by kernel_rfl)).symm.trans h0_) (by decide), fun h0_ => absurd ((hoff 15 (by kernel_rfl)).symm.trans h0_) (by decide), fun h0_ => absurd ((hoff 15 (by kernel_rfl)).symm.trans h0_) (by decide), fun h0_ => absurd ((hoff 15 (by kernel_rfl)).symm.trans h0_) (by decide), fun h0_ => absurd ((hoff 16 (by kernel_rfl)).symm.trans h0_) (by decide), fun h0_ => absurd ((hoff 17 (by kernel_rfl)).symm.trans h0_) (by decide)⟩
    refine steps_cons ?_ ?_
    ·rintro b a w' ⟨v694, v697, v700, v703, v706, v709, m17_, ha, Q_HO692, Q_HO_3, Q_HO_674006, Q_BK673, Q_HB, Q_HO695, Q_HO698, Q_HO701, Q_HO704, Q_HO707, Q_HO_3_e15, Q_HO_674006_e15, Q_HO710, Q_X17_⟩ hb_ hon hoff
     refine ⟨_, rfl, fun K hK => ?_⟩
     have e38 : a.tmps[38]? = some (.pointer (some ⟨a2, 1, none⟩)) := by rw [ha]; exact (putSel_off rfl).trans rfl
     replace ha := Aside0.mk ha
     have a5 := Aside0.mk (Q_HO692 (hoff 15 (by kernel_rfl)))
     have a3 := Aside0.mk (Q_HO_3 (hoff 15 (by kernel_rfl)))
     have a1 := Aside0.mk (Q_HO_674006 (hoff 15 (by kernel_rfl)))
     have a0 := Aside0.mk Q_BK673
     have HB := Aside0.mk Q_HB
     have hc0_ : w'.cell? ⟨a2, 0, none⟩ = some (.int .i64 a0_0) := (blk_cell a0.out 0).trans rfl
     have hc1_ : w'.cell? ⟨a2, 1, none⟩ = some (.int .i64 a0_1) := (blk_cell a0.out 1).trans rfl
     have hc2_ : w'.cell? ⟨a2, 2, none⟩ = some (.int .i64 a0_2) := (blk_cell a0.out 2).trans rfl
     have hc3_ : w'.cell? ⟨a2, 3, none⟩ = some (.int .i64 a0_3) := (blk_cell a0.out 3).trans rfl
     have hc4_ : w'.cell? ⟨a2, 4, none⟩ = some (.int .i64 a0_4) := (blk_cell a0.out 4).trans rfl
     have hc5_ : w'.cell? ⟨a2, 5, none⟩ = some (.int .i64 a0_5) := (blk_cell a0.out 5).trans rfl
     have hc6_ : w'.cell? ⟨a2, 6, none⟩ = some (.slice A0_6 l0_6.length c0_6) := (blk_cell a0.out 6).trans rfl
     refine value_ (w1 := w') (v := .int .i64 a0_1) (by rfl) rfl ?_ ?_
     ·go_simp
      (try simp only [i64_w])
      try rfl
     refine hK.out _ _ ⟨v694, v697, v700, v703, v706, v709, m17_, (by rw [ha.out]; exact putSel_upk 8 hb_ rfl rfl rfl), Q_HO692, Q_HO_3, Q_HO_674006, Q_BK673, Q_HB, Q_HO695, Q_HO698, Q_HO701, fun h0_ _ => absurd ((hoff 14 (by kernel_rfl)).symm.trans h0_) (by decide), fun h0_ => absurd ((hoff 15 (by kernel_rfl)).symm.trans h0_) (by decide), fun h0_ => absurd ((hoff 15 (by kernel_rfl)).symm.trans h0_) (by decide), fun h0_ => absurd ((hoff 15 (by kernel_rfl)).symm.trans h0_) (by decide), fun h0_ => absurd ((hoff 16 (by kernel_rfl)).symm.trans h0_) (by decide), fun h0_ => absurd ((hoff 17 (by kernel_rfl)).symm.trans h0_) (by decide)⟩
    refine steps_cons ?_ ?_
    ·rintro b a w' ⟨v694, v697, v700, v703, v706, v709, m17_, ha, Q_HO692, Q_HO_3, Q_HO_674006, Q_BK673, Q_HB, Q_HO695, Q_HO698, Q_HO701, Q_HO704, Q_HO707, Q_HO_3_e15, Q_HO_674006_e15, Q_HO710, Q_X17_⟩ hb_ hon hoff
     refine ⟨_, rfl, fun K hK => ?_⟩
     have e39 : a.tmps[39]? = some (.int .i64 a0_1) := by rw [ha]; exact putSel_on (e := (13, 39, .int .i64 a0_1)) 8 rfl rfl (hon 13 (by kernel_rfl)) rfl
     replace ha := Aside0.mk ha
     have a5 := Aside0.mk (Q_HO692 (hoff 15 (by kernel_rfl)))
     have a3 := Aside0.mk (Q_HO_3 (hoff 15 (by kernel_rfl)))
     have a1 := Aside0.mk (Q_HO_674006 (hoff 15 (by kernel_rfl)))
     have a0 := Aside0.mk Q_BK673
     have HB := Aside0.mk Q_HB
     have ab := Aside0.mk (Q_HO701 (hon 11 (by kernel_rfl)) (hoff 15 (by kernel_rfl)))
     refine goes_ Try.func50 (by kernel_rfl) rfl #[.int .i64 a0_1, .int .i64 4] (by rfl) rfl rfl (by first | (simp only [List.map_toArray, List.map_cons, List.map_nil, Act.eval, Array.getD_eq_getD_getElem?, Option.getD_some, e39]; done) | (simp only [List.map_toArray, List.map_cons, List.map_nil, Act.eval, Array.getD_eq_getD_getElem?, Option.getD_some, e39]; rfl)) ?_
     with_reducible refine (impl_put.calls kj2 a0_1 4 t702 _ bt.out).mono ?_
     rintro e w32 ⟨v703, rfl, ho0, hb⟩
     refine ⟨_, rfl, ?_⟩
     have n0_ := Aside0.mk (Kd.R_elder' (by (with_reducible repeat first | apply rA_ | apply rN_ | apply rD_); exact a3.out) (Kd.R_base ho0) hb)
     have n1_ := Aside0.mk (Kd.V_elder' (by (with_reducible repeat (first | apply Kd.V_alloc | apply Kd.V_drewN | apply Kd.V_drew)); exact a1.out) (Kd.R_base ho0) hb)
     have n2_ := Aside0.mk (Kd.R_elder' (by (with_reducible repeat first | apply rA_ | apply rN_ | apply rD_); exact a5.out) (Kd.R_base ho0) hb)
     have n3_ := Aside0.mk (Kd.R_elder' (by (with_reducible repeat first | apply rA_ | apply rN_ | apply rD_); exact ab.out) (Kd.R_base ho0) hb)
     have n4_ := Aside0.mk (Kd.R_lower (Kd.R_new' (Kd.R_new' (Kd.R_new' (Kd.R_newM (M := fun k_ => (w.heap.size ≤ k_)) ho0 (below_size (by repeat (first | (with_reducible first | exact HB.out | apply lA1_ | apply lN_ | apply lD_ | refine lS1_ ?_ a4.out) | exact HB.out))) (fun k_ h_ => h_)) (Kd.R_lt (by (with_reducible repeat first | apply rA_ | apply rN_ | apply rD_); exact a3.out))) (Kd.R_lt (by (with_reducible repeat first | apply rA_ | apply rN_ | apply rD_); exact a5.out))) (Kd.R_lt (by (with_reducible repeat first | apply rA_ | apply rN_ | apply rD_); exact ab.out))) (below_size (by repeat (first | (with_reducible first | exact HB.out | apply lA1_ | apply lN_ | apply lD_ | refine lS1_ ?_ a4.out) | exact HB.out))))
     have n5_ := Aside0.mk (bB_ (g := a2) (o := .cells #[.int .i64 a0_0, .int .i64 a0_1, .int .i64 a0_2, .int .i64 a0_3, .int .i64 a0_4, .int .i64 a0_5, .slice A0_6 l0_6.length c0_6] 34 (0, 0)) (by (with_reducible repeat first | apply bN_ | apply bD_ | apply bA_); exact a0.out) hb)
     have n6_ := Aside0.mk (lP_ (by repeat (first | (with_reducible first | exact HB.out | apply lA1_ | apply lN_ | apply lD_ | refine lS1_ ?_ a4.out) | exact HB.out)) hb)
     have z_HO695 := fun (h0_ : b 0 = true) (h1_ : b 15 = false) => (show Kd.R (Kd.int .u8) 5 w32 w.heap.size (fun k_ => (w.heap.size ≤ k_) ∧ some k_ ≠ (v691 : Value).ownBlock ∧ some k_ ≠ (.slice a6 x3_2.length a7 : Value).ownBlock) v694 y693 from by first | exact (Kd.R_elder' (by (with_reducible repeat first | apply rA_ | apply rN_ | apply rD_); exact (Q_HO695 h0_ h1_)) (Kd.R_base ho0) hb) | exact Kd.R_mono (Kd.R_elder' (by (with_reducible repeat first | apply rA_ | apply rN_ | apply rD_); exact (Q_HO695 h0_ h1_)) (Kd.R_base ho0) hb) (fun _ h_ => by first | trivial | exact h_ | exact h_.1))
     have z_HO698 := fun (h0_ : b 8 = true) (h1_ : b 15 = false) => (show Kd.R (Kd.int .u8) 5 w32 w.heap.size (fun k_ => (w.heap.size ≤ k_) ∧ some k_ ≠ (v691 : Value).ownBlock ∧ some k_ ≠ (.slice a6 x3_2.length a7 : Value).ownBlock) v697 y696 from by first | exact (Kd.R_elder' (by (with_reducible repeat first | apply rA_ | apply rN_ | apply rD_); exact (Q_HO698 h0_ h1_)) (Kd.R_base ho0) hb) | exact Kd.R_mono (Kd.R_elder' (by (with_reducible repeat first | apply rA_ | apply rN_ | apply rD_); exact (Q_HO698 h0_ h1_)) (Kd.R_base ho0) hb) (fun _ h_ => by first | trivial | exact h_ | exact h_.1))
     clear a3
     clear a1
     clear a5
     clear ab
     clear a0
     clear HB
     have a3 := n0_
     have a1 := n1_
     have a5 := n2_
     have ab := n3_
     have ah := n4_
     have a0 := n5_
     have HB := n6_
     clear n0_ n1_ n2_ n3_ n4_ n5_ n6_
     (try clear hb)
     (try clear hb2)
     (try clear hk)
     (try clear hi)
     (try clear ho0)
     refine hK.out _ _ ⟨v694, v697, v700, v703, v706, v709, m17_, (by rw [ha.out]; exact putSel_upk 9 hb_ rfl rfl rfl), fun _ => (by (with_reducible repeat first | apply rA_ | apply rN_ | apply rD_); exact Kd.R_mono a5.out (fun _ hk => by simp_all)), fun _ => (by (with_reducible repeat first | apply rA_ | apply rN_ | apply rD_); exact Kd.R_mono a3.out (fun _ hk => by simp_all)), fun _ => (by (with_reducible repeat (first | apply Kd.V_alloc | apply Kd.V_drewN | apply Kd.V_drew)); exact Kd.V_mono a1.out (fun _ hk => by simp_all)), (by (with_reducible repeat first | apply bN_ | apply bD_ | apply bA_); exact a0.out), (by repeat (first | (with_reducible first | exact HB.out | apply lA1_ | apply lN_ | apply lD_ | refine lS1_ ?_ a4.out) | exact HB.out)), z_HO695, z_HO698, fun _ _ => (by (with_reducible repeat first | apply rA_ | apply rN_ | apply rD_); exact Kd.R_mono ab.out (fun _ hk => by simp_all)), fun _ _ => (by (with_reducible repeat first | apply rA_ | apply rN_ | apply rD_); exact Kd.R_mono ah.out (fun _ hk => by simp_all)), fun h0_ => absurd ((hoff 15 (by kernel_rfl)).symm.trans h0_) (by decide), fun h0_ => absurd ((hoff 15 (by kernel_rfl)).symm.trans h0_) (by decide), fun h0_ => absurd ((hoff 15 (by kernel_rfl)).symm.trans h0_) (by decide), fun h0_ => absurd ((hoff 16 (by kernel_rfl)).symm.trans h0_) (by decide), fun h0_ => absurd ((hoff 17 (by kernel_rfl)).symm.trans h0_) (by decide)⟩
    refine steps_cons ?_ ?_
    ·rintro b a w' ⟨v694, v697, v700, v703, v706, v709, m17_, ha, Q_HO692, Q_HO_3, Q_HO_674006, Q_BK673, Q_HB, Q_HO695, Q_HO698, Q_HO701, Q_HO704, Q_HO707, Q_HO_3_e15, Q_HO_674006_e15, Q_HO710, Q_X17_⟩ hb_ hon hoff
     refine ⟨_, rfl, fun K hK => ?_⟩
     have e26 : a.tmps[26]? = some (v694) := by rw [ha]; exact putSel_on (e := (0, 26, v694)) 0 rfl rfl (hon 0 (by kernel_rfl)) rfl
     have e27 : a.tmps[27]? = some (v691) := by rw [ha]; exact (putSel_off rfl).trans rfl
     have e34 : a.tmps[34]? = some (v697) := by rw [ha]; exact putSel_on (e := (8, 34, v697)) 5 rfl rfl (hon 8 (by kernel_rfl)) rfl
     have e37 : a.tmps[37]? = some (v700) := by rw [ha]; exact putSel_on (e := (11, 37, v700)) 7 rfl rfl (hon 11 (by kernel_rfl)) rfl
     have e40 : a.tmps[40]? = some (v703) := by rw [ha]; exact putSel_on (e := (14, 40, v703)) 9 rfl rfl (hon 14 (by kernel_rfl)) rfl
     replace ha := Aside0.mk ha
     have a5 := Aside0.mk (Q_HO692 hb_)
     have a3 := Aside0.mk (Q_HO_3 hb_)
     have a1 := Aside0.mk (Q_HO_674006 hb_)
     have a0 := Aside0.mk Q_BK673
     have HB := Aside0.mk Q_HB
     have af := Aside0.mk (Q_HO695 (hon 0 (by kernel_rfl)) hb_)
     have ag := Aside0.mk (Q_HO698 (hon 8 (by kernel_rfl)) hb_)
     have ab := Aside0.mk (Q_HO701 (hon 11 (by kernel_rfl)) hb_)
     have ah := Aside0.mk (Q_HO704 (hon 14 (by kernel_rfl)) hb_)
     obtain ⟨al, am, eo37⟩ := Kd.R_slice af.out
     (first | subst eo37 | (injection eo37 with f1_ f2_ f3_; have f4_ := f1_.symm; have f5_ := f3_.symm; clear f1_ f2_ f3_; subst f4_; subst f5_))
     obtain ⟨bc, bd, eo38⟩ := Kd.R_slice a5.out
     (first | subst eo38 | (injection eo38 with f1_ f2_ f3_; have f4_ := f1_.symm; have f5_ := f3_.symm; clear f1_ f2_ f3_; subst f4_; subst f5_))
     obtain ⟨an, ao, eo39⟩ := Kd.R_slice ag.out
     (first | subst eo39 | (injection eo39 with f1_ f2_ f3_; have f4_ := f1_.symm; have f5_ := f3_.symm; clear f1_ f2_ f3_; subst f4_; subst f5_))
     obtain ⟨ap, aq, eo40⟩ := Kd.R_slice ab.out
     (first | subst eo40 | (injection eo40 with f1_ f2_ f3_; have f4_ := f1_.symm; have f5_ := f3_.symm; clear f1_ f2_ f3_; subst f4_; subst f5_))
     obtain ⟨ar, au, eo41⟩ := Kd.R_slice ah.out
     (first | subst eo41 | (injection eo41 with f1_ f2_ f3_; have f4_ := f1_.symm; have f5_ := f3_.symm; clear f1_ f2_ f3_; subst f4_; subst f5_))
     refine Kd.N_lit_step (Kd.slice 5 (Kd.int .u8)) _ 22 ?hg (N' := 41) ?hd (xs := ([y693, t690, y696, t699, t702] : List (List Int))) (inner := [.slice al y693.length am, .slice bc t690.length bd, .slice an y696.length ao, .slice ap t699.length aq, .slice ar t702.length au]) (ok := (fun k_ => (P0_6_ k_ ∨ w.heap.size ≤ k_) ∧ some k_ ≠ (.slice a6 x3_2.length a7 : Value).ownBlock ∧ k_ ≠ a2)) (okp := (fun k_ => (P0_6_ k_ ∨ w.heap.size ≤ k_) ∧ some k_ ≠ (.slice a6 x3_2.length a7 : Value).ownBlock ∧ k_ ≠ a2)) ?hr ?hp (fun _ hk => hk) ((show ∀ k_, w'.heap.size ≤ k_ → (fun k_ => (P0_6_ k_ ∨ w.heap.size ≤ k_) ∧ some k_ ≠ (.slice a6 x3_2.length a7 : Value).ownBlock ∧ k_ ≠ a2) k_ from fun k_ hk => ⟨(.inr (Nat.le_trans (below_size (by repeat (first | (with_reducible first | exact HB.out | apply lA1_ | apply lN_ | apply lD_ | refine lS1_ ?_ a4.out) | exact HB.out))) hk)), Kd.fresh' (Kd.R_lt (by (with_reducible repeat first | apply rA_ | apply rN_ | apply rD_); exact a3.out)) k_ hk, Kd.freshB (g := a2) (o := .cells #[.int .i64 a0_0, .int .i64 a0_1, .int .i64 a0_2, .int .i64 a0_3, .int .i64 a0_4, .int .i64 a0_5, .slice A0_6 l0_6.length c0_6] 34 (0, 0)) (by (with_reducible repeat first | apply bN_ | apply bD_ | apply bA_); exact a0.out) k_ hk⟩) _ (Nat.le_refl _)) (Below.refl _ _) (Nat.le_refl _) (by simp) ?_; (case hd => rfl); (case hg => rfl); (case hr => first | (go_simp; done) | (go_simp; rfl)); (case hp => exact (Reps.one (show Kd.FK (Kd.slice 5 (Kd.int .u8)) _ _ y693 [.slice al y693.length am] from (Kd.FK_slice_mk (Kd.R_reads' (Kd.R_mono (ok' := (fun k_ => (P0_6_ k_ ∨ w.heap.size ≤ k_) ∧ some k_ ≠ (.slice a6 x3_2.length a7 : Value).ownBlock ∧ k_ ≠ a2)) (Kd.R_types (af.out) a0.out (by decide)) (fun k_ hk => by simp_all))).2.1 (Kd.R_F (Kd.R_mono (ok' := (fun k_ => (P0_6_ k_ ∨ w.heap.size ≤ k_) ∧ some k_ ≠ (.slice a6 x3_2.length a7 : Value).ownBlock ∧ k_ ≠ a2)) (Kd.R_types (af.out) a0.out (by decide)) (fun k_ hk => by simp_all))))) (Reps.one (show Kd.FK (Kd.slice 5 (Kd.int .u8)) _ _ t690 [.slice bc t690.length bd] from (Kd.FK_slice_mk (Kd.R_reads' (Kd.R_mono (ok' := (fun k_ => (P0_6_ k_ ∨ w.heap.size ≤ k_) ∧ some k_ ≠ (.slice a6 x3_2.length a7 : Value).ownBlock ∧ k_ ≠ a2)) (Kd.R_types (a5.out) a0.out (by decide)) (fun k_ hk => by simp_all))).2.1 (Kd.R_F (Kd.R_mono (ok' := (fun k_ => (P0_6_ k_ ∨ w.heap.size ≤ k_) ∧ some k_ ≠ (.slice a6 x3_2.length a7 : Value).ownBlock ∧ k_ ≠ a2)) (Kd.R_types (a5.out) a0.out (by decide)) (fun k_ hk => by simp_all))))) (Reps.one (show Kd.FK (Kd.slice 5 (Kd.int .u8)) _ _ y696 [.slice an y696.length ao] from (Kd.FK_slice_mk (Kd.R_reads' (Kd.R_mono (ok' := (fun k_ => (P0_6_ k_ ∨ w.heap.size ≤ k_) ∧ some k_ ≠ (.slice a6 x3_2.length a7 : Value).ownBlock ∧ k_ ≠ a2)) (Kd.R_types (ag.out) a0.out (by decide)) (fun k_ hk => by simp_all))).2.1 (Kd.R_F (Kd.R_mono (ok' := (fun k_ => (P0_6_ k_ ∨ w.heap.size ≤ k_) ∧ some k_ ≠ (.slice a6 x3_2.length a7 : Value).ownBlock ∧ k_ ≠ a2)) (Kd.R_types (ag.out) a0.out (by decide)) (fun k_ hk => by simp_all))))) (Reps.one (show Kd.FK (Kd.slice 5 (Kd.int .u8)) _ _ t699 [.slice ap t699.length aq] from (Kd.FK_slice_mk (Kd.R_reads' (Kd.R_mono (ok' := (fun k_ => (P0_6_ k_ ∨ w.heap.size ≤ k_) ∧ some k_ ≠ (.slice a6 x3_2.length a7 : Value).ownBlock ∧ k_ ≠ a2)) (Kd.R_types (ab.out) a0.out (by decide)) (fun k_ hk => by simp_all))).2.1 (Kd.R_F (Kd.R_mono (ok' := (fun k_ => (P0_6_ k_ ∨ w.heap.size ≤ k_) ∧ some k_ ≠ (.slice a6 x3_2.length a7 : Value).ownBlock ∧ k_ ≠ a2)) (Kd.R_types (ab.out) a0.out (by decide)) (fun k_ hk => by simp_all))))) (Reps.one (show Kd.FK (Kd.slice 5 (Kd.int .u8)) _ _ t702 [.slice ar t702.length au] from (Kd.FK_slice_mk (Kd.R_reads' (Kd.R_mono (ok' := (fun k_ => (P0_6_ k_ ∨ w.heap.size ≤ k_) ∧ some k_ ≠ (.slice a6 x3_2.length a7 : Value).ownBlock ∧ k_ ≠ a2)) (Kd.R_types (ah.out) a0.out (by decide)) (fun k_ hk => by simp_all))).2.1 (Kd.R_F (Kd.R_mono (ok' := (fun k_ => (P0_6_ k_ ∨ w.heap.size ≤ k_) ∧ some k_ ≠ (.slice a6 x3_2.length a7 : Value).ownBlock ∧ k_ ≠ a2)) (Kd.R_types (ah.out) a0.out (by decide)) (fun k_ hk => by simp_all))))) (Reps.none _ _)))))))
     intro v706 w42 ho43 hb hg_ hnew_
     clear hg_ hnew_
     (first | rw [← az.out] at ho43 | (simp only [Int.reduceToNat] at ho43; rw [← az.out] at ho43))
     have n0_ := Aside0.mk (Kd.R_below (by (with_reducible repeat first | apply rA_ | apply rN_ | apply rD_); exact a3.out) hb)
     have n1_ := Aside0.mk (Kd.V_elder' (by (with_reducible repeat (first | apply Kd.V_alloc | apply Kd.V_drewN | apply Kd.V_drew)); exact a1.out) (Kd.N_base ho43) hb)
     have n2_ := Aside0.mk (Kd.N_lower ho43 (below_size (by repeat (first | (with_reducible first | exact HB.out | apply lA1_ | apply lN_ | apply lD_ | refine lS1_ ?_ a4.out) | exact HB.out))))
     have n3_ := Aside0.mk (bB_ (g := a2) (o := .cells #[.int .i64 a0_0, .int .i64 a0_1, .int .i64 a0_2, .int .i64 a0_3, .int .i64 a0_4, .int .i64 a0_5, .slice A0_6 l0_6.length c0_6] 34 (0, 0)) (by (with_reducible repeat first | apply bN_ | apply bD_ | apply bA_); exact a0.out) hb)
     have n4_ := Aside0.mk (lP_ (by repeat (first | (with_reducible first | exact HB.out | apply lA1_ | apply lN_ | apply lD_ | refine lS1_ ?_ a4.out) | exact HB.out)) hb)
     clear a3
     clear a1
     clear a0
     clear HB
     clear a5
     clear af
     clear ag
     clear ab
     clear ah
     have a3 := n0_
     have a1 := n1_
     have ac := n2_
     have a0 := n3_
     have HB := n4_
     clear n0_ n1_ n2_ n3_ n4_
     clear hb ho43
     refine hK.out _ _ ⟨.slice al y693.length am, .slice an y696.length ao, .slice ap t699.length aq, .slice ar t702.length au, v706, v709, m17_, (by rw [ha.out]; exact putSel_upk 10 hb_ rfl rfl rfl), fun h0_ => absurd ((up_self b 15).symm.trans h0_) (by decide), fun h0_ => absurd ((up_self b 15).symm.trans h0_) (by decide), fun h0_ => absurd ((up_self b 15).symm.trans h0_) (by decide), (by (with_reducible repeat first | apply bN_ | apply bD_ | apply bA_); exact a0.out), (by repeat (first | (with_reducible first | exact HB.out | apply lA1_ | apply lN_ | apply lD_ | refine lS1_ ?_ a4.out) | exact HB.out)), fun _ h1_ => absurd ((up_self b 15).symm.trans h1_) (by decide), fun _ h1_ => absurd ((up_self b 15).symm.trans h1_) (by decide), fun _ h1_ => absurd ((up_self b 15).symm.trans h1_) (by decide), fun _ h1_ => absurd ((up_self b 15).symm.trans h1_) (by decide), fun _ => (by (with_reducible repeat (first | apply Kd.N_alloc | apply Kd.N_drewN | apply Kd.N_drew)); exact ac.out), fun _ => (by (with_reducible repeat first | apply rA_ | apply rN_ | apply rD_); exact Kd.R_mono a3.out (fun _ hk => hk.1)), fun _ => (by (with_reducible repeat (first | apply Kd.V_alloc | apply Kd.V_drewN | apply Kd.V_drew)); exact Kd.V_mono a1.out (fun _ hk => by simp_all)), fun h0_ => absurd ((hoff 16 (by kernel_rfl)).symm.trans h0_) (by decide), fun h0_ => absurd ((hoff 17 (by kernel_rfl)).symm.trans h0_) (by decide)⟩
    refine steps_cons ?_ ?_
    ·rintro b a w' ⟨v694, v697, v700, v703, v706, v709, m17_, ha, Q_HO692, Q_HO_3, Q_HO_674006, Q_BK673, Q_HB, Q_HO695, Q_HO698, Q_HO701, Q_HO704, Q_HO707, Q_HO_3_e15, Q_HO_674006_e15, Q_HO710, Q_X17_⟩ hb_ hon hoff
     refine ⟨_, rfl, fun K hK => ?_⟩
     have e41 : a.tmps[41]? = some (v706) := by rw [ha]; exact putSel_on (e := (15, 41, v706)) 10 rfl rfl (hon 15 (by kernel_rfl)) rfl
     replace ha := Aside0.mk ha
     have a0 := Aside0.mk Q_BK673
     have HB := Aside0.mk Q_HB
     have ac := Aside0.mk (Q_HO707 (hon 15 (by kernel_rfl)))
     have a3 := Aside0.mk (Q_HO_3_e15 (hon 15 (by kernel_rfl)))
     have a1 := Aside0.mk (Q_HO_674006_e15 (hon 15 (by kernel_rfl)))
     obtain ⟨be, bf, eo44⟩ := Kd.N_slice ac.out
     (first | subst eo44 | (injection eo44 with f1_ f2_ f3_; have f4_ := f1_.symm; have f5_ := f3_.symm; clear f1_ f2_ f3_; subst f4_; subst f5_))
     refine goes_ Try.func49 (by kernel_rfl) rfl #[.slice be y705.length bf] (by rfl) rfl rfl (by first | (simp only [List.map_toArray, List.map_cons, List.map_nil, Act.eval, Array.getD_eq_getD_getElem?, Option.getD_some, e41]; done) | (simp only [List.map_toArray, List.map_cons, List.map_nil, Act.eval, Array.getD_eq_getD_getElem?, Option.getD_some, e41]; rfl)) ?_
     with_reducible refine (slices_Concat_byte_byte.calls _ _ y705 t708 _ ?side1 ?side2 bu.out).mono ?_
     (case side1 => repeat (first | exact (Kd.N_reads' ac.out).2.2 | (with_reducible refine Kd.C_alloc ?_ _) | (with_reducible refine Kd.C_drewN ?_ _) | (with_reducible refine Kd.C_drew ?_)))
     (case side2 => exact (Kd.N_reads' ac.out).2.1)
     rintro e w45 ⟨v709, rfl, ho0, hb⟩
     refine ⟨_, rfl, ?_⟩
     have n0_ := Aside0.mk (Kd.R_elder' (by (with_reducible repeat first | apply rA_ | apply rN_ | apply rD_); exact a3.out) (Kd.R_base ho0) hb)
     have n1_ := Aside0.mk (Kd.V_elder' (by (with_reducible repeat (first | apply Kd.V_alloc | apply Kd.V_drewN | apply Kd.V_drew)); exact a1.out) (Kd.R_base ho0) hb)
     have n2_ := Aside0.mk (Kd.N_elder' (by (with_reducible repeat (first | apply Kd.N_alloc | apply Kd.N_drewN | apply Kd.N_drew)); exact ac.out) (Kd.R_base ho0) hb)
     have n3_ := Aside0.mk (Kd.R_lower (Kd.R_new' (Kd.R_newM (M := fun k_ => (w.heap.size ≤ k_)) ho0 (below_size (by repeat (first | (with_reducible first | exact HB.out | apply lA1_ | apply lN_ | apply lD_ | refine lS1_ ?_ a4.out) | exact HB.out))) (fun k_ h_ => h_)) (Kd.R_lt (by (with_reducible repeat first | apply rA_ | apply rN_ | apply rD_); exact a3.out))) (below_size (by repeat (first | (with_reducible first | exact HB.out | apply lA1_ | apply lN_ | apply lD_ | refine lS1_ ?_ a4.out) | exact HB.out))))
     have n4_ := Aside0.mk (bB_ (g := a2) (o := .cells #[.int .i64 a0_0, .int .i64 a0_1, .int .i64 a0_2, .int .i64 a0_3, .int .i64 a0_4, .int .i64 a0_5, .slice A0_6 l0_6.length c0_6] 34 (0, 0)) (by (with_reducible repeat first | apply bN_ | apply bD_ | apply bA_); exact a0.out) hb)
     have n5_ := Aside0.mk (lP_ (by repeat (first | (with_reducible first | exact HB.out | apply lA1_ | apply lN_ | apply lD_ | refine lS1_ ?_ a4.out) | exact HB.out)) hb)
     clear a3
     clear a1
     clear ac
     clear a0
     clear HB
     have a3 := n0_
     have a1 := n1_
     have ac := n2_
     have aa := n3_
     have a0 := n4_
     have HB := n5_
     clear n0_ n1_ n2_ n3_ n4_ n5_
     (try clear hb)
     (try clear hb2)
     (try clear hk)
     (try clear hi)
     (try clear ho0)
     refine hK.out _ _ ⟨v694, v697, v700, v703, .slice be y705.length bf, v709, m17_, (by rw [ha.out]; exact putSel_upk 11 hb_ rfl rfl rfl), fun h0_ => absurd ((hon 15 (by kernel_rfl)).symm.trans h0_) (by decide), fun h0_ => absurd ((hon 15 (by kernel_rfl)).symm.trans h0_) (by decide), fun h0_ => absurd ((hon 15 (by kernel_rfl)).symm.trans h0_) (by decide), (by (with_reducible repeat first | apply bN_ | apply bD_ | apply bA_); exact a0.out), (by repeat (first | (with_reducible first | exact HB.out | apply lA1_ | apply lN_ | apply lD_ | refine lS1_ ?_ a4.out) | exact HB.out)), fun _ h1_ => absurd ((hon 15 (by kernel_rfl)).symm.trans h1_) (by decide), fun _ h1_ => absurd ((hon 15 (by kernel_rfl)).symm.trans h1_) (by decide), fun _ h1_ => absurd ((hon 15 (by kernel_rfl)).symm.trans h1_) (by decide), fun _ h1_ => absurd ((hon 15 (by kernel_rfl)).symm.trans h1_) (by decide), fun _ => (by (with_reducible repeat (first | apply Kd.N_alloc | apply Kd.N_drewN | apply Kd.N_drew)); exact Kd.N_mono ac.out (fun _ hk => by simp_all)), fun _ => (by (with_reducible repeat first | apply rA_ | apply rN_ | apply rD_); exact Kd.R_mono a3.out (fun _ hk => by simp_all)), fun _ => (by (with_reducible repeat (first | apply Kd.V_alloc | apply Kd.V_drewN | apply Kd.V_drew)); exact Kd.V_mono a1.out (fun _ hk => by simp_all)), fun _ => (by (with_reducible repeat first | apply rA_ | apply rN_ | apply rD_); exact Kd.R_mono aa.out (fun _ hk => by simp_all)), fun h0_ => absurd ((hoff 17 (by kernel_rfl)).symm.trans h0_) (by decide)⟩
    refine steps_cons ?_ ?_
    ·rintro b a w' ⟨v694, v697, v700, v703, v706, v709, m17_, ha, Q_HO692, Q_HO_3, Q_HO_674006, Q_BK673, Q_HB, Q_HO695, Q_HO698, Q_HO701, Q_HO704, Q_HO707, Q_HO_3_e15, Q_HO_674006_e15, Q_HO710, Q_X17_⟩ hb_ hon hoff
     refine ⟨_, rfl, fun K hK => ?_⟩
     have e42 : a.tmps[42]? = some (v709) := by rw [ha]; exact putSel_on (e := (16, 42, v709)) 11 rfl rfl (hon 16 (by kernel_rfl)) rfl
     replace ha := Aside0.mk ha
     have a0 := Aside0.mk Q_BK673
     have HB := Aside0.mk Q_HB
     have ac := Aside0.mk (Q_HO707 (hon 15 (by kernel_rfl)))
     have a3 := Aside0.mk (Q_HO_3_e15 (hon 15 (by kernel_rfl)))
     have a1 := Aside0.mk (Q_HO_674006_e15 (hon 15 (by kernel_rfl)))
     have aa := Aside0.mk (Q_HO710 (hon 16 (by kernel_rfl)))
     refine value_ (w1 := w') (v := v709) (by rfl) rfl ?_ ?_
     ·go_simp
      (try simp only [i64_w])
      try rfl
     refine hK.out _ _ ⟨v694, v697, v700, v703, v706, v709, (v709), (by rw [ha.out]; exact putSel_upk 12 hb_ rfl rfl rfl), fun h0_ => absurd ((hon 15 (by kernel_rfl)).symm.trans h0_) (by decide), fun h0_ => absurd ((hon 15 (by kernel_rfl)).symm.trans h0_) (by decide), fun h0_ => absurd ((hon 15 (by kernel_rfl)).symm.trans h0_) (by decide), Q_BK673, Q_HB, fun _ h1_ => absurd ((hon 15 (by kernel_rfl)).symm.trans h1_) (by decide), fun _ h1_ => absurd ((hon 15 (by kernel_rfl)).symm.trans h1_) (by decide), fun _ h1_ => absurd ((hon 15 (by kernel_rfl)).symm.trans h1_) (by decide), fun _ h1_ => absurd ((hon 15 (by kernel_rfl)).symm.trans h1_) (by decide), Q_HO707, Q_HO_3_e15, Q_HO_674006_e15, Q_HO710, fun _ => rfl⟩
    exact steps_nil
   rintro b a w45 hall ⟨v694, v697, v700, v703, v706, v709, m17_, ha, Q_HO692, Q_HO_3, Q_HO_674006, Q_BK673, Q_HB, Q_HO695, Q_HO698, Q_HO701, Q_HO704, Q_HO707, Q_HO_3_e15, Q_HO_674006_e15, Q_HO710, Q_X17_⟩
   clear a0 HB a5 a3 a1
   have hb0_ := hall 0 (by kernel_rfl)
   have hb3_ := hall 3 (by kernel_rfl)
   have hb4_ := hall 4 (by kernel_rfl)
   have hb6_ := hall 6 (by kernel_rfl)
   have hb7_ := hall 7 (by kernel_rfl)
   have hb8_ := hall 8 (by kernel_rfl)
   have hb10_ := hall 10 (by kernel_rfl)
   have hb11_ := hall 11 (by kernel_rfl)
   have hb13_ := hall 13 (by kernel_rfl)
   have hb14_ := hall 14 (by kernel_rfl)
   have hb15_ := hall 15 (by kernel_rfl)
   have hb16_ := hall 16 (by kernel_rfl)
   have hb17_ := hall 17 (by kernel_rfl)
   subst ha
   obtain rfl := Q_X17_ hb17_
   simp only [putSel, hb0_, hb3_, hb4_, hb6_, hb7_, hb8_, hb10_, hb11_, hb13_, hb14_, hb15_, hb16_, hb17_, if_true, Act.put, lA_, lZ_, lS_]
   clear Q_HO692
   clear Q_HO_3
   clear Q_HO_674006
   have a0 := Aside0.mk Q_BK673
   clear Q_BK673
   have HB := Aside0.mk Q_HB
   clear Q_HB
   clear Q_HO695
   clear Q_HO698
   clear Q_HO701
   clear Q_HO704
   have ac := Aside0.mk (Q_HO707 hb15_)
   clear Q_HO707
   have a3 := Aside0.mk (Q_HO_3_e15 hb15_)
   clear Q_HO_3_e15
   have a1 := Aside0.mk (Q_HO_674006_e15 hb15_)
   clear Q_HO_674006_e15
   have aa := Aside0.mk (Q_HO710 hb16_)
   clear Q_HO710
   clear hall hb0_ hb3_ hb4_ hb6_ hb7_ hb8_ hb10_ hb11_ hb13_ hb14_ hb15_ hb16_ hb17_
   have hx_ : 0 < t708.length := by have := CL_.out; omega
   obtain ⟨g6, c6, cur6, ev6, hg6, hok6, hb6, hc6, hm6, hs6, ht6⟩ := build_open aa.out hx_
   subst ev6
   have HG6 := Aside0.mk hg6
   have HN6 := Aside0.mk (show some g6 ≠ (.slice a6 x3_2.length a7 : Value).ownBlock from hok6.2)
   clear hg6 hok6
   have HT6 := Aside0.mk ht6
   clear ht6
   have HX_ := Aside0.mk hx_
   clear hx_
   have HB6 := Aside0.mk hb6
   have HC6_ := Aside0.mk hc6
   have HM6 := Aside0.mk hm6
   have HS6 := Aside0.mk hs6
   clear hb6 hc6 hm6 hs6
   obtain ⟨i0_, hi_, _, hsz_, _⟩ := info_parts info5
   have ak : ∀ W : World, (Instr.slice 22 (.slice (some ⟨g6, 0, none⟩) t708.length c6) (some (.int .i64 10)) none none).run Try.prog W = .ok (.slice (some ⟨g6, 10, none⟩) (t708.length - 10) (c6 - 10)) W := by
     have := cut_from (P := Try.prog) 22 5 .i64 Try.underlying22 hi_ 1 hsz_ (some ⟨g6, 0, none⟩) t708.length c6 10 (by omega) (by have := CL_.out; omega)
     rw [if_neg (by have h1 := CL_.out; have h2 := HC6_.out; omega)] at this
     exact this
   clear hi_ hsz_
   clear ac a1
   try go_wp2
   have n0_ := Aside0.mk (rD_ a3.out)
   have n1_ := Aside0.mk (rD_ aa.out)
   have n2_ := Aside0.mk (bD_ a0.out)
   have n3_ := Aside0.mk (lD_ HB.out)
   have n4_ := Aside0.mk (bD_ HG6.out)
   clear a3 aa a0 HB HG6
   have a3 := n0_; have aa := n1_; have a0 := n2_; have HB := n3_; have HG6 := n4_
   clear n0_ n1_ n2_ n3_ n4_
   refine start_ (n := 6) (S := fun _ => True) (ds := []) #[false, false, false, false, false, false] (by kernel_rfl) rfl rfl trivial (fun hHeld => ?_)
   obtain ⟨w61, hw61_⟩ : ∃ W_ : World, W_ = w45.drew := ⟨_, rfl⟩
   rw [← hw61_] at a3 aa a0 HB HG6 ⊢
   clear hw61_
   refine pure_ (i := 0) (N := some 43) (v := ?_) (a' := ?_) #[true, false, false, false, false, false] rfl rfl (by kernel_rfl) (fun _ _ _ h => h) (Or.inl ⟨by rfl, ?_⟩) ?_ ?_
   rotate_left
   ·intro w'
    go_simp
    with_reducible rfl
   rotate_left
   ·simp only [Act.put, lA_, lZ_, lS_, i64_w, i32_w]
    rfl
   refine pure_ (i := 1) (N := some 44) (v := ?_) (a' := ?_) #[true, true, false, false, false, false] rfl rfl (by kernel_rfl) (fun _ _ _ h => h) (Or.inl ⟨by rfl, ?_⟩) ?_ ?_
   rotate_left
   ·intro w'
    go_simp
    first | with_reducible rfl | (simp only [ak]; rfl) | (rw [ak]; rfl)
   rotate_left
   ·simp only [Act.put, lA_, lZ_, lS_, i64_w, i32_w]
    rfl
   refine pure_ (i := 2) (N := some 45) (v := ?_) (a' := ?_) #[true, true, true, false, false, false] rfl rfl (by kernel_rfl) (fun _ _ _ h => h) (Or.inl ⟨by rfl, ?_⟩) ?_ ?_
   rotate_left
   ·intro w'
    go_simp
    with_reducible rfl
   rotate_left
   ·simp only [Act.put, lA_, lZ_, lS_, i64_w, i32_w]
    rfl
   refine one_ (i := 3) (N := some 46) #[true, true, true, true, false, false] rfl rfl (by kernel_rfl) (by decide) (fun K hK => ?_)
   refine goes_ Try.func72 (by kernel_rfl) rfl #[.slice (some ⟨g6, 0, none⟩) t708.length c6] (by rfl) rfl rfl (by (try simp only [List.map_toArray, List.map_cons, List.map_nil]); first | done | rfl) ?_
   with_reducible refine (impl_SumWords.calls kj2 (some ⟨g6, 0, none⟩) c6 t708 ts_ w61 (Kd.R_reads' aa.out).2.2 HC6_.out AS_.out).mono ?_
   rintro e w62 ⟨rfl, hd⟩
   have hb := hd.below
   clear hd
   refine ⟨_, rfl, ?_⟩
   have n0_ := Aside0.mk (lP_ HB.out hb)
   have n1_ := Aside0.mk (bB_ a0.out hb)
   have n2_ := Aside0.mk (Kd.R_below aa.out hb)
   have n3_ := Aside0.mk (Kd.R_below a3.out hb)
   have n4_ := Aside0.mk (bB_ HG6.out hb)
   clear HB a0 aa a3 HG6 hb
   have HB := n0_; have a0 := n1_; have aa := n2_; have a3 := n3_; have HG6 := n4_
   clear n0_ n1_ n2_ n3_ n4_
   refine hK.out _ _ trivial (fun hHeld => ?_)
   clear hK K
   refine norm_ (a' := ?_) ?_ ?_
   rotate_left
   ·show Act.put _ (some 46) _ = _
    simp only [Act.put, lA_, lZ_, lS_, i64_w, i32_w]
    rfl
   refine one_ (i := 4) (N := some 47) #[true, true, true, true, true, false] rfl rfl (by kernel_rfl) (by decide) (fun K hK => ?_)
   refine goes_ Try.func50 (by kernel_rfl) rfl #[.int .i64 ts_, .int .i64 2] (by rfl) rfl rfl (by (try simp only [List.map_toArray, List.map_cons, List.map_nil]); first | done | rfl) ?_
   with_reducible refine (impl_put.calls kj2 ts_ 2 tz_ w62 AZ_.out).mono ?_
   rintro e w63 ⟨vz, rfl, ho0, hb⟩
   refine ⟨_, rfl, ?_⟩
   have n0_ := Aside0.mk (lP_ HB.out hb)
   have n1_ := Aside0.mk (bB_ a0.out hb)
   have n2_ := Aside0.mk (Kd.R_below aa.out hb)
   have n3_ := Aside0.mk (Kd.R_below a3.out hb)
   have n4_ := Aside0.mk (bB_ HG6.out hb)
   clear HB a0 aa a3 HG6 hb
   have HB := n0_; have a0 := n1_; have aa := n2_; have a3 := n3_; have HG6 := n4_
   clear n0_ n1_ n2_ n3_ n4_
   have hz_ : 0 < tz_.length := by have := CL_.out; omega
   obtain ⟨gz, cz, curz, evz, hgz, _, _, _, _, _, htz⟩ := build_open ho0 hz_
   subst evz
   clear ho0 hz_
   have HGZ := Aside0.mk hgz
   have HTZ := Aside0.mk htz
   clear hgz htz
   refine hK.out _ _ trivial (fun hHeld => ?_)
   clear hK K
   refine norm_ (a' := ?_) ?_ ?_
   rotate_left
   ·show Act.put _ (some 47) _ = _
    simp only [Act.put, lA_, lZ_, lS_, i64_w, i32_w]
    rfl
   refine one_ (i := 5) (N := some 48) #[true, true, true, true, true, true] rfl rfl (by kernel_rfl) (by decide) (fun K hK => ?_)
   obtain ⟨cs6, hcs6⟩ : ∃ cs6, cs6 = tz_.map (Value.int .u8) := ⟨_, rfl⟩
   have hl6 : cs6.length = 2 := by rw [hcs6, List.length_map]; exact CL_.out.2
   refine step_copy_row rfl (.tmp 44) (.tmp 47) 22 22 (by rfl) 5 Try.underlying22 rfl g6 10 (t708.length - 10) (c6 - 10) ⟨gz, 0, none⟩ tz_.length cz rfl rfl cur6 5 HG6.out cs6 ?cn ?cp ?cf ?c1 ?_
   (case cn => rw [hl6]; have := CL_.out; show 2 = min _ _; omega)
   (case cp => rw [hcs6]; exact build_src HGZ.out HTZ.out)
   (case cf => have h1 := CL_.out; have h2 := HC6_.out; have h3 := HS6.out; omega)
   (case c1 => intro v_ hv_; rw [hcs6] at hv_; obtain ⟨x_, _, rfl⟩ := List.mem_map.1 hv_; rfl)
   rw [hl6]
   have n0_ : Aside0 (Kd.R (Kd.int .u8) 5 (w63.setRow g6 (cur6.toList.take 10 ++ (cs6 ++ cur6.toList.drop (10 + 2))).toArray) w.heap.size (fun _ => True) (.slice (some ⟨g6, 0, none⟩) t708.length c6) ty_) := Aside0.mk (by rw [HTY_.out, hcs6]; exact build_after HB6.out HG6.out HC6_.out HM6.out HS6.out HT6.out CL_.out.1 CL_.out.2)
   have n1_ := Aside0.mk (below_setRow HB.out HB6.out (cur6.toList.take 10 ++ (cs6 ++ cur6.toList.drop (10 + 2))).toArray)
   have n2_ := Aside0.mk ((setRow_other w63 g6 a2 (cur6.toList.take 10 ++ (cs6 ++ cur6.toList.drop (10 + 2))).toArray (blk_ne a0.out HG6.out (by decide))).trans a0.out)
   have n3_ := Aside0.mk (build_keep a3.out (fun k hk => setRow_other w63 g6 k (cur6.toList.take 10 ++ (cs6 ++ cur6.toList.drop (10 + 2))).toArray (fun e_ => HN6.out (e_ ▸ hk.symm))))
   generalize w63.setRow g6 (cur6.toList.take 10 ++ (cs6 ++ cur6.toList.drop (10 + 2))).toArray = w64 at n0_ n1_ n2_ n3_ ⊢
   clear HB a0 aa a3 HG6
   have aa := n0_; have HB := n1_; have a0 := n2_; have a3 := n3_
   clear n0_ n1_ n2_ n3_
   refine hK.out _ _ trivial (fun hHeld => ?_)
   clear hK K
   refine norm_ (a' := ?_) ?_ ?_
   rotate_left
   ·show Act.put _ (some 48) _ = _
    simp only [Act.put, lA_, lZ_, lS_, i64_w, i32_w]
    rfl
   refine done_ (by kernel_rfl) ?_
   clear hHeld ak
   have HOL := Aside0.mk (Kd.V_below hs0_6 HB.out)
   have hln_ : t708.length = ty_.length := by rw [HTY_.out]; exact (splice_len _ _ _ (by have := CL_.out; omega)).symm
   have HLN_ := Aside0.mk hln_
   clear hln_
   obtain ⟨_, _, _, _, _, _, _, _, _, _, _, _, _, _⟩ := bc7 a0.out
   go_wp2_with (first | ((with_reducible refine gate_dst (N := 53) rfl ?_); refine Kd.N_lit (Kd.slice 5 (Kd.int .u8)) _ 22 ?hg (N' := 53) ?hd (xs := ([ty_, x3_2, l0_6] : List (List Int))) (inner := [.slice (some ⟨g6, 0, none⟩) t708.length c6, .slice a6 x3_2.length a7, .slice A0_6 l0_6.length c0_6]) (ok := fun _ => True) (okp := fun _ => True) ?hr ?hp (fun _ hk => hk) trivial (Below.refl _ _) (Nat.le_refl _) (by simp) ?_; (case hd => rfl); (case hg => rfl); (case hr => first | (go_simp; done) | (go_simp; rfl)); (case hp => exact (Reps.one (show Kd.FK (Kd.slice 5 (Kd.int .u8)) _ _ ty_ [.slice (some ⟨g6, 0, none⟩) t708.length c6] from build_FK HLN_.out (Kd.R_mono (ok' := fun _ => True) aa.out (fun _ _ => trivial))) (Reps.one (show Kd.FK (Kd.slice 5 (Kd.int .u8)) _ _ x3_2 [.slice a6 x3_2.length a7] from (Kd.FK_slice_mk (Kd.R_reads' a3.out).2.1 (Kd.R_F (Kd.R_mono (ok' := fun _ => True) a3.out (fun _ _ => trivial))))) (Reps.one (show Kd.FK (Kd.slice 5 (Kd.int .u8)) _ _ l0_6 [.slice A0_6 l0_6.length c0_6] from (Kd.FK_slice_mk (Kd.V_reads' HOL.out).2.1 (Kd.V_F (Kd.V_mono (ok' := fun _ => True) HOL.out (fun _ _ => trivial))))) (Reps.none _ _))))); intro v712 w48 ho49 hb hg_ hnew_; clear hg_ hnew_; rw [← bh.out] at ho49; have n2_ := Aside0.mk (Kd.N_lower ho49 (below_size HB.out)); have n4_ := Aside0.mk (lP_ HB.out hb); clear a0 HB aa a3 HOL; have aj := n2_; have HB := n4_; clear n2_ n4_ hb ho49; obtain ⟨bn, bo, eo50⟩ := Kd.N_slice aj.out; subst eo50) | ((with_reducible refine gate_callee (f := 49) rfl ?_); refine goesA_ (some 54) rfl rfl Try.func49 (by kernel_rfl) rfl #[.slice bn y711.length bo] rfl ?_; (with_reducible refine (slices_Concat_byte_byte.calls _ _ y711 t714 _ ?side1 ?side2 bv.out).mono ?_); (case side1 => exact (Kd.N_reads' aj.out).2.2); (case side2 => exact (Kd.N_reads' aj.out).2.1); rintro e w51 ⟨v715, rfl, ho0, hb⟩; refine ⟨_, rfl, ?_⟩; have n3_ := Aside0.mk (Kd.R_lower (Kd.R_newM (M := fun k_ => (w.heap.size ≤ k_)) ho0 (below_size HB.out) (fun k_ h_ => h_)) (below_size HB.out)); have n5_ := Aside0.mk (lP_ HB.out hb); clear aj HB; have bi := n3_; have HB := n5_; clear n3_ n5_ hb ho0))
   go_ret
   exact ⟨_, by first | rfl | (simp [errW_none, errW_some] <;> rfl) | (simp [*, errW_none, errW_some] <;> rfl), Kd.R_mono bi.out (fun _ hk => hk.1), HB.out⟩
theorem impl_build.calls (k : Nat) (a0_0 : Int) (a0_1 : Int) (a0_2 : Int) (a0_3 : Int) (a0_4 : Int) (a0_5 : Int) (A0_6 : Option Addr) (c0_6 : Nat) (l0_6 : List Int) (r : List Int) (w : World) (hr0_6 : Kd.C (Kd.int .u8) w A0_6 l0_6.length l0_6) (hc0_6 : l0_6.length ≤ c0_6) (h : impl_build.f k a0_0 a0_1 a0_2 a0_3 a0_4 a0_5 l0_6 = some r) :
    Calls Try.prog 62 #[.agg #[.int .i64 a0_0, .int .i64 a0_1, .int .i64 a0_2, .int .i64 a0_3, .int .i64 a0_4, .int .i64 a0_5, .slice A0_6 l0_6.length c0_6]] w fun e w' => ∃ v0_ : Value, e = .returned (v0_) ∧ Kd.R (Kd.int .u8) 5 w' w.heap.size (fun _ => True) v0_ r ∧ Below w.heap.size w w' := by
  refine (impl_build.callsV k a0_0 a0_1 a0_2 a0_3 a0_4 a0_5 (fun k_ => k_ < w.heap.size) A0_6 c0_6 l0_6 r w (Kd.V_mk hc0_6 (Kd.C_F (Kd.heap_int .u8) hr0_6)) h).mono ?_
  rintro e w' ⟨v, rfl, hr, hb⟩
  exact ⟨v, rfl, Kd.R_mono hr (fun _ _ => trivial), hb⟩
end Go.Proofs.Ytidejdfbapjfiaa.G
namespace Go.Proofs.Ytidejdfbapjfiaa.G
open Go.RowKit Go.Proofs.YtidejdfbapjfiaaW.PrintWords Go.Proofs.YtidejdfbapjfiaaW.PrintLast Go.Proofs.YtidejdfbapjfiaaW.PrintMore
attribute [local go_sem] max2_int min2_int max_two min_two max_three min_three max_four min_four   -- for this text's walks alone
set_option linter.unusedVariables false
set_option linter.unusedSimpArgs false
def impl_nearer.f (a0_0 : Int) (a0_1 : Int) (a0_2 : Int) (a0_3 : Int) (a0_4 : Int) (a0_5 : Int) (l0_6 : List Int) : Option (Int × Int × Int × Int × Int × Int × List Int) := some (a0_0, a0_1, a0_2, wrap64 (a0_3 - 1), a0_4, a0_5, l0_6)
set_option maxHeartbeats 8000000 in
set_option maxRecDepth 100000 in
theorem impl_nearer.calls (a0_0 : Int) (a0_1 : Int) (a0_2 : Int) (a0_3 : Int) (a0_4 : Int) (a0_5 : Int) (P0_6_ : Nat → Prop) (u9000_ : Value) (l0_6 : List Int) (r1 : Int) (r2 : Int) (r3 : Int) (r4 : Int) (r5 : Int) (r6 : Int) (r7 : List Int) (w0 w : World) (hB : Below w0.heap.size w0 w) (ho0_6 : Kd.R (Kd.int .u8) 5 w w0.heap.size P0_6_ u9000_ l0_6) (h : impl_nearer.f a0_0 a0_1 a0_2 a0_3 a0_4 a0_5 l0_6 = some (r1, r2, r3, r4, r5, r6, r7)) :
  Calls Try.prog 63 #[.agg #[.int .i64 a0_0, .int .i64 a0_1, .int .i64 a0_2, .int .i64 a0_3, .int .i64 a0_4, .int .i64 a0_5, u9000_]] w fun e w' => ∃ v6_ : Value, e = .returned (.agg #[.int .i64 r1, .int .i64 r2, .int .i64 r3, .int .i64 r4, .int .i64 r5, .int .i64 r6, v6_]) ∧ Kd.R (Kd.int .u8) 5 w' w0.heap.size (fun k_ => (P0_6_ k_ ∨ w.heap.size ≤ k_)) v6_ r7 ∧ Below w0.heap.size w0 w' ∧ Kept w w' (fun k_ => P0_6_ k_) := by
 have hu34 := Try.underlying34
 have a0 := Aside0.mk (show Kd.R (Kd.int .u8) 5 w w0.heap.size (fun k_ => (P0_6_ k_ ∨ w.heap.size ≤ k_)) u9000_ l0_6 from Kd.R_mono ho0_6 (fun k_ hk => (.inl hk)))
 have HK := Aside0.mk (Kept.refl w (fun k_ => P0_6_ k_))
 have HW0 := Aside0.mk hB.size
 have HB := Aside0.mk hB
 clear hB
 have H : (some (a0_0, a0_1, a0_2, wrap64 (a0_3 - 1), a0_4, a0_5, l0_6)) = some (r1, r2, r3, r4, r5, r6, r7) := h
 clear h
 simp only [Option.some.injEq, Prod.mk.injEq] at H
 obtain ⟨rfl, rfl, rfl, rfl, rfl, rfl, rfl⟩ := H
 obtain ⟨a8, a9, eo2⟩ := Kd.R_slice a0.out
 subst eo2
 go_enter Try.func63, Try.ntmps63
 go_wp2_with (first | ((with_reducible refine gate_dst (N := 1) rfl ?_); refine box_event ?hg (N := 1) ?hd (cs := #[.int .i64 a0_0, .int .i64 a0_1, .int .i64 a0_2, .int .i64 a0_3, .int .i64 a0_4, .int .i64 a0_5, .slice a8 l0_6.length a9]) (t := 34) ?hr ?_; (case hd => rfl); (case hg => rfl); (case hr => first | (go_simp; done) | (go_simp; rfl)); intro a1 hg w3 hbox hb; have n0_ := Aside0.mk (Kd.R_below (by (with_reducible repeat first | apply rA_ | apply rN_ | apply rD_); exact a0.out) hb); have n1_ := Aside0.mk (Kept.below (S := (fun k_ => P0_6_ k_)) (by repeat (first | (with_reducible first | exact HK.out | apply Kept.alloc | apply Kept.drewN | apply Kept.drew) | exact HK.out)) hb); have n2_ := Aside0.mk (lP_ (by repeat (first | (with_reducible first | exact HB.out | apply lA1_ | apply lN_ | apply lD_) | exact HB.out)) hb); have n3_ := Aside0.mk (hbox); have n4_ := Aside0.mk ((by rw [hg]; exact (by first | exact HK.out.1 | exact (show Kept w _ (fun k_ => P0_6_ k_) from by repeat (first | (with_reducible first | exact HK.out | apply Kept.alloc | apply Kept.drewN | apply Kept.drew) | exact HK.out)).1) : w.heap.size ≤ a1)); have n5_ := Aside0.mk ((by rw [hg]; exact (below_size (by repeat (first | (with_reducible first | exact HB.out | apply lA1_ | apply lN_ | apply lD_) | exact HB.out))) : w0.heap.size ≤ a1)); clear a0 HK HB; have a0 := n0_; have HK := n1_; have HB := n2_; have a2 := n3_; have a5 := n4_; have a6 := n5_; clear n0_ n1_ n2_ n3_ n4_ n5_ hb hbox hg) | ((with_reducible refine gate_dst (N := 2) rfl ?_); refine box_event ?hg (N := 2) ?hd (cs := #[.int .i64 0, .int .i64 0, .int .i64 0, .int .i64 0, .int .i64 0, .int .i64 0, .slice none 0 0]) (t := 34) ?hr ?_; (case hd => rfl); (case hg => rfl); (case hr => first | (go_simp; done) | (go_simp; rfl)); intro a3 hg w4 hbox hb; have n0_ := Aside0.mk (Kd.R_below (by (with_reducible repeat first | apply rA_ | apply rN_ | apply rD_); exact a0.out) hb); have n1_ := Aside0.mk (bB_ (g := a1) (o := .cells #[.int .i64 a0_0, .int .i64 a0_1, .int .i64 a0_2, .int .i64 a0_3, .int .i64 a0_4, .int .i64 a0_5, .slice a8 l0_6.length a9] 34 (0, 0)) (by (with_reducible repeat first | apply bN_ | apply bD_ | apply bA_); exact a2.out) hb); have n2_ := Aside0.mk (Kept.below (S := (fun k_ => P0_6_ k_)) (by repeat (first | (with_reducible first | exact HK.out | apply Kept.alloc | apply Kept.drewN | apply Kept.drew | refine Kept.setCell ?_ (.inr a5.out) _) | exact HK.out)) hb); have n3_ := Aside0.mk (lP_ (by repeat (first | (with_reducible first | exact HB.out | apply lA1_ | apply lN_ | apply lD_ | refine lS1_ ?_ a6.out) | exact HB.out)) hb); have n4_ := Aside0.mk (hbox); have n5_ := Aside0.mk ((by rw [hg]; exact (by first | exact HK.out.1 | exact (show Kept w _ (fun k_ => P0_6_ k_) from by repeat (first | (with_reducible first | exact HK.out | apply Kept.alloc | apply Kept.drewN | apply Kept.drew | refine Kept.setCell ?_ (.inr a5.out) _) | exact HK.out)).1) : w.heap.size ≤ a3)); have n6_ := Aside0.mk ((by rw [hg]; exact (below_size (by repeat (first | (with_reducible first | exact HB.out | apply lA1_ | apply lN_ | apply lD_ | refine lS1_ ?_ a6.out) | exact HB.out))) : w0.heap.size ≤ a3)); have n7_ := Aside0.mk ((by rw [hg]; exact Nat.ne_of_lt (blk_lt (g := a1) (o := .cells #[.int .i64 a0_0, .int .i64 a0_1, .int .i64 a0_2, .int .i64 a0_3, .int .i64 a0_4, .int .i64 a0_5, .slice a8 l0_6.length a9] 34 (0, 0)) (by (with_reducible repeat first | apply bN_ | apply bD_ | apply bA_); exact a2.out)) : a1 ≠ a3)); have n8_ := Aside0.mk ((by rw [hg]; exact Nat.ne_of_gt (blk_lt (g := a1) (o := .cells #[.int .i64 a0_0, .int .i64 a0_1, .int .i64 a0_2, .int .i64 a0_3, .int .i64 a0_4, .int .i64 a0_5, .slice a8 l0_6.length a9] 34 (0, 0)) (by (with_reducible repeat first | apply bN_ | apply bD_ | apply bA_); exact a2.out)) : a3 ≠ a1)); clear a0 a2 HK HB; have a0 := n0_; have a2 := n1_; have HK := n2_; have HB := n3_; have a7 := n4_; have ab := n5_; have ac := n6_; have aa := n7_; have a4 := n8_; clear n0_ n1_ n2_ n3_ n4_ n5_ n6_ n7_ n8_ hb hbox hg; have ad := aa.out; have ae := a4.out; obtain ⟨_, _, _, _, _, _, _, _, _, _, _, _, _, _⟩ := bc7 a2.out; obtain ⟨_, _, _, _, _, _, _, _, _, _, _, _, _, _⟩ := bc7 a7.out))
 refine bodyPost_ret (results_cell_row rfl _ _ a3 34 #[.int .i64 a0_0, .int .i64 a0_1, .int .i64 a0_2, .int .i64 (wrap64 (a0_3 - 1)), .int .i64 a0_4, .int .i64 a0_5, .slice a8 l0_6.length a9] (0, 0) _ rfl (by (with_reducible repeat first | apply bN_ | apply bD_ | apply bA_); apply fill7; (with_reducible repeat first | apply bN_ | apply bD_ | apply bA_); refine bF_ ?_ a4.out _; (with_reducible repeat first | apply bN_ | apply bD_ | apply bA_); exact a7.out) Try.underlying34 rfl (by kernel_rfl)) rfl ?_
 exact ⟨_, by first | rfl | (simp [errW_none, errW_some] <;> rfl) | (simp [*, errW_none, errW_some] <;> rfl), by (with_reducible repeat first | apply rA_ | apply rN_ | apply rD_); exact Kd.R_mono (rfar7 (g := a3) (Kd.R_far (p := ⟨a1, 3, none⟩) (Kd.R_types (Kd.R_types a0.out a2.out (by decide)) a7.out (by decide)) (fun _ hk => hk.1.2) (.int .i64 (wrap64 (a0_3 - 1)))) (fun _ hk => hk.2)) (fun _ hk => hk.1.1), by repeat (first | (with_reducible first | exact HB.out | apply lA1_ | apply lN_ | apply lD_ | refine lS1_ ?_ a6.out | refine lS1_ ?_ ac.out) | exact HB.out), by repeat (first | (with_reducible first | exact HK.out | apply Kept.alloc | apply Kept.drewN | apply Kept.drew | refine Kept.setCell ?_ (.inr a5.out) _ | refine Kept.setCell ?_ (.inr ab.out) _) | exact HK.out)⟩
end Go.Proofs.Ytidejdfbapjfiaa.G
namespace Go.Proofs.Ytidejdfbapjfiaa.G
open Go.RowKit Go.Proofs.YtidejdfbapjfiaaW.PrintWords Go.Proofs.YtidejdfbapjfiaaW.PrintLast Go.Proofs.YtidejdfbapjfiaaW.PrintMore
attribute [local go_sem] max2_int min2_int max_two min_two max_three min_three max_four min_four   -- for this text's walks alone
set_option linter.unusedVariables false
set_option linter.unusedSimpArgs false
def impl_TtlDown.f (k : Nat) (l0 : List Int) : Option (Int × List Int) := (impl_ParsePacket.f k l0).bind fun bt676 => (if bt676.1 = 0 then (if bt676.2.2.2.2.1 = 1 then (some (10, ([] : List Int))) else ((impl_nearer.f bt676.2.1 bt676.2.2.1 bt676.2.2.2.1 bt676.2.2.2.2.1 bt676.2.2.2.2.2.1 bt676.2.2.2.2.2.2.1 bt676.2.2.2.2.2.2.2).bind fun bt687 => ((impl_build.f k bt687.1 bt687.2.1 bt687.2.2.1 bt687.2.2.2.1 bt687.2.2.2.2.1 bt687.2.2.2.2.2.1 bt687.2.2.2.2.2.2).bind fun t696 => (some (0, t696))))) else (some (bt676.1, ([] : List Int))))
set_option maxHeartbeats 8000000 in
set_option maxRecDepth 100000 in
theorem impl_TtlDown.calls (k : Nat) (A0 : Option Addr) (c0 : Nat) (l0 : List Int) (r1 : Int) (r2 : List Int) (w : World) (hr0 : Kd.C (Kd.int .u8) w A0 l0.length l0) (hc0 : l0.length ≤ c0) (h : impl_TtlDown.f k l0 = some (r1, r2)) :
  Calls Try.prog 24 #[.slice A0 l0.length c0] w fun e w' => ∃ v1_ : Value, e = .returned (.agg #[.int .i64 r1, v1_]) ∧ Kd.R (Kd.int .u8) 5 w' w.heap.size (fun _ => True) v1_ r2 ∧ Below w.heap.size w w' := by
 have hu29 := Try.underlying29
 have hu36 := Try.underlying36
 have hu34 := Try.underlying34
 have ad := Aside0.mk hr0
 have ae := Aside0.mk hc0
 clear hr0 hc0
 have HB := Aside0.mk (Below.refl w.heap.size w)
 have H : ((impl_ParsePacket.f k l0).bind fun bt676 => (if bt676.1 = 0 then (if bt676.2.2.2.2.1 = 1 then (some (10, ([] : List Int))) else ((impl_nearer.f bt676.2.1 bt676.2.2.1 bt676.2.2.2.1 bt676.2.2.2.2.1 bt676.2.2.2.2.2.1 bt676.2.2.2.2.2.2.1 bt676.2.2.2.2.2.2.2).bind fun bt687 => ((impl_build.f k bt687.1 bt687.2.1 bt687.2.2.1 bt687.2.2.2.1 bt687.2.2.2.2.1 bt687.2.2.2.2.2.1 bt687.2.2.2.2.2.2).bind fun t696 => (some (0, t696))))) else (some (bt676.1, ([] : List Int))))) = some (r1, r2) := h
 clear h
 replace H := Option.bind_eq_some_iff.mp H
 obtain ⟨⟨t676, t677, t678, t679, t680, t681, t682, t683⟩, ah, H⟩ := H
 try dsimp only at H
 have A2 := Aside0.mk ah
 clear ah
 by_cases c3 : t676 = 0
 ·rw [if_pos c3] at H
  have c3b0 : (t676 == 0) = true := beq_iff_eq.mpr c3
  have c3b1 : (t676 != 0) = false := bne_eq_false_iff_eq.mpr c3
  clear c3
  by_cases c4 : t680 = 1
  ·rw [if_pos c4] at H
   have c4b0 : (t680 == 1) = true := beq_iff_eq.mpr c4
   have c4b1 : (t680 != 1) = false := bne_eq_false_iff_eq.mpr c4
   clear c4
   simp only [Option.some.injEq, Prod.mk.injEq] at H
   obtain ⟨rfl, rfl⟩ := H
   go_enter Try.func24, Try.ntmps24
   go_wp2_with (first | ((with_reducible refine gate_dst (N := 2) rfl ?_); refine box_event ?hg (N := 2) ?hd (cs := #[.int .i64 0, .slice none 0 0]) (t := 29) ?hr ?_; (case hd => rfl); (case hg => rfl); (case hr => first | (go_simp; done) | (go_simp; rfl)); intro a1 hg w5 hbox hb; have n0_ := Aside0.mk (lP_ (by repeat (first | (with_reducible first | exact HB.out | apply lA1_ | apply lN_ | apply lD_) | exact HB.out)) hb); have n1_ := Aside0.mk (hbox); have n3_ := Aside0.mk ((by rw [hg]; exact (below_size (by repeat (first | (with_reducible first | exact HB.out | apply lA1_ | apply lN_ | apply lD_) | exact HB.out))) : w.heap.size ≤ a1)); clear HB; have HB := n0_; have a0 := n1_; have a2 := n3_; clear n0_ n1_ n3_ hb hbox hg) | ((with_reducible refine gate_callee (f := 17) rfl ?_); refine goesA_ (some 5) rfl rfl Try.func17 (by kernel_rfl) rfl #[.slice A0 l0.length c0] rfl ?_; (with_reducible refine (impl_ParsePacket.calls k _ _ l0 t676 t677 t678 t679 t680 t681 t682 t683 _ ?side1 ?side2 A2.out).mono ?_); (case side1 => repeat (first | exact (Kd.C_below ad.out HB.out) | (with_reducible refine Kd.C_alloc ?_ _) | (with_reducible refine Kd.C_drewN ?_ _) | (with_reducible refine Kd.C_drew ?_))); (case side2 => exact ae.out); rintro e w6 ⟨v684, rfl, ho0, hb⟩; refine ⟨_, rfl, ?_⟩; have n0_ := Aside0.mk (Kd.R_lower ho0 (below_size (by repeat (first | (with_reducible first | exact HB.out | apply lA1_ | apply lN_ | apply lD_ | refine lS1_ ?_ a2.out) | exact HB.out)))); have n1_ := Aside0.mk (bB_ (g := a1) (o := .cells #[.int .i64 0, .slice none 0 0] 29 (0, 0)) (by (with_reducible repeat first | apply bN_ | apply bD_ | apply bA_); exact a0.out) hb); have n2_ := Aside0.mk (lP_ (by repeat (first | (with_reducible first | exact HB.out | apply lA1_ | apply lN_ | apply lD_ | refine lS1_ ?_ a2.out) | exact HB.out)) hb); clear a0 HB; have a4 := n0_; have a0 := n1_; have HB := n2_; clear n0_ n1_ n2_; (try clear hb); (try clear hb2); (try clear hk); (try clear hi); (try clear ho0)) | ((with_reducible refine gate_dst (N := 3) rfl ?_); refine box_event ?hg (N := 3) ?hd (cs := #[.int .i64 0, .int .i64 0, .int .i64 0, .int .i64 0, .int .i64 0, .int .i64 0, .int .i64 0, .slice none 0 0]) (t := 36) ?hr ?_; (case hd => rfl); (case hg => rfl); (case hr => first | (go_simp; done) | (go_simp; rfl)); intro a3 hg w7 hbox hb; have n0_ := Aside0.mk (Kd.R_below (by (with_reducible repeat first | apply rA_ | apply rN_ | apply rD_); exact a4.out) hb); have n1_ := Aside0.mk (bB_ (g := a1) (o := .cells #[.int .i64 0, .slice none 0 0] 29 (0, 0)) (by (with_reducible repeat first | apply bN_ | apply bD_ | apply bA_); exact a0.out) hb); have n2_ := Aside0.mk (lP_ (by repeat (first | (with_reducible first | exact HB.out | apply lA1_ | apply lN_ | apply lD_ | refine lS1_ ?_ a2.out) | exact HB.out)) hb); have n3_ := Aside0.mk (hbox); have n5_ := Aside0.mk ((by rw [hg]; exact (below_size (by repeat (first | (with_reducible first | exact HB.out | apply lA1_ | apply lN_ | apply lD_ | refine lS1_ ?_ a2.out) | exact HB.out))) : w.heap.size ≤ a3)); have n6_ := Aside0.mk ((by rw [hg]; exact Nat.ne_of_lt (blk_lt (g := a1) (o := .cells #[.int .i64 0, .slice none 0 0] 29 (0, 0)) (by (with_reducible repeat first | apply bN_ | apply bD_ | apply bA_); exact a0.out)) : a1 ≠ a3)); have n7_ := Aside0.mk ((by rw [hg]; exact Nat.ne_of_gt (blk_lt (g := a1) (o := .cells #[.int .i64 0, .slice none 0 0] 29 (0, 0)) (by (with_reducible repeat first | apply bN_ | apply bD_ | apply bA_); exact a0.out)) : a3 ≠ a1)); clear a4 a0 HB; have a4 := n0_; have a0 := n1_; have HB := n2_; have a6 := n3_; have a8 := n5_; have a5 := n6_; have a7 := n7_; clear n0_ n1_ n2_ n3_ n5_ n6_ n7_ hb hbox hg; have au := a7.out; have av := a5.out; obtain ⟨_, _, _, _, _, _, _, _, _, _, _, _, _, _, _, _⟩ := bc8 a6.out; obtain ⟨aw, ax, eo10⟩ := Kd.R_slice a4.out; subst eo10; obtain ⟨_, _, _, _⟩ := bc2 a0.out))
   refine bodyPost_ret (results_cell_row rfl _ _ a1 29 #[.int .i64 10, .slice none 0 0] (0, 0) _ rfl (by (with_reducible repeat first | apply bN_ | apply bD_ | apply bA_); apply fill2; (iterate 8 ((with_reducible repeat first | apply bN_ | apply bD_ | apply bA_); refine bF_ ?_ a5.out _)); (with_reducible repeat first | apply bN_ | apply bD_ | apply bA_); exact a0.out) Try.underlying29 rfl (by kernel_rfl)) rfl ?_
   exact ⟨_, by first | rfl | (simp [errW_none, errW_some] <;> rfl) | (simp [*, errW_none, errW_some] <;> rfl), by first | exact Kd.R_nil _ _ _ _ _ | exact Kd.N_nil _ _ _ _ _ | exact Kd.V_nil _ _ _ _ _ | exact Kd.Q_nil _ _ _ _ _ | exact Kd.S_nil _ _ _ _ _, by repeat (first | (with_reducible first | exact HB.out | apply lA1_ | apply lN_ | apply lD_ | refine lS1_ ?_ a2.out | refine lS1_ ?_ a8.out) | exact HB.out)⟩
  ·rw [if_neg c4] at H
   have c4b0 : (t680 == 1) = false := beq_eq_false_iff_ne.mpr c4
   have c4b1 : (t680 != 1) = true := bne_iff_ne.mpr c4
   replace H := Option.bind_eq_some_iff.mp H
   obtain ⟨⟨t687, t688, t689, t690, t691, t692, t693⟩, af, H⟩ := H
   try dsimp only at H
   have am := Aside0.mk af
   clear af
   replace H := Option.bind_eq_some_iff.mp H
   obtain ⟨t696, ag, H⟩ := H
   try dsimp only at H
   have an := Aside0.mk ag
   clear ag
   simp only [Option.some.injEq, Prod.mk.injEq] at H
   obtain ⟨rfl, rfl⟩ := H
   go_enter Try.func24, Try.ntmps24
   go_wp2_with (first | ((with_reducible refine gate_dst (N := 2) rfl ?_); refine box_event ?hg (N := 2) ?hd (cs := #[.int .i64 0, .slice none 0 0]) (t := 29) ?hr ?_; (case hd => rfl); (case hg => rfl); (case hr => first | (go_simp; done) | (go_simp; rfl)); intro a1 hg w14 hbox hb; have n0_ := Aside0.mk (lP_ (by repeat (first | (with_reducible first | exact HB.out | apply lA1_ | apply lN_ | apply lD_) | exact HB.out)) hb); have n1_ := Aside0.mk (hbox); have n3_ := Aside0.mk ((by rw [hg]; exact (below_size (by repeat (first | (with_reducible first | exact HB.out | apply lA1_ | apply lN_ | apply lD_) | exact HB.out))) : w.heap.size ≤ a1)); clear HB; have HB := n0_; have a0 := n1_; have a2 := n3_; clear n0_ n1_ n3_ hb hbox hg) | ((with_reducible refine gate_callee (f := 17) rfl ?_); refine goesA_ (some 5) rfl rfl Try.func17 (by kernel_rfl) rfl #[.slice A0 l0.length c0] rfl ?_; (with_reducible refine (impl_ParsePacket.calls k _ _ l0 t676 t677 t678 t679 t680 t681 t682 t683 _ ?side1 ?side2 A2.out).mono ?_); (case side1 => repeat (first | exact (Kd.C_below ad.out HB.out) | (with_reducible refine Kd.C_alloc ?_ _) | (with_reducible refine Kd.C_drewN ?_ _) | (with_reducible refine Kd.C_drew ?_))); (case side2 => exact ae.out); rintro e w15 ⟨v684, rfl, ho0, hb⟩; refine ⟨_, rfl, ?_⟩; have n0_ := Aside0.mk (Kd.R_lower ho0 (below_size (by repeat (first | (with_reducible first | exact HB.out | apply lA1_ | apply lN_ | apply lD_ | refine lS1_ ?_ a2.out) | exact HB.out)))); have n1_ := Aside0.mk (bB_ (g := a1) (o := .cells #[.int .i64 0, .slice none 0 0] 29 (0, 0)) (by (with_reducible repeat first | apply bN_ | apply bD_ | apply bA_); exact a0.out) hb); have n2_ := Aside0.mk (lP_ (by repeat (first | (with_reducible first | exact HB.out | apply lA1_ | apply lN_ | apply lD_ | refine lS1_ ?_ a2.out) | exact HB.out)) hb); clear a0 HB; have a4 := n0_; have a0 := n1_; have HB := n2_; clear n0_ n1_ n2_; (try clear hb); (try clear hb2); (try clear hk); (try clear hi); (try clear ho0)) | ((with_reducible refine gate_dst (N := 3) rfl ?_); refine box_event ?hg (N := 3) ?hd (cs := #[.int .i64 0, .int .i64 0, .int .i64 0, .int .i64 0, .int .i64 0, .int .i64 0, .int .i64 0, .slice none 0 0]) (t := 36) ?hr ?_; (case hd => rfl); (case hg => rfl); (case hr => first | (go_simp; done) | (go_simp; rfl)); intro a3 hg w16 hbox hb; have n0_ := Aside0.mk (Kd.R_below (by (with_reducible repeat first | apply rA_ | apply rN_ | apply rD_); exact a4.out) hb); have n1_ := Aside0.mk (bB_ (g := a1) (o := .cells #[.int .i64 0, .slice none 0 0] 29 (0, 0)) (by (with_reducible repeat first | apply bN_ | apply bD_ | apply bA_); exact a0.out) hb); have n2_ := Aside0.mk (lP_ (by repeat (first | (with_reducible first | exact HB.out | apply lA1_ | apply lN_ | apply lD_ | refine lS1_ ?_ a2.out) | exact HB.out)) hb); have n3_ := Aside0.mk (hbox); have n5_ := Aside0.mk ((by rw [hg]; exact (below_size (by repeat (first | (with_reducible first | exact HB.out | apply lA1_ | apply lN_ | apply lD_ | refine lS1_ ?_ a2.out) | exact HB.out))) : w.heap.size ≤ a3)); have n6_ := Aside0.mk ((by rw [hg]; exact Nat.ne_of_lt (blk_lt (g := a1) (o := .cells #[.int .i64 0, .slice none 0 0] 29 (0, 0)) (by (with_reducible repeat first | apply bN_ | apply bD_ | apply bA_); exact a0.out)) : a1 ≠ a3)); have n7_ := Aside0.mk ((by rw [hg]; exact Nat.ne_of_gt (blk_lt (g := a1) (o := .cells #[.int .i64 0, .slice none 0 0] 29 (0, 0)) (by (with_reducible repeat first | apply bN_ | apply bD_ | apply bA_); exact a0.out)) : a3 ≠ a1)); clear a4 a0 HB; have a4 := n0_; have a0 := n1_; have HB := n2_; have a6 := n3_; have a8 := n5_; have a5 := n6_; have a7 := n7_; clear n0_ n1_ n2_ n3_ n5_ n6_ n7_ hb hbox hg; have ao := a7.out; have ap := a5.out; obtain ⟨_, _, _, _, _, _, _, _, _, _, _, _, _, _, _, _⟩ := bc8 a6.out; obtain ⟨a9, aa, eo19⟩ := Kd.R_slice a4.out; subst eo19) | ((with_reducible refine gate_store (t := 36) (p := 3) rfl ?_); refine store_event (t := 36) (p := 3) (v := ?vo_w20) (w1 := ((((((((w16.setCell ⟨a3, 0, none⟩ (.int .i64 t676)).setCell ⟨a3, 1, none⟩ (.int .i64 t677)).setCell ⟨a3, 2, none⟩ (.int .i64 t678)).setCell ⟨a3, 3, none⟩ (.int .i64 t679)).setCell ⟨a3, 4, none⟩ (.int .i64 t680)).setCell ⟨a3, 5, none⟩ (.int .i64 t681)).setCell ⟨a3, 6, none⟩ (.int .i64 t682)).setCell ⟨a3, 7, none⟩ (.slice a9 t683.length aa))) ?hg ?ho ?hn ?hr ?_; (case ho => rfl); (case hg => rfl); (case hn => rfl); (case hr => first | (go_simp; done) | (go_simp; rfl)); intro w20 hw; have n0_ : Aside0 (Kd.R (Kd.int .u8) 5 w20 w.heap.size (fun _ => True) (.slice a9 t683.length aa) t683) := ⟨(by rw [hw]; exact (by (with_reducible repeat first | apply rA_ | apply rN_ | apply rD_); exact Kd.R_mono (rfar8 (g := a3) (Kd.R_types a4.out a6.out (by decide)) (fun _ hk => hk.2)) (fun _ hk => trivial)))⟩; have n1_ : Aside0 (w20.heap[a1]? = some (.cells #[.int .i64 0, .slice none 0 0] 29 (0, 0))) := ⟨(by rw [hw]; exact (by (iterate 8 ((with_reducible repeat first | apply bN_ | apply bD_ | apply bA_); refine bF_ ?_ a5.out _)); (with_reducible repeat first | apply bN_ | apply bD_ | apply bA_); exact a0.out))⟩; have n2_ : Aside0 (w20.heap[a3]? = some (.cells #[.int .i64 t676, .int .i64 t677, .int .i64 t678, .int .i64 t679, .int .i64 t680, .int .i64 t681, .int .i64 t682, .slice a9 t683.length aa] 36 (0, 0))) := ⟨(by rw [hw]; exact (by (with_reducible repeat first | apply bN_ | apply bD_ | apply bA_); apply fill8; (with_reducible repeat first | apply bN_ | apply bD_ | apply bA_); exact a6.out))⟩; have n3_ : Aside0 (Below w.heap.size w w20) := ⟨(by rw [hw]; exact (by repeat (first | (with_reducible first | exact HB.out | apply lA1_ | apply lN_ | apply lD_ | refine lS1_ ?_ a2.out | refine lS1_ ?_ a8.out) | exact HB.out)))⟩; clear hw a4 a0 a6 HB; have a4 := n0_; have a0 := n1_; have a6 := n2_; have HB := n3_; clear n0_ n1_ n2_ n3_; obtain ⟨_, _, _, _, _, _, _, _, _, _, _, _, _, _, _, _⟩ := bc8 a6.out) | ((with_reducible refine gate_callee (f := 63) rfl ?_); refine goesA_ (some 21) rfl rfl Try.func63 (by kernel_rfl) rfl #[.agg #[.int .i64 t677, .int .i64 t678, .int .i64 t679, .int .i64 t680, .int .i64 t681, .int .i64 t682, .slice a9 t683.length aa]] rfl ?_; (with_reducible refine (impl_nearer.calls t677 t678 t679 t680 t681 t682 (fun k_ => some k_ = (.slice a9 t683.length aa : Value).ownBlock) (.slice a9 t683.length aa) t683 t687 t688 t689 t690 t691 t692 t693 w _ ?side1 ?side2 am.out).mono ?_); (case side1 => repeat (first | (with_reducible first | exact HB.out | apply lA1_ | apply lN_ | apply lD_ | refine lS1_ ?_ a2.out | refine lS1_ ?_ a8.out) | exact HB.out)); (case side2 => exact Kd.R_tight rfl a4.out); rintro e w22 ⟨v694, rfl, ho0, hb, hkp⟩; refine ⟨_, rfl, ?_⟩; have n0_ := Aside0.mk (blk_kept (by (with_reducible repeat first | apply bN_ | apply bD_ | apply bA_); exact a0.out) hkp (fun hs_ => (fun e_ => (Kd.R_ne a4.out a0.out (by decide)) e_) hs_)); have n2_ := Aside0.mk (Kd.R_mono (ok' := fun k_ => True) ho0 (fun k_ hk_ => trivial)); have n3_ := Aside0.mk (hb); clear a0 HB a4; have a0 := n0_; have ab := n2_; have HB := n3_; clear n0_ n2_ n3_; (try clear hb); (try clear hkp); (try clear ho0); obtain ⟨ai, aj, eo23⟩ := Kd.R_slice ab.out; subst eo23) | ((with_reducible refine gate_callee (f := 62) rfl ?_); refine goesA_ (some 22) rfl rfl Try.func62 (by kernel_rfl) rfl #[.agg #[.int .i64 t687, .int .i64 t688, .int .i64 t689, .int .i64 t690, .int .i64 t691, .int .i64 t692, .slice ai t693.length aj]] rfl ?_; (with_reducible refine (impl_build.calls k t687 t688 t689 t690 t691 t692 _ _ t693 t696 _ ?side1 ?side2 an.out).mono ?_); (case side1 => repeat (first | exact (Kd.R_reads' ab.out).2.2 | (with_reducible refine Kd.C_alloc ?_ _) | (with_reducible refine Kd.C_drewN ?_ _) | (with_reducible refine Kd.C_drew ?_))); (case side2 => exact (Kd.R_reads' ab.out).2.1); rintro e w24 ⟨v697, rfl, ho0, hb⟩; refine ⟨_, rfl, ?_⟩; have n1_ := Aside0.mk (Kd.R_lower (Kd.R_new' ho0 (Kd.R_lt (by (with_reducible repeat first | apply rA_ | apply rN_ | apply rD_); exact ab.out))) (below_size (by repeat (first | (with_reducible first | exact HB.out | apply lA1_ | apply lN_ | apply lD_ | refine lS1_ ?_ a2.out | refine lS1_ ?_ a8.out) | exact HB.out)))); have n2_ := Aside0.mk (bB_ (g := a1) (o := .cells #[.int .i64 0, .slice none 0 0] 29 (0, 0)) (by (with_reducible repeat first | apply bN_ | apply bD_ | apply bA_); exact a0.out) hb); have n4_ := Aside0.mk (lP_ (by repeat (first | (with_reducible first | exact HB.out | apply lA1_ | apply lN_ | apply lD_ | refine lS1_ ?_ a2.out | refine lS1_ ?_ a8.out) | exact HB.out)) hb); clear a0 HB; have ac := n1_; have a0 := n2_; have HB := n4_; clear n1_ n2_ n4_; (try clear hb); (try clear hb2); (try clear hk); (try clear hi); (try clear ho0); obtain ⟨ak, al, eo25⟩ := Kd.R_slice ac.out; subst eo25; obtain ⟨_, _, _, _⟩ := bc2 a0.out))
   refine bodyPost_ret (results_cell_row rfl _ _ a1 29 #[.int .i64 0, .slice ak t696.length al] (0, 0) _ rfl (by (with_reducible repeat first | apply bN_ | apply bD_ | apply bA_); apply fill2; (with_reducible repeat first | apply bN_ | apply bD_ | apply bA_); exact a0.out) Try.underlying29 rfl (by kernel_rfl)) rfl ?_
   exact ⟨_, by first | rfl | (simp [errW_none, errW_some] <;> rfl) | (simp [*, errW_none, errW_some] <;> rfl), by (with_reducible repeat first | apply rA_ | apply rN_ | apply rD_); exact Kd.R_mono (rfar2 (g := a1) (Kd.R_types ac.out a0.out (by decide)) (fun _ hk => hk.2)) (fun _ hk => trivial), by repeat (first | (with_reducible first | exact HB.out | apply lA1_ | apply lN_ | apply lD_ | refine lS1_ ?_ a2.out | refine lS1_ ?_ a8.out) | exact HB.out)⟩
 ·rw [if_neg c3] at H
  have c3b0 : (t676 == 0) = false := beq_eq_false_iff_ne.mpr c3
  have c3b1 : (t676 != 0) = true := bne_iff_ne.mpr c3
  simp only [Option.some.injEq, Prod.mk.injEq] at H
  obtain ⟨rfl, rfl⟩ := H
  go_enter Try.func24, Try.ntmps24
  go_wp2_with (first | ((with_reducible refine gate_dst (N := 2) rfl ?_); refine box_event ?hg (N := 2) ?hd (cs := #[.int .i64 0, .slice none 0 0]) (t := 29) ?hr ?_; (case hd => rfl); (case hg => rfl); (case hr => first | (go_simp; done) | (go_simp; rfl)); intro a1 hg w27 hbox hb; have n0_ := Aside0.mk (lP_ (by repeat (first | (with_reducible first | exact HB.out | apply lA1_ | apply lN_ | apply lD_) | exact HB.out)) hb); have n1_ := Aside0.mk (hbox); have n3_ := Aside0.mk ((by rw [hg]; exact (below_size (by repeat (first | (with_reducible first | exact HB.out | apply lA1_ | apply lN_ | apply lD_) | exact HB.out))) : w.heap.size ≤ a1)); clear HB; have HB := n0_; have a0 := n1_; have a2 := n3_; clear n0_ n1_ n3_ hb hbox hg) | ((with_reducible refine gate_callee (f := 17) rfl ?_); refine goesA_ (some 5) rfl rfl Try.func17 (by kernel_rfl) rfl #[.slice A0 l0.length c0] rfl ?_; (with_reducible refine (impl_ParsePacket.calls k _ _ l0 t676 t677 t678 t679 t680 t681 t682 t683 _ ?side1 ?side2 A2.out).mono ?_); (case side1 => repeat (first | exact (Kd.C_below ad.out HB.out) | (with_reducible refine Kd.C_alloc ?_ _) | (with_reducible refine Kd.C_drewN ?_ _) | (with_reducible refine Kd.C_drew ?_))); (case side2 => exact ae.out); rintro e w28 ⟨v684, rfl, ho0, hb⟩; refine ⟨_, rfl, ?_⟩; have n0_ := Aside0.mk (Kd.R_lower ho0 (below_size (by repeat (first | (with_reducible first | exact HB.out | apply lA1_ | apply lN_ | apply lD_ | refine lS1_ ?_ a2.out) | exact HB.out)))); have n1_ := Aside0.mk (bB_ (g := a1) (o := .cells #[.int .i64 0, .slice none 0 0] 29 (0, 0)) (by (with_reducible repeat first | apply bN_ | apply bD_ | apply bA_); exact a0.out) hb); have n2_ := Aside0.mk (lP_ (by repeat (first | (with_reducible first | exact HB.out | apply lA1_ | apply lN_ | apply lD_ | refine lS1_ ?_ a2.out) | exact HB.out)) hb); clear a0 HB; have a4 := n0_; have a0 := n1_; have HB := n2_; clear n0_ n1_ n2_; (try clear hb); (try clear hb2); (try clear hk); (try clear hi); (try clear ho0)) | ((with_reducible refine gate_dst (N := 3) rfl ?_); refine box_event ?hg (N := 3) ?hd (cs := #[.int .i64 0, .int .i64 0, .int .i64 0, .int .i64 0, .int .i64 0, .int .i64 0, .int .i64 0, .slice none 0 0]) (t := 36) ?hr ?_; (case hd => rfl); (case hg => rfl); (case hr => first | (go_simp; done) | (go_simp; rfl)); intro a3 hg w29 hbox hb; have n0_ := Aside0.mk (Kd.R_below (by (with_reducible repeat first | apply rA_ | apply rN_ | apply rD_); exact a4.out) hb); have n1_ := Aside0.mk (bB_ (g := a1) (o := .cells #[.int .i64 0, .slice none 0 0] 29 (0, 0)) (by (with_reducible repeat first | apply bN_ | apply bD_ | apply bA_); exact a0.out) hb); have n2_ := Aside0.mk (lP_ (by repeat (first | (with_reducible first | exact HB.out | apply lA1_ | apply lN_ | apply lD_ | refine lS1_ ?_ a2.out) | exact HB.out)) hb); have n3_ := Aside0.mk (hbox); have n5_ := Aside0.mk ((by rw [hg]; exact (below_size (by repeat (first | (with_reducible first | exact HB.out | apply lA1_ | apply lN_ | apply lD_ | refine lS1_ ?_ a2.out) | exact HB.out))) : w.heap.size ≤ a3)); have n6_ := Aside0.mk ((by rw [hg]; exact Nat.ne_of_lt (blk_lt (g := a1) (o := .cells #[.int .i64 0, .slice none 0 0] 29 (0, 0)) (by (with_reducible repeat first | apply bN_ | apply bD_ | apply bA_); exact a0.out)) : a1 ≠ a3)); have n7_ := Aside0.mk ((by rw [hg]; exact Nat.ne_of_gt (blk_lt (g := a1) (o := .cells #[.int .i64 0, .slice none 0 0] 29 (0, 0)) (by (with_reducible repeat first | apply bN_ | apply bD_ | apply bA_); exact a0.out)) : a3 ≠ a1)); clear a4 a0 HB; have a4 := n0_; have a0 := n1_; have HB := n2_; have a6 := n3_; have a8 := n5_; have a5 := n6_; have a7 := n7_; clear n0_ n1_ n2_ n3_ n5_ n6_ n7_ hb hbox hg; have aq := a7.out; have ar := a5.out; obtain ⟨_, _, _, _, _, _, _, _, _, _, _, _, _, _, _, _⟩ := bc8 a6.out; obtain ⟨ay, az, eo32⟩ := Kd.R_slice a4.out; subst eo32; obtain ⟨_, _, _, _⟩ := bc2 a0.out))
  refine bodyPost_ret (results_cell_row rfl _ _ a1 29 #[.int .i64 t676, .slice none 0 0] (0, 0) _ rfl (by (with_reducible repeat first | apply bN_ | apply bD_ | apply bA_); apply fill2; (iterate 8 ((with_reducible repeat first | apply bN_ | apply bD_ | apply bA_); refine bF_ ?_ a5.out _)); (with_reducible repeat first | apply bN_ | apply bD_ | apply bA_); exact a0.out) Try.underlying29 rfl (by kernel_rfl)) rfl ?_
  exact ⟨_, by first | rfl | (simp [errW_none, errW_some] <;> rfl) | (simp [*, errW_none, errW_some] <;> rfl), by first | exact Kd.R_nil _ _ _ _ _ | exact Kd.N_nil _ _ _ _ _ | exact Kd.V_nil _ _ _ _ _ | exact Kd.Q_nil _ _ _ _ _ | exact Kd.S_nil _ _ _ _ _, by repeat (first | (with_reducible first | exact HB.out | apply lA1_ | apply lN_ | apply lD_ | refine lS1_ ?_ a2.out | refine lS1_ ?_ a8.out) | exact HB.out)⟩
end Go.Proofs.Ytidejdfbapjfiaa.G
namespace Go.Proofs.Ytidejdfbapjfiaa.G
open Go.RowKit Go.Proofs.YtidejdfbapjfiaaW.PrintWords Go.Proofs.YtidejdfbapjfiaaW.PrintLast Go.Proofs.YtidejdfbapjfiaaW.PrintMore
attribute [local go_sem] max2_int min2_int max_two min_two max_three min_three max_four min_four   -- for this text's walks alone
set_option linter.unusedVariables false
set_option linter.unusedSimpArgs false
def IsS70 (w0 W : World) (g : Nat) (f0 : List Int) (f1 : Int) : Prop := ∃ A0 c0, W.heap[g]? = some (.cells #[.slice A0 f0.length c0, .int .i64 f1] 70 (0, 0)) ∧ w0.heap.size ≤ g ∧ Kd.C (Kd.int .u8) w0 A0 f0.length f0
theorem IsS70.grown {w0 W : World} {g : Nat} {f0 : List Int} {f1 : Int} {W1 : World} {row : Option Nat} (h : IsS70 w0 W g f0 f1) (hw : W.grownBy W1 row) (hne : some g ≠ row) : IsS70 w0 W1 g f0 f1 := by
 obtain ⟨A0, c0, hb, hg, hr0⟩ := h
 exact ⟨A0, c0, blk_grown hb hw hne, hg, hr0⟩
theorem IsS70.kept {w0 W : World} {g : Nat} {f0 : List Int} {f1 : Int} {W1 : World} {S : Nat → Prop} (h : IsS70 w0 W g f0 f1) (hk : Kept W W1 S) (hne : ¬ S g) : IsS70 w0 W1 g f0 f1 := by
 obtain ⟨A0, c0, hb, hg, hr0⟩ := h
 exact ⟨A0, c0, blk_kept hb hk hne, hg, hr0⟩
theorem IsS70.below {w0 W : World} {g : Nat} {f0 : List Int} {f1 : Int} {W1 : World} (h : IsS70 w0 W g f0 f1) (hw : Below W.heap.size W W1) : IsS70 w0 W1 g f0 f1 := h.grown (grown_of_below hw none) (by simp)
theorem IsS70.alloc {w0 W : World} {g : Nat} {f0 : List Int} {f1 : Int} (h : IsS70 w0 W g f0 f1) (o : Obj) : IsS70 w0 (W.alloc o) g f0 f1 := h.below (lA1_ (Below.refl _ _) o)
theorem IsS70.drewN {w0 W : World} {g : Nat} {f0 : List Int} {f1 : Int} (h : IsS70 w0 W g f0 f1) (m : Nat) : IsS70 w0 (W.drewN m) g f0 f1 := h
theorem IsS70.drew {w0 W : World} {g : Nat} {f0 : List Int} {f1 : Int} (h : IsS70 w0 W g f0 f1) : IsS70 w0 W.drew g f0 f1 := h
theorem IsS70.at_ {w0 W : World} {g : Nat} {f0 : List Int} {f1 : Int} {w' : World} {m : Nat} (hq : W.drewN m = w') (h : IsS70 w0 W g f0 f1) : IsS70 w0 w' g f0 f1 := by subst hq; exact IsS70.drewN h m
theorem IsS70.apart {w0 W : World} {g : Nat} {f0 : List Int} {f1 : Int} {α : Type} {d : Kd α} {e : Nat} {base : Nat} {ok : Nat → Prop} {v : Value} {xs : List α} (h : IsS70 w0 W g f0 f1) (ho : d.R e W base ok v xs) (ht : ∀ q, q ∈ e :: d.E → q ≠ 70) : d.R e W base (fun k => ok k ∧ k ≠ g) v xs := by
 obtain ⟨A0, c0, hb, hg, hr0⟩ := h
 exact Kd.R_types ho hb ht
theorem IsS70.own_ne {w0 W : World} {g : Nat} {f0 : List Int} {f1 : Int} {α : Type} {d : Kd α} {e : Nat} {base : Nat} {ok : Nat → Prop} {v : Value} {xs : List α} (h : IsS70 w0 W g f0 f1) (ho : d.R e W base ok v xs) (ht : e ≠ 70) : some g ≠ v.ownBlock := by
 obtain ⟨A0, c0, hb, hg, hr0⟩ := h
 exact Kd.R_ne ho hb ht
theorem IsS70.lt {w0 W : World} {g : Nat} {f0 : List Int} {f1 : Int} (h : IsS70 w0 W g f0 f1) : g < W.heap.size := by
 obtain ⟨A0, c0, hb, hg, hr0⟩ := h
 exact blk_lt hb
theorem IsS70.ge {w0 W : World} {g : Nat} {f0 : List Int} {f1 : Int} (h : IsS70 w0 W g f0 f1) : w0.heap.size ≤ g := by
 obtain ⟨A0, c0, hb, hg, hr0⟩ := h
 exact hg
theorem IsS70.far {w0 W : World} {g : Nat} {f0 : List Int} {f1 : Int} {p : Addr} (h : IsS70 w0 W g f0 f1) (hne : g ≠ p.block) (u : Value) : IsS70 w0 (W.setCell p u) g f0 f1 := by
 obtain ⟨A0, c0, hb, hg, hr0⟩ := h
 exact ⟨A0, c0, bF_ hb hne u, hg, hr0⟩
theorem cellS70_0 {W : World} {g : Nat} {A0 : Option Addr} {c0 : Nat} {f0 : List Int} {f1 : Int} (h : W.heap[g]? = some (.cells #[.slice A0 f0.length c0, .int .i64 f1] 70 (0, 0))) : W.cell? ⟨g, 0, none⟩ = some (.slice A0 f0.length c0) := (blk_cell h 0).trans rfl
theorem cellS70_1 {W : World} {g : Nat} {A0 : Option Addr} {c0 : Nat} {f0 : List Int} {f1 : Int} (h : W.heap[g]? = some (.cells #[.slice A0 f0.length c0, .int .i64 f1] 70 (0, 0))) : W.cell? ⟨g, 1, none⟩ = some (.int .i64 f1) := (blk_cell h 1).trans rfl
theorem IsS70.set_1 {w0 W : World} {g : Nat} {f0 : List Int} {f1 : Int} (h : IsS70 w0 W g f0 f1) (x : Int) : IsS70 w0 (W.setCell ⟨g, 1, none⟩ (.int .i64 x)) g f0 x := by
 obtain ⟨A0, c0, hb, hg, hr0⟩ := h
 exact ⟨A0, c0, by simpa using blk_set hb 1 (.int .i64 x), hg, hr0⟩
def spec_l1Source.f (l0 : List Int) : Option (List Int × Int) := some (l0, 0)
set_option maxHeartbeats 8000000 in
set_option maxRecDepth 100000 in
theorem spec_l1Source.calls (A0 : Option Addr) (c0 : Nat) (l0 : List Int) (r1 : List Int) (r2 : Int) (w0 w : World) (hB : Below w0.heap.size w0 w) (hr0 : Kd.C (Kd.int .u8) w0 A0 l0.length l0) (hc0 : l0.length ≤ c0) (h : spec_l1Source.f l0 = some (r1, r2)) :
  Calls Try.prog 37 #[.slice A0 l0.length c0] w fun e w' => ∃ g_ : Nat, e = .returned (.pointer (some ⟨g_, 0, none⟩)) ∧ IsS70 w0 w' g_ r1 r2 ∧ Below w0.heap.size w0 w' ∧ Below w.heap.size w w' := by
 have hu70 := Try.underlying70
 have HR0 := Aside0.mk hr0
 have HC0 := Aside0.mk hc0
 clear hr0 hc0
 have HBW := Aside0.mk (Below.refl w.heap.size w)
 have HW0 := Aside0.mk hB.size
 have HB := Aside0.mk hB
 clear hB
 have H : (some (l0, 0)) = some (r1, r2) := h
 clear h
 simp only [Option.some.injEq, Prod.mk.injEq] at H
 obtain ⟨rfl, rfl⟩ := H
 go_enter Try.func37, Try.ntmps37
 go_wp2_with (first | ((with_reducible refine gate_dst (N := 5) rfl ?_); refine box_event ?hg (N := 5) ?hd (cs := #[.slice A0 l0.length c0, .int .i64 0]) (t := 70) ?hr ?_; (case hd => rfl); (case hg => rfl); (case hr => first | (go_simp; done) | (go_simp; rfl)); intro gb143 hg w2 hbox hb; have n0_ := Aside0.mk (lP_ HBW.out hb); have n1_ := Aside0.mk (lP_ (by repeat (first | (with_reducible first | exact HB.out | apply lA1_ | apply lN_ | apply lD_) | exact HB.out)) hb); have n2_ := Aside0.mk (hbox); have n3_ := Aside0.mk ((by rw [hg]; exact (below_size (by repeat (first | (with_reducible first | exact HBW.out | apply lA1_ | apply lN_ | apply lD_) | exact HBW.out))) : w.heap.size ≤ gb143)); have n4_ := Aside0.mk ((Nat.le_trans HW0.out (by rw [hg]; exact (below_size (by repeat (first | (with_reducible first | exact HBW.out | apply lA1_ | apply lN_ | apply lD_) | exact HBW.out))) : w.heap.size ≤ gb143) : w0.heap.size ≤ gb143)); clear HBW HB; have HBW := n0_; have HB := n1_; have BK143 := n2_; have GW143 := n3_; have GE143 := n4_; clear n0_ n1_ n2_ n3_ n4_ hb hbox hg))
 go_ret
 exact ⟨_, rfl, (show IsS70 w0 _ gb143 l0 0 from ⟨_, _, by (with_reducible repeat first | apply bN_ | apply bD_ | apply bA_); exact BK143.out, GE143.out, HR0.out⟩), by repeat (first | (with_reducible first | exact HB.out | apply lA1_ | apply lN_ | apply lD_ | refine lS1_ ?_ GE143.out) | exact HB.out), by repeat (first | (with_reducible first | exact HBW.out | apply lA1_ | apply lN_ | apply lD_ | refine lS1_ ?_ GW143.out) | exact HBW.out)⟩
end Go.Proofs.Ytidejdfbapjfiaa.G
namespace Go.Proofs.Ytidejdfbapjfiaa.G
open Go.RowKit Go.Proofs.YtidejdfbapjfiaaW.PrintWords Go.Proofs.YtidejdfbapjfiaaW.PrintLast Go.Proofs.YtidejdfbapjfiaaW.PrintMore
attribute [local go_sem] max2_int min2_int max_two min_two max_three min_three max_four min_four   -- for this text's walks alone
set_option linter.unusedVariables false
set_option linter.unusedSimpArgs false
def spec_l1Next.f (s0_0 : List Int) (s0_1 : Int) (a1 : Int) : Option (Int × Int) := if a1 < 1 then (some (0, wrap64 (s0_1 + 1))) else (if (s0_0.length : Int) = 0 then (if a1 = 0 then (none) else (some (Int.tmod (wrap64 ((wrap64 ((wrap64 (s0_1 + 1)) - 1)) * 7)) a1, wrap64 (s0_1 + 1)))) else (if 0 ≤ (Int.tmod (wrap64 ((wrap64 (s0_1 + 1)) - 1)) (s0_0.length : Int)) then (if (Int.tmod (wrap64 ((wrap64 (s0_1 + 1)) - 1)) (s0_0.length : Int)) < (s0_0.length : Int) then (if a1 > 200 then (if 0 ≤ (Int.tmod (wrap64 ((wrap64 ((wrap64 (s0_1 + 1)) - 1)) + 1)) (s0_0.length : Int)) then (if (Int.tmod (wrap64 ((wrap64 ((wrap64 (s0_1 + 1)) - 1)) + 1)) (s0_0.length : Int)) < (s0_0.length : Int) then (if a1 = 0 then (none) else (some (Int.tmod (wrap64 ((wrap64 ((wrap64 ((wrap64 ((wrap64 (rd s0_0 (Int.tmod (wrap64 ((wrap64 (s0_1 + 1)) - 1)) (s0_0.length : Int)))) + (wrap64 ((wrap64 (Int.tdiv (wrap64 ((wrap64 (s0_1 + 1)) - 1)) (s0_0.length : Int))) * 37)))) * 251)) + (wrap64 ((wrap64 (rd s0_0 (Int.tmod (wrap64 ((wrap64 ((wrap64 (s0_1 + 1)) - 1)) + 1)) (s0_0.length : Int)))) * 13)))) + (wrap64 ((wrap64 (s0_1 + 1)) - 1)))) a1, wrap64 (s0_1 + 1)))) else (none)) else (none)) else (if a1 = 0 then (none) else (some (Int.tmod (wrap64 ((wrap64 (rd s0_0 (Int.tmod (wrap64 ((wrap64 (s0_1 + 1)) - 1)) (s0_0.length : Int)))) + (wrap64 ((wrap64 (Int.tdiv (wrap64 ((wrap64 (s0_1 + 1)) - 1)) (s0_0.length : Int))) * 37)))) a1, wrap64 (s0_1 + 1))))) else (none)) else (none)))
set_option maxHeartbeats 8000000 in
set_option maxRecDepth 100000 in
theorem spec_l1Next.calls (g : Nat) (s0_0 : List Int) (s0_1 : Int) (a1 : Int) (r1 : Int) (r2 : Int) (w0 w : World) (hI : IsS70 w0 w g s0_0 s0_1) (hB : Below w0.heap.size w0 w) (h : spec_l1Next.f s0_0 s0_1 a1 = some (r1, r2)) :
  Calls Try.prog 38 #[.pointer (some ⟨g, 0, none⟩), .int .i64 a1] w fun e w' => e = .returned (.int .i64 r1) ∧ IsS70 w0 w' g s0_0 r2 ∧ Below w0.heap.size w0 w' ∧ KeepBut w w' g none := by
 have HI0 := Aside0.mk hI
 have HK := Aside0.mk (KeepBut.refl w g none)
 have HL := Aside0.mk hB.size
 clear hI
 have HW0 := Aside0.mk hB.size
 have HB := Aside0.mk hB
 clear hB
 have H : (if a1 < 1 then (some (0, wrap64 (s0_1 + 1))) else (if (s0_0.length : Int) = 0 then (if a1 = 0 then (none) else (some (Int.tmod (wrap64 ((wrap64 ((wrap64 (s0_1 + 1)) - 1)) * 7)) a1, wrap64 (s0_1 + 1)))) else (if 0 ≤ (Int.tmod (wrap64 ((wrap64 (s0_1 + 1)) - 1)) (s0_0.length : Int)) then (if (Int.tmod (wrap64 ((wrap64 (s0_1 + 1)) - 1)) (s0_0.length : Int)) < (s0_0.length : Int) then (if a1 > 200 then (if 0 ≤ (Int.tmod (wrap64 ((wrap64 ((wrap64 (s0_1 + 1)) - 1)) + 1)) (s0_0.length : Int)) then (if (Int.tmod (wrap64 ((wrap64 ((wrap64 (s0_1 + 1)) - 1)) + 1)) (s0_0.length : Int)) < (s0_0.length : Int) then (if a1 = 0 then (none) else (some (Int.tmod (wrap64 ((wrap64 ((wrap64 ((wrap64 ((wrap64 (rd s0_0 (Int.tmod (wrap64 ((wrap64 (s0_1 + 1)) - 1)) (s0_0.length : Int)))) + (wrap64 ((wrap64 (Int.tdiv (wrap64 ((wrap64 (s0_1 + 1)) - 1)) (s0_0.length : Int))) * 37)))) * 251)) + (wrap64 ((wrap64 (rd s0_0 (Int.tmod (wrap64 ((wrap64 ((wrap64 (s0_1 + 1)) - 1)) + 1)) (s0_0.length : Int)))) * 13)))) + (wrap64 ((wrap64 (s0_1 + 1)) - 1)))) a1, wrap64 (s0_1 + 1)))) else (none)) else (none)) else (if a1 = 0 then (none) else (some (Int.tmod (wrap64 ((wrap64 (rd s0_0 (Int.tmod (wrap64 ((wrap64 (s0_1 + 1)) - 1)) (s0_0.length : Int)))) + (wrap64 ((wrap64 (Int.tdiv (wrap64 ((wrap64 (s0_1 + 1)) - 1)) (s0_0.length : Int))) * 37)))) a1, wrap64 (s0_1 + 1))))) else (none)) else (none)))) = some (r1, r2) := h
 clear h
 by_cases c3 : a1 < 1
 ·rw [if_pos c3] at H
  have c3b0 : decide (a1 < 1) = true := decide_eq_true c3
  clear c3
  simp only [Option.some.injEq, Prod.mk.injEq] at H
  obtain ⟨rfl, rfl⟩ := H
  obtain ⟨ASz4_0, cSz4_0, HGz4, hgz4, HSz4_0⟩ := HI0.out
  have hcz4_0 := cellS70_0 HGz4
  have hcz4_1 := cellS70_1 HGz4
  have hfz4_1 := blk_frozen HGz4 1
  clear HGz4 hgz4
  go_enter Try.func38, Try.ntmps38
  go_wp2
  repeat (go_quiet (fail); try go_wp2)
  go_ret
  exact ⟨by first | rfl | (simp [errW_none, errW_some] <;> rfl) | (simp [*, errW_none, errW_some] <;> rfl), by repeat (first | (with_reducible first | exact HI0.out | apply IsS70.alloc | apply IsS70.drewN | apply IsS70.drew | apply IsS70.set_1) | exact HI0.out), by repeat (first | (with_reducible first | exact HB.out | apply lA1_ | apply lN_ | apply lD_ | refine lS1_ ?_ (IsS70.ge HI0.out)) | exact HB.out), by repeat (first | (with_reducible first | exact HK.out | apply KeepBut.set_ | apply kN_ | apply kD_ | apply kA_) | exact HK.out)⟩
 ·rw [if_neg c3] at H
  have c3b0 : decide (a1 < 1) = false := decide_eq_false c3
  clear c3
  by_cases c5 : (s0_0.length : Int) = 0
  ·rw [if_pos c5] at H
   have c5b0 : ((s0_0.length : Int) == 0) = true := beq_iff_eq.mpr c5
   have c5b1 : ((s0_0.length : Int) != 0) = false := bne_eq_false_iff_eq.mpr c5
   clear c5
   by_cases c6 : a1 = 0
   ·rw [if_pos c6] at H
    exact absurd H (by simp)
   ·rw [if_neg c6] at H
    have c6b0 : (a1 == 0) = false := beq_eq_false_iff_ne.mpr c6
    have c6b1 : (a1 != 0) = true := bne_iff_ne.mpr c6
    simp only [Option.some.injEq, Prod.mk.injEq] at H
    obtain ⟨rfl, rfl⟩ := H
    obtain ⟨ASz7_0, cSz7_0, HGz7, hgz7, HSz7_0⟩ := HI0.out
    have hcz7_0 := cellS70_0 HGz7
    have hcz7_1 := cellS70_1 HGz7
    have hfz7_1 := blk_frozen HGz7 1
    clear HGz7 hgz7
    go_enter Try.func38, Try.ntmps38
    go_wp2
    repeat (go_quiet (fail); try go_wp2)
    go_ret
    exact ⟨by first | rfl | (simp [errW_none, errW_some] <;> rfl) | (simp [*, errW_none, errW_some] <;> rfl), by repeat (first | (with_reducible first | exact HI0.out | apply IsS70.alloc | apply IsS70.drewN | apply IsS70.drew | apply IsS70.set_1) | exact HI0.out), by repeat (first | (with_reducible first | exact HB.out | apply lA1_ | apply lN_ | apply lD_ | refine lS1_ ?_ (IsS70.ge HI0.out)) | exact HB.out), by repeat (first | (with_reducible first | exact HK.out | apply KeepBut.set_ | apply kN_ | apply kD_ | apply kA_) | exact HK.out)⟩
  ·rw [if_neg c5] at H
   have c5b0 : ((s0_0.length : Int) == 0) = false := beq_eq_false_iff_ne.mpr c5
   have c5b1 : ((s0_0.length : Int) != 0) = true := bne_iff_ne.mpr c5
   have c5b2 : ¬ (s0_0 = []) := fun h_ => c5 (by rw [h_]; rfl)
   obtain ⟨ji8, hji8⟩ : ∃ j_ : Int, (Int.tmod (wrap64 ((wrap64 (s0_1 + 1)) - 1)) (s0_0.length : Int)) = j_ := ⟨_, rfl⟩
   replace H : (if 0 ≤ (ji8) then (if (ji8) < (s0_0.length : Int) then (if a1 > 200 then (if 0 ≤ (Int.tmod (wrap64 ((wrap64 ((wrap64 (s0_1 + 1)) - 1)) + 1)) (s0_0.length : Int)) then (if (Int.tmod (wrap64 ((wrap64 ((wrap64 (s0_1 + 1)) - 1)) + 1)) (s0_0.length : Int)) < (s0_0.length : Int) then (if a1 = 0 then (none) else (some (Int.tmod (wrap64 ((wrap64 ((wrap64 ((wrap64 ((wrap64 (rd s0_0 (ji8))) + (wrap64 ((wrap64 (Int.tdiv (wrap64 ((wrap64 (s0_1 + 1)) - 1)) (s0_0.length : Int))) * 37)))) * 251)) + (wrap64 ((wrap64 (rd s0_0 (Int.tmod (wrap64 ((wrap64 ((wrap64 (s0_1 + 1)) - 1)) + 1)) (s0_0.length : Int)))) * 13)))) + (wrap64 ((wrap64 (s0_1 + 1)) - 1)))) a1, wrap64 (s0_1 + 1)))) else (none)) else (none)) else (if a1 = 0 then (none) else (some (Int.tmod (wrap64 ((wrap64 (rd s0_0 (ji8))) + (wrap64 ((wrap64 (Int.tdiv (wrap64 ((wrap64 (s0_1 + 1)) - 1)) (s0_0.length : Int))) * 37)))) a1, wrap64 (s0_1 + 1))))) else (none)) else (none)) = some (r1, r2) := by first | (rw [hji8] at H; exact H) | (simp only [hji8] at H ⊢; exact H)
   by_cases c9 : 0 ≤ (ji8)
   ·rw [if_pos c9] at H
    have c9b0 : decide (0 ≤ (ji8)) = true := decide_eq_true c9
    clear c9
    by_cases c10 : (ji8) < (s0_0.length : Int)
    ·rw [if_pos c10] at H
     have c10b0 : decide ((ji8) < (s0_0.length : Int)) = true := decide_eq_true c10
     clear c10
     by_cases c11 : a1 > 200
     ·rw [if_pos c11] at H
      have c11b0 : decide (200 < a1) = true := decide_eq_true c11
      clear c11
      obtain ⟨ji12, hji12⟩ : ∃ j_ : Int, (Int.tmod (wrap64 ((wrap64 ((wrap64 (s0_1 + 1)) - 1)) + 1)) (s0_0.length : Int)) = j_ := ⟨_, rfl⟩
      replace H : (if 0 ≤ (ji12) then (if (ji12) < (s0_0.length : Int) then (if a1 = 0 then (none) else (some (Int.tmod (wrap64 ((wrap64 ((wrap64 ((wrap64 ((wrap64 (rd s0_0 (ji8))) + (wrap64 ((wrap64 (Int.tdiv (wrap64 ((wrap64 (s0_1 + 1)) - 1)) (s0_0.length : Int))) * 37)))) * 251)) + (wrap64 ((wrap64 (rd s0_0 (ji12))) * 13)))) + (wrap64 ((wrap64 (s0_1 + 1)) - 1)))) a1, wrap64 (s0_1 + 1)))) else (none)) else (none)) = some (r1, r2) := by first | (rw [hji12] at H; exact H) | (simp only [hji12] at H ⊢; exact H)
      by_cases c13 : 0 ≤ (ji12)
      ·rw [if_pos c13] at H
       have c13b0 : decide (0 ≤ (ji12)) = true := decide_eq_true c13
       clear c13
       by_cases c14 : (ji12) < (s0_0.length : Int)
       ·rw [if_pos c14] at H
        have c14b0 : decide ((ji12) < (s0_0.length : Int)) = true := decide_eq_true c14
        clear c14
        by_cases c15 : a1 = 0
        ·rw [if_pos c15] at H
         exact absurd H (by simp)
        ·rw [if_neg c15] at H
         have c15b0 : (a1 == 0) = false := beq_eq_false_iff_ne.mpr c15
         have c15b1 : (a1 != 0) = true := bne_iff_ne.mpr c15
         simp only [Option.some.injEq, Prod.mk.injEq] at H
         obtain ⟨rfl, rfl⟩ := H
         obtain ⟨ASz16_0, cSz16_0, HGz16, hgz16, HSz16_0⟩ := HI0.out
         have hcz16_0 := cellS70_0 HGz16
         have hcz16_1 := cellS70_1 HGz16
         have hfz16_1 := blk_frozen HGz16 1
         clear HGz16 hgz16
         have p144 : 0 ≤ ((ji8) : Int) := of_decide_eq_true (by first | (with_reducible assumption) | assumption)
         have q144 : (ji8) < (s0_0.length : Int) := of_decide_eq_true (by first | (with_reducible assumption) | assumption)
         obtain ⟨ad144, e144, hx144_0⟩ := Kd.at_int HSz16_0 (ji8) p144 q144
         cases e144
         have hn144_0 : ad144.block ≠ g := Nat.ne_of_lt (Nat.lt_of_lt_of_le (by have := World.block_lt_of_cell? _ _ hx144_0; first | rwa [add_block] at this | exact this) (IsS70.ge HI0.out))
         replace hx144_0 := pw_cell_below HB.out hx144_0
         replace hx144_0 := (cell_far (p := ⟨g, 1, none⟩) (by first | (rw [add_block]; exact hn144_0) | (show (Addr.add _ _).block ≠ _; rw [add_block]; exact hn144_0) | exact hn144_0) (.int .i64 (wrap64 (s0_1 + 1)))).trans hx144_0
         (try have hy144_0 := fun (n_ : Nat) => (show (((w.drewN n_).setCell ⟨g, 1, none⟩ (.int .i64 (wrap64 (s0_1 + 1))))).cell? _ = some _ from hx144_0))
         clear hn144_0
         replace p144 := eq_true p144
         replace q144 := eq_true q144
         have p145 : 0 ≤ ((ji12) : Int) := of_decide_eq_true (by first | (with_reducible assumption) | assumption)
         have q145 : (ji12) < (s0_0.length : Int) := of_decide_eq_true (by first | (with_reducible assumption) | assumption)
         obtain ⟨ad145, e145, hx145_0⟩ := Kd.at_int HSz16_0 (ji12) p145 q145
         obtain rfl : ad144 = ad145 := (by injection e145)
         have hn145_0 : ad144.block ≠ g := Nat.ne_of_lt (Nat.lt_of_lt_of_le (by have := World.block_lt_of_cell? _ _ hx145_0; first | rwa [add_block] at this | exact this) (IsS70.ge HI0.out))
         replace hx145_0 := pw_cell_below HB.out hx145_0
         replace hx145_0 := (cell_far (p := ⟨g, 1, none⟩) (by first | (rw [add_block]; exact hn145_0) | (show (Addr.add _ _).block ≠ _; rw [add_block]; exact hn145_0) | exact hn145_0) (.int .i64 (wrap64 (s0_1 + 1)))).trans hx145_0
         (try have hy145_0 := fun (n_ : Nat) => (show (((w.drewN n_).setCell ⟨g, 1, none⟩ (.int .i64 (wrap64 (s0_1 + 1))))).cell? _ = some _ from hx145_0))
         clear hn145_0
         replace p145 := eq_true p145
         replace q145 := eq_true q145
         go_enter Try.func38, Try.ntmps38
         go_wp2
         repeat (go_quiet (fail); try go_wp2)
         go_ret
         exact ⟨by first | rfl | (simp [errW_none, errW_some] <;> rfl) | (simp only [← hji8, ← hji12]; first | rfl | (simp [errW_none, errW_some] <;> rfl)) | (simp [*, errW_none, errW_some] <;> rfl), by repeat (first | (with_reducible first | exact HI0.out | apply IsS70.alloc | apply IsS70.drewN | apply IsS70.drew | apply IsS70.set_1) | exact HI0.out), by repeat (first | (with_reducible first | exact HB.out | apply lA1_ | apply lN_ | apply lD_ | refine lS1_ ?_ (IsS70.ge HI0.out)) | exact HB.out), by repeat (first | (with_reducible first | exact HK.out | apply KeepBut.set_ | apply kN_ | apply kD_ | apply kA_) | exact HK.out)⟩
       ·rw [if_neg c14] at H
        exact absurd H (by simp)
      ·rw [if_neg c13] at H
       exact absurd H (by simp)
     ·rw [if_neg c11] at H
      have c11b0 : decide (200 < a1) = false := decide_eq_false c11
      clear c11
      by_cases c17 : a1 = 0
      ·rw [if_pos c17] at H
       exact absurd H (by simp)
      ·rw [if_neg c17] at H
       have c17b0 : (a1 == 0) = false := beq_eq_false_iff_ne.mpr c17
       have c17b1 : (a1 != 0) = true := bne_iff_ne.mpr c17
       simp only [Option.some.injEq, Prod.mk.injEq] at H
       obtain ⟨rfl, rfl⟩ := H
       obtain ⟨ASz18_0, cSz18_0, HGz18, hgz18, HSz18_0⟩ := HI0.out
       have hcz18_0 := cellS70_0 HGz18
       have hcz18_1 := cellS70_1 HGz18
       have hfz18_1 := blk_frozen HGz18 1
       clear HGz18 hgz18
       have p144 : 0 ≤ ((ji8) : Int) := of_decide_eq_true (by first | (with_reducible assumption) | assumption)
       have q144 : (ji8) < (s0_0.length : Int) := of_decide_eq_true (by first | (with_reducible assumption) | assumption)
       obtain ⟨ad144, e144, hx144_0⟩ := Kd.at_int HSz18_0 (ji8) p144 q144
       cases e144
       have hn144_0 : ad144.block ≠ g := Nat.ne_of_lt (Nat.lt_of_lt_of_le (by have := World.block_lt_of_cell? _ _ hx144_0; first | rwa [add_block] at this | exact this) (IsS70.ge HI0.out))
       replace hx144_0 := pw_cell_below HB.out hx144_0
       replace hx144_0 := (cell_far (p := ⟨g, 1, none⟩) (by first | (rw [add_block]; exact hn144_0) | (show (Addr.add _ _).block ≠ _; rw [add_block]; exact hn144_0) | exact hn144_0) (.int .i64 (wrap64 (s0_1 + 1)))).trans hx144_0
       (try have hy144_0 := fun (n_ : Nat) => (show (((w.drewN n_).setCell ⟨g, 1, none⟩ (.int .i64 (wrap64 (s0_1 + 1))))).cell? _ = some _ from hx144_0))
       clear hn144_0
       replace p144 := eq_true p144
       replace q144 := eq_true q144
       go_enter Try.func38, Try.ntmps38
       go_wp2
       repeat (go_quiet (fail); try go_wp2)
       go_ret
       exact ⟨by first | rfl | (simp [errW_none, errW_some] <;> rfl) | (simp only [← hji8]; first | rfl | (simp [errW_none, errW_some] <;> rfl)) | (simp [*, errW_none, errW_some] <;> rfl), by repeat (first | (with_reducible first | exact HI0.out | apply IsS70.alloc | apply IsS70.drewN | apply IsS70.drew | apply IsS70.set_1) | exact HI0.out), by repeat (first | (with_reducible first | exact HB.out | apply lA1_ | apply lN_ | apply lD_ | refine lS1_ ?_ (IsS70.ge HI0.out)) | exact HB.out), by repeat (first | (with_reducible first | exact HK.out | apply KeepBut.set_ | apply kN_ | apply kD_ | apply kA_) | exact HK.out)⟩
    ·rw [if_neg c10] at H
     exact absurd H (by simp)
   ·rw [if_neg c9] at H
    exact absurd H (by simp)
end Go.Proofs.Ytidejdfbapjfiaa.G
namespace Go.Proofs.Ytidejdfbapjfiaa.G
open Go.RowKit Go.Proofs.YtidejdfbapjfiaaW.PrintWords Go.Proofs.YtidejdfbapjfiaaW.PrintLast Go.Proofs.YtidejdfbapjfiaaW.PrintMore
attribute [local go_sem] max2_int min2_int max_two min_two max_three min_three max_four min_four   -- for this text's walks alone
set_option linter.unusedVariables false
set_option linter.unusedSimpArgs false
def spec_l1Chance.f (s0_0 : List Int) (s0_1 : Int) (a1 : Int) : Option (Bool × Int) := (spec_l1Next.f s0_0 s0_1 a1).bind fun bt164 => (some ((bt164.1 == 0), bt164.2))
set_option maxHeartbeats 8000000 in
set_option maxRecDepth 100000 in
theorem spec_l1Chance.calls (g : Nat) (s0_0 : List Int) (s0_1 : Int) (a1 : Int) (r1 : Bool) (r2 : Int) (w0 w : World) (hI : IsS70 w0 w g s0_0 s0_1) (hB : Below w0.heap.size w0 w) (h : spec_l1Chance.f s0_0 s0_1 a1 = some (r1, r2)) :
  Calls Try.prog 41 #[.pointer (some ⟨g, 0, none⟩), .int .i64 a1] w fun e w' => e = .returned (.bool r1) ∧ IsS70 w0 w' g s0_0 r2 ∧ Below w0.heap.size w0 w' ∧ KeepBut w w' g none := by
 have HI0 := Aside0.mk hI
 have HK := Aside0.mk (KeepBut.refl w g none)
 have HL := Aside0.mk hB.size
 clear hI
 have HW0 := Aside0.mk hB.size
 have HB := Aside0.mk hB
 clear hB
 have H : ((spec_l1Next.f s0_0 s0_1 a1).bind fun bt164 => (some ((bt164.1 == 0), bt164.2))) = some (r1, r2) := h
 clear h
 replace H := Option.bind_eq_some_iff.mp H
 obtain ⟨⟨t164, t165⟩, A30, H⟩ := H
 try dsimp only at H
 have A3 := Aside0.mk A30
 clear A30
 simp only [Option.some.injEq, Prod.mk.injEq] at H
 obtain ⟨rfl, rfl⟩ := H
 go_enter Try.func41, Try.ntmps41
 go_wp2_with (first | ((with_reducible refine gate_callee (f := 38) rfl ?_); refine goesA_ (some 7) rfl rfl Try.func38 (by kernel_rfl) rfl #[.pointer (some ⟨g, 0, none⟩), .int .i64 a1] rfl ?_; (with_reducible refine (spec_l1Next.calls g s0_0 s0_1 a1 t164 t165 w0 _ ?side1 ?side2 A3.out).mono ?_); (case side1 => repeat (first | (with_reducible first | exact HI0.out | apply IsS70.alloc | apply IsS70.drewN | apply IsS70.drew | apply IsS70.set_1) | exact HI0.out)); (case side2 => repeat (first | (with_reducible first | exact HB.out | apply lA1_ | apply lN_ | apply lD_ | refine lS1_ ?_ (IsS70.ge HI0.out)) | exact HB.out)); rintro e w4 ⟨rfl, hi, hb, hk⟩; refine ⟨_, rfl, ?_⟩; have n0_ := Aside0.mk (KeepBut.trans (by repeat (first | (with_reducible first | exact HK.out | apply KeepBut.set_ | apply kN_ | apply kD_ | apply kA_) | exact HK.out)) hk (.inl rfl)); have n1_ := Aside0.mk (hb); have n2_ := Aside0.mk (hi); clear HK HB HI0; have HK := n0_; have HB := n1_; have HI0 := n2_; clear n0_ n1_ n2_; (try clear hb); (try clear hb2); (try clear hk); (try clear hi)))
 go_ret
 exact ⟨by first | rfl | (simp [errW_none, errW_some] <;> rfl) | (simp [*, errW_none, errW_some] <;> rfl), by repeat (first | (with_reducible first | exact HI0.out | apply IsS70.alloc | apply IsS70.drewN | apply IsS70.drew | apply IsS70.set_1) | exact HI0.out), by repeat (first | (with_reducible first | exact HB.out | apply lA1_ | apply lN_ | apply lD_ | refine lS1_ ?_ (IsS70.ge HI0.out)) | exact HB.out), by repeat (first | (with_reducible first | exact HK.out | apply KeepBut.set_ | apply kN_ | apply kD_ | apply kA_) | exact HK.out)⟩
end Go.Proofs.Ytidejdfbapjfiaa.G
namespace Go.Proofs.Ytidejdfbapjfiaa.G
open Go.RowKit Go.Proofs.YtidejdfbapjfiaaW.PrintWords Go.Proofs.YtidejdfbapjfiaaW.PrintLast Go.Proofs.YtidejdfbapjfiaaW.PrintMore
attribute [local go_sem] max2_int min2_int max_two min_two max_three min_three max_four min_four   -- for this text's walks alone
set_option linter.unusedVariables false
set_option linter.unusedSimpArgs false
def spec_l1Pick.f (s0_0 : List Int) (s0_1 : Int) (l1 : List Int) : Option (Int × Int) := (spec_l1Next.f s0_0 s0_1 (l1.length : Int)).bind fun bt146 => (if 0 ≤ bt146.1 then (if bt146.1 < (l1.length : Int) then (some (rd l1 bt146.1, bt146.2)) else (none)) else (none))
set_option maxHeartbeats 8000000 in
set_option maxRecDepth 100000 in
theorem spec_l1Pick.calls (g : Nat) (s0_0 : List Int) (s0_1 : Int) (A1 : Option Addr) (c1 : Nat) (l1 : List Int) (r1 : Int) (r2 : Int) (w0 w : World) (hI : IsS70 w0 w g s0_0 s0_1) (hB : Below w0.heap.size w0 w) (hr1 : Kd.C (Kd.int .i64) w A1 l1.length l1) (hc1 : l1.length ≤ c1) (hf1 : ∀ ad, A1 = some ad → 0 < l1.length → ad.block ≠ g) (h : spec_l1Pick.f s0_0 s0_1 l1 = some (r1, r2)) :
  Calls Try.prog 40 #[.pointer (some ⟨g, 0, none⟩), .slice A1 l1.length c1] w fun e w' => e = .returned (.int .i64 r1) ∧ IsS70 w0 w' g s0_0 r2 ∧ Below w0.heap.size w0 w' ∧ KeepBut w w' g none := by
 have HR1 := Aside0.mk hr1
 have HC1 := Aside0.mk hc1
 clear hr1 hc1
 have HI0 := Aside0.mk hI
 have HK := Aside0.mk (KeepBut.refl w g none)
 have HL := Aside0.mk hB.size
 clear hI
 have HW0 := Aside0.mk hB.size
 have HB := Aside0.mk hB
 clear hB
 have H : ((spec_l1Next.f s0_0 s0_1 (l1.length : Int)).bind fun bt146 => (if 0 ≤ bt146.1 then (if bt146.1 < (l1.length : Int) then (some (rd l1 bt146.1, bt146.2)) else (none)) else (none))) = some (r1, r2) := h
 clear h
 replace H := Option.bind_eq_some_iff.mp H
 obtain ⟨⟨t146, t147⟩, A30, H⟩ := H
 try dsimp only at H
 have A3 := Aside0.mk A30
 clear A30
 by_cases c4 : 0 ≤ t146
 ·rw [if_pos c4] at H
  have c4b0 : decide (0 ≤ t146) = true := decide_eq_true c4
  clear c4
  by_cases c5 : t146 < (l1.length : Int)
  ·rw [if_pos c5] at H
   have c5b0 : decide (t146 < (l1.length : Int)) = true := decide_eq_true c5
   clear c5
   simp only [Option.some.injEq, Prod.mk.injEq] at H
   obtain ⟨rfl, rfl⟩ := H
   go_enter Try.func40, Try.ntmps40
   go_wp2_with (first | ((with_reducible refine gate_callee (f := 38) rfl ?_); refine goesA_ (some 9) rfl rfl Try.func38 (by kernel_rfl) rfl #[.pointer (some ⟨g, 0, none⟩), .int .i64 (l1.length : Int)] rfl ?_; (with_reducible refine (spec_l1Next.calls g s0_0 s0_1 (l1.length : Int) t146 t147 w0 _ ?side1 ?side2 A3.out).mono ?_); (case side1 => repeat (first | (with_reducible first | exact HI0.out | apply IsS70.alloc | apply IsS70.drewN | apply IsS70.drew | apply IsS70.set_1) | exact HI0.out)); (case side2 => repeat (first | (with_reducible first | exact HB.out | apply lA1_ | apply lN_ | apply lD_ | refine lS1_ ?_ (IsS70.ge HI0.out)) | exact HB.out)); rintro e w6 ⟨rfl, hi, hb, hk⟩; refine ⟨_, rfl, ?_⟩; have n0_ := Aside0.mk (KeepBut.trans (by repeat (first | (with_reducible first | exact HK.out | apply KeepBut.set_ | apply kN_ | apply kD_ | apply kA_) | exact HK.out)) hk (.inl rfl)); have n1_ := Aside0.mk (hb); have n2_ := Aside0.mk (hi); clear HK HB HI0; have HK := n0_; have HB := n1_; have HI0 := n2_; clear n0_ n1_ n2_; (try clear hb); (try clear hb2); (try clear hk); (try clear hi); have p148 : 0 ≤ (t146 : Int) := of_decide_eq_true (by first | (with_reducible assumption) | assumption); have q148 : t146 < (l1.length : Int) := of_decide_eq_true (by first | (with_reducible assumption) | assumption); obtain ⟨ad148, e148, hx148_0⟩ := Kd.at_int HR1.out t146 p148 q148; cases e148; replace hx148_0 := keep_cell HK.out hx148_0 (by first | (rw [add_block]; exact hf1 _ rfl (by omega)) | exact hf1 _ rfl (by omega) | exact hf1 ad148 rfl (by omega)); replace p148 := eq_true p148; replace q148 := eq_true q148))
   go_ret
   exact ⟨by first | rfl | (simp [errW_none, errW_some] <;> rfl) | (simp [*, errW_none, errW_some] <;> rfl), by repeat (first | (with_reducible first | exact HI0.out | apply IsS70.alloc | apply IsS70.drewN | apply IsS70.drew | apply IsS70.set_1) | exact HI0.out), by repeat (first | (with_reducible first | exact HB.out | apply lA1_ | apply lN_ | apply lD_ | refine lS1_ ?_ (IsS70.ge HI0.out)) | exact HB.out), by repeat (first | (with_reducible first | exact HK.out | apply KeepBut.set_ | apply kN_ | apply kD_ | apply kA_) | exact HK.out)⟩
  ·rw [if_neg c5] at H
   exact absurd H (by simp)
 ·rw [if_neg c4] at H
  exact absurd H (by simp)
end Go.Proofs.Ytidejdfbapjfiaa.G
namespace Go.Proofs.Ytidejdfbapjfiaa.G
open Go.RowKit Go.Proofs.YtidejdfbapjfiaaW.PrintWords Go.Proofs.YtidejdfbapjfiaaW.PrintLast Go.Proofs.YtidejdfbapjfiaaW.PrintMore
attribute [local go_sem] max2_int min2_int max_two min_two max_three min_three max_four min_four   -- for this text's walks alone
set_option linter.unusedVariables false
set_option linter.unusedSimpArgs false
def spec_l1Some.l0 : Nat → Int → List Int → List Int → Int → Option (List Int × Int)
 | 0, _, _, _, _ => none
 | k + 1, x1, x5, x1000, x1001 => if x1 > 0 then ((spec_l1Next.f x1000 x1001 256).bind fun bt152 => ((spec_l1Next.f x1000 bt152.2 256).bind fun bt154 => ((spec_l1Pick.f x1000 bt154.2 (([bt152.1, bt154.1, 0, 255] : List Int))).bind fun bt159 => (if x5.length < 140737488355328 then (spec_l1Some.l0 k (wrap64 (x1 - 1)) (x5 ++ [(bt159.1) % 256]) x1000 bt159.2) else (none))))) else (some (x5, x1001))
def spec_l1Some.f (k : Nat) (s0_0 : List Int) (s0_1 : Int) (a1 : Int) : Option (List Int × Int) := spec_l1Some.l0 k a1 (([] : List Int)) s0_0 s0_1
set_option maxHeartbeats 8000000 in
set_option maxRecDepth 100000 in
theorem spec_l1Some.calls (k : Nat) (g : Nat) (s0_0 : List Int) (s0_1 : Int) (a1 : Int) (r1 : List Int) (r2 : Int) (w0 w : World) (hI : IsS70 w0 w g s0_0 s0_1) (hB : Below w0.heap.size w0 w) (h : spec_l1Some.f k s0_0 s0_1 a1 = some (r1, r2)) :
  Calls Try.prog 39 #[.pointer (some ⟨g, 0, none⟩), .int .i64 a1] w fun e w' => ∃ v0_ : Value, e = .returned (v0_) ∧ Kd.R (Kd.int .u8) 5 w' w.heap.size (fun _ => True) v0_ r1 ∧ IsS70 w0 w' g s0_0 r2 ∧ Below w0.heap.size w0 w' ∧ KeepBut w w' g none := by
 have HI0 := Aside0.mk hI
 have HK := Aside0.mk (KeepBut.refl w g none)
 have HL := Aside0.mk hB.size
 clear hI
 have HW0 := Aside0.mk hB.size
 have HB := Aside0.mk hB
 clear hB
 have H : (spec_l1Some.l0 k a1 (([] : List Int)) s0_0 s0_1) = some (r1, r2) := h
 clear h
 obtain ⟨y149, hy149⟩ : ∃ y_ : List Int, y_ = (([] : List Int)) := ⟨_, rfl⟩
 replace H : (spec_l1Some.l0 k a1 y149 s0_0 s0_1) = some (r1, r2) := by first | (rw [hy149]; with_reducible exact H) | (have H2_ := (Option.bind_some _ _).symm.trans H; rw [hy149]; with_reducible exact H2_) | (have H2_ := (Option.bind_some _ _).symm.trans H; with_reducible exact H2_) | with_reducible exact H | (rw [hy149]; exact H) | exact H
 have a3 := Aside0.mk hy149
 clear hy149
 have H' := Aside0.mk H
 clear H
 go_enter Try.func39, Try.ntmps39
 go_wp2_with (first | ((with_reducible refine gate_dst (N := 6) rfl ?_); refine Kd.R_lit (Kd.int .u8) _ 5 ?hg (N := 6) ?hd (xs := ([] : List Int)) (inner := []) (ok := fun _ => True) (okp := fun _ => True) ?hr ?hp (fun _ hk => hk) trivial (Below.refl _ _) (Nat.le_refl _) (by simp) ?_; (case hd => rfl); (case hg => rfl); (case hr => first | (go_simp; done) | (go_simp; rfl)); (case hp => exact (Reps.none _ _)); intro v150 w3 ho4 hb hg_ hnew_; clear hg_ hnew_; (first | rw [← a3.out] at ho4 | (simp only [Int.reduceToNat] at ho4; rw [← a3.out] at ho4)); have n0_ := Aside0.mk (Kd.R_lower ho4 (keep_size (w := w) (g := g) (row := none) (by repeat (first | (with_reducible first | exact HK.out | apply KeepBut.set_ | apply kN_ | apply kD_ | apply kA_) | exact HK.out)))); have n1_ := Aside0.mk (IsS70.below (by repeat (first | (with_reducible first | exact HI0.out | apply IsS70.alloc | apply IsS70.drewN | apply IsS70.drew | apply IsS70.set_1) | exact HI0.out)) hb); have n2_ := Aside0.mk (KeepBut.trans (by repeat (first | (with_reducible first | exact HK.out | apply KeepBut.set_ | apply kN_ | apply kD_ | apply kA_) | exact HK.out)) (KeepBut.of_below hb g none) (.inl rfl)); have n3_ := Aside0.mk (lP_ (by repeat (first | (with_reducible first | exact HB.out | apply lA1_ | apply lN_ | apply lD_ | refine lS1_ ?_ (IsS70.ge HI0.out)) | exact HB.out)) hb); clear HI0 HK HB; have a5 := n0_; have HI0 := n1_; have HK := n2_; have HB := n3_; clear n0_ n1_ n2_ n3_ hb ho4))
 go_loopg [1, 5] k (fun kq v1 v5 w' => ∃ (x1_1 : Int) (x5_1 : List Int) (x1001_1 : Int), v1 = .int .i64 x1_1 ∧ Aside0 (spec_l1Some.l0 kq x1_1 x5_1 s0_0 x1001_1 = some (r1, r2)) ∧ Aside0 (kq ≤ k) ∧ Aside0 (Kd.R (Kd.int .u8) 5 w' w.heap.size (fun _ => True) v5 x5_1) ∧ Aside0 (IsS70 w0 w' g s0_0 x1001_1) ∧ Aside0 (KeepBut w w' g none) ∧ Aside0 (Below w0.heap.size w0 w'))
 case atStart => exact ⟨(a1), (y149), (s0_1), (by first | rfl | (simp; done) | (simp [*]; done)), H', ⟨Nat.le_refl _⟩, ⟨by (with_reducible repeat first | apply rA_ | apply rN_ | apply rD_); exact a5.out⟩, ⟨by repeat (first | (with_reducible first | exact HI0.out | apply IsS70.alloc | apply IsS70.drewN | apply IsS70.drew | apply IsS70.set_1) | exact HI0.out)⟩, ⟨by repeat (first | (with_reducible first | exact HK.out | apply KeepBut.set_ | apply kN_ | apply kD_ | apply kA_) | exact HK.out)⟩, ⟨by repeat (first | (with_reducible first | exact HB.out | apply lA1_ | apply lN_ | apply lD_ | refine lS1_ ?_ (IsS70.ge HI0.out)) | exact HB.out)⟩⟩
 case round =>
  clear H'
  try clear p2
  try clear c3
  obtain ⟨x1_1, x5_1, x1001_1, rfl, HA, HK1, a0, HI0, HK, HB⟩ := hrel
  cases gk with
  | zero => exact absurd HA.out (by simp [spec_l1Some.l0])
  | succ k1 =>
   have H := HA.out
   clear HA
   simp only [spec_l1Some.l0] at H
   by_cases c5 : x1_1 > 0
   ·rw [if_pos c5] at H
    have c5b0 : decide (0 < x1_1) = true := decide_eq_true c5
    clear c5
    replace H := Option.bind_eq_some_iff.mp H
    obtain ⟨⟨t152, t153⟩, a8, H⟩ := H
    try dsimp only at H
    have A6 := Aside0.mk a8
    clear a8
    replace H := Option.bind_eq_some_iff.mp H
    obtain ⟨⟨t154, t155⟩, a9, H⟩ := H
    try dsimp only at H
    have A7 := Aside0.mk a9
    clear a9
    obtain ⟨y156, hy156⟩ : ∃ y_ : List Int, y_ = (([t152, t154, 0, 255] : List Int)) := ⟨_, rfl⟩
    replace H : ((spec_l1Pick.f s0_0 t155 y156).bind fun bt159 => (if x5_1.length < 140737488355328 then (spec_l1Some.l0 k1 (wrap64 (x1_1 - 1)) (x5_1 ++ [(bt159.1) % 256]) s0_0 bt159.2) else (none))) = some (r1, r2) := by first | (rw [hy156]; with_reducible exact H) | (have H2_ := (Option.bind_some _ _).symm.trans H; rw [hy156]; with_reducible exact H2_) | (have H2_ := (Option.bind_some _ _).symm.trans H; with_reducible exact H2_) | with_reducible exact H | (rw [hy156]; exact H) | exact H
    have a4 := Aside0.mk hy156
    clear hy156
    replace H := Option.bind_eq_some_iff.mp H
    obtain ⟨⟨t159, t160⟩, aa, H⟩ := H
    try dsimp only at H
    have A8 := Aside0.mk aa
    clear aa
    by_cases c9 : x5_1.length < 140737488355328
    ·rw [if_pos c9] at H
     have ab := Aside0.mk c9
     clear c9
     obtain ⟨y161, hy161⟩ : ∃ y_ : List Int, y_ = (x5_1 ++ [(t159) % 256]) := ⟨_, rfl⟩
     replace H : (spec_l1Some.l0 k1 (wrap64 (x1_1 - 1)) y161 s0_0 t160) = some (r1, r2) := by first | (rw [hy161]; with_reducible exact H) | (have H2_ := (Option.bind_some _ _).symm.trans H; rw [hy161]; with_reducible exact H2_) | (have H2_ := (Option.bind_some _ _).symm.trans H; with_reducible exact H2_) | with_reducible exact H | (rw [hy161]; exact H) | exact H
     have a6 := Aside0.mk hy161
     clear hy161
     have H' := Aside0.mk H
     clear H
     go_wp2_with (first | ((with_reducible refine gate_callee (f := 38) rfl ?_); refine goesA_ (some 14) rfl rfl Try.func38 (by kernel_rfl) rfl #[.pointer (some ⟨g, 0, none⟩), .int .i64 256] rfl ?_; (with_reducible refine (spec_l1Next.calls g s0_0 x1001_1 256 t152 t153 w0 _ ?side1 ?side2 A6.out).mono ?_); (case side1 => repeat (first | (with_reducible first | exact HI0.out | apply IsS70.alloc | apply IsS70.drewN | apply IsS70.drew | apply IsS70.set_1) | exact HI0.out)); (case side2 => repeat (first | (with_reducible first | exact HB.out | apply lA1_ | apply lN_ | apply lD_ | refine lS1_ ?_ (IsS70.ge HI0.out)) | exact HB.out)); rintro e w10 ⟨rfl, hi, hb, hk⟩; refine ⟨_, rfl, ?_⟩; have n0_ := Aside0.mk (Kd.R_mono (Kd.R_keep (IsS70.apart (show IsS70 w0 _ g s0_0 x1001_1 from by repeat (first | (with_reducible first | exact HI0.out | apply IsS70.alloc | apply IsS70.drewN | apply IsS70.drew | apply IsS70.set_1) | exact HI0.out)) (by (with_reducible repeat first | apply rA_ | apply rN_ | apply rD_); exact a0.out) (by decide)) hk (fun _ h => h.2)) (fun _ h => h.1)); have n1_ := Aside0.mk (KeepBut.trans (by repeat (first | (with_reducible first | exact HK.out | apply KeepBut.set_ | apply kN_ | apply kD_ | apply kA_) | exact HK.out)) hk (.inl rfl)); have n2_ := Aside0.mk (hb); have n3_ := Aside0.mk (hi); clear a0 HK HB HI0; have a0 := n0_; have HK := n1_; have HB := n2_; have HI0 := n3_; clear n0_ n1_ n2_ n3_; (try clear hb); (try clear hb2); (try clear hk); (try clear hi)) | ((with_reducible refine gate_callee (f := 38) rfl ?_); refine goesA_ (some 16) rfl rfl Try.func38 (by kernel_rfl) rfl #[.pointer (some ⟨g, 0, none⟩), .int .i64 256] rfl ?_; (with_reducible refine (spec_l1Next.calls g s0_0 t153 256 t154 t155 w0 _ ?side1 ?side2 A7.out).mono ?_); (case side1 => repeat (first | (with_reducible first | exact HI0.out | apply IsS70.alloc | apply IsS70.drewN | apply IsS70.drew | apply IsS70.set_1) | exact HI0.out)); (case side2 => repeat (first | (with_reducible first | exact HB.out | apply lA1_ | apply lN_ | apply lD_ | refine lS1_ ?_ (IsS70.ge HI0.out)) | exact HB.out)); rintro e w11 ⟨rfl, hi, hb, hk⟩; refine ⟨_, rfl, ?_⟩; have n0_ := Aside0.mk (Kd.R_mono (Kd.R_keep (IsS70.apart (show IsS70 w0 _ g s0_0 t153 from by repeat (first | (with_reducible first | exact HI0.out | apply IsS70.alloc | apply IsS70.drewN | apply IsS70.drew | apply IsS70.set_1) | exact HI0.out)) (by (with_reducible repeat first | apply rA_ | apply rN_ | apply rD_); exact a0.out) (by decide)) hk (fun _ h => h.2)) (fun _ h => h.1)); have n1_ := Aside0.mk (KeepBut.trans (by repeat (first | (with_reducible first | exact HK.out | apply KeepBut.set_ | apply kN_ | apply kD_ | apply kA_) | exact HK.out)) hk (.inl rfl)); have n2_ := Aside0.mk (hb); have n3_ := Aside0.mk (hi); clear a0 HK HB HI0; have a0 := n0_; have HK := n1_; have HB := n2_; have HI0 := n3_; clear n0_ n1_ n2_ n3_; (try clear hb); (try clear hb2); (try clear hk); (try clear hi)) | ((with_reducible refine gate_dst (N := 17) rfl ?_); refine Kd.R_lit (Kd.int .i64) _ 2 ?hg (N := 17) ?hd (xs := ([t152, t154, 0, 255] : List Int)) (inner := [.int .i64 t152, .int .i64 t154, .int .i64 0, .int .i64 255]) (ok := fun _ => True) (okp := fun _ => True) ?hr ?hp (fun _ hk => hk) trivial (Below.refl _ _) (Nat.le_refl _) (by simp) ?_; (case hd => rfl); (case hg => rfl); (case hr => first | (go_simp; done) | (go_simp; rfl)); (case hp => exact (Reps.one (show Kd.M (Kd.int .i64) _ _ _ t152 [.int .i64 t152] from rfl) (Reps.one (show Kd.M (Kd.int .i64) _ _ _ t154 [.int .i64 t154] from rfl) (Reps.one (show Kd.M (Kd.int .i64) _ _ _ 0 [.int .i64 0] from rfl) (Reps.one (show Kd.M (Kd.int .i64) _ _ _ 255 [.int .i64 255] from rfl) (Reps.none _ _)))))); intro v157 w12 ho13 hb hg_ hnew_; clear hg_ hnew_; (first | rw [← a4.out] at ho13 | (simp only [Int.reduceToNat] at ho13; rw [← a4.out] at ho13)); have n0_ := Aside0.mk (Kd.R_below (by (with_reducible repeat first | apply rA_ | apply rN_ | apply rD_); exact a0.out) hb); have n1_ := Aside0.mk (Kd.R_lower ho13 (keep_size (w := w) (g := g) (row := none) (by repeat (first | (with_reducible first | exact HK.out | apply KeepBut.set_ | apply kN_ | apply kD_ | apply kA_) | exact HK.out)))); have n2_ := Aside0.mk (IsS70.below (by repeat (first | (with_reducible first | exact HI0.out | apply IsS70.alloc | apply IsS70.drewN | apply IsS70.drew | apply IsS70.set_1) | exact HI0.out)) hb); have n3_ := Aside0.mk (KeepBut.trans (by repeat (first | (with_reducible first | exact HK.out | apply KeepBut.set_ | apply kN_ | apply kD_ | apply kA_) | exact HK.out)) (KeepBut.of_below hb g none) (.inl rfl)); have n4_ := Aside0.mk (lP_ (by repeat (first | (with_reducible first | exact HB.out | apply lA1_ | apply lN_ | apply lD_ | refine lS1_ ?_ (IsS70.ge HI0.out)) | exact HB.out)) hb); clear a0 HI0 HK HB; have a0 := n0_; have a2 := n1_; have HI0 := n2_; have HK := n3_; have HB := n4_; clear n0_ n1_ n2_ n3_ n4_ hb ho13; obtain ⟨ac, ad, eo14⟩ := Kd.R_slice a2.out; subst eo14) | ((with_reducible refine gate_callee (f := 40) rfl ?_); refine goesA_ (some 18) rfl rfl Try.func40 (by kernel_rfl) rfl #[.pointer (some ⟨g, 0, none⟩), .slice ac y156.length ad] rfl ?_; (with_reducible refine (spec_l1Pick.calls g s0_0 t155 _ _ y156 t159 t160 w0 _ ?side1 ?side2 ?side3 ?side4 ?side5 A8.out).mono ?_); (case side1 => repeat (first | (with_reducible first | exact HI0.out | apply IsS70.alloc | apply IsS70.drewN | apply IsS70.drew | apply IsS70.set_1) | exact HI0.out)); (case side2 => repeat (first | (with_reducible first | exact HB.out | apply lA1_ | apply lN_ | apply lD_ | refine lS1_ ?_ (IsS70.ge HI0.out)) | exact HB.out)); (case side3 => repeat (first | exact (Kd.R_reads' a2.out).2.2 | (with_reducible refine Kd.C_alloc ?_ _) | (with_reducible refine Kd.C_drewN ?_ _) | (with_reducible refine Kd.C_drew ?_))); (case side4 => exact (Kd.R_reads' a2.out).2.1); (case side5 => exact far_slice (IsS70.own_ne HI0.out a2.out (by decide))); rintro e w15 ⟨rfl, hi, hb, hk⟩; refine ⟨_, rfl, ?_⟩; have n0_ := Aside0.mk (Kd.R_mono (Kd.R_keep (IsS70.apart (show IsS70 w0 _ g s0_0 t155 from by repeat (first | (with_reducible first | exact HI0.out | apply IsS70.alloc | apply IsS70.drewN | apply IsS70.drew | apply IsS70.set_1) | exact HI0.out)) (by (with_reducible repeat first | apply rA_ | apply rN_ | apply rD_); exact a0.out) (by decide)) hk (fun _ h => h.2)) (fun _ h => h.1)); have n2_ := Aside0.mk (KeepBut.trans (by repeat (first | (with_reducible first | exact HK.out | apply KeepBut.set_ | apply kN_ | apply kD_ | apply kA_) | exact HK.out)) hk (.inl rfl)); have n3_ := Aside0.mk (hb); have n4_ := Aside0.mk (hi); clear a0 HK HB HI0; have a0 := n0_; have HK := n2_; have HB := n3_; have HI0 := n4_; clear n0_ n2_ n3_ n4_; (try clear hb); (try clear hb2); (try clear hk); (try clear hi)) | ((with_reducible refine gate_builtin (b := .append) (xs := #[.tmp 11, .tmp 20]) rfl ?_); at_builtin; refine Kd.R_append (Kd.int .u8) w.heap.size rfl (.tmp 11) (.tmp 20) 22 5 (.int .u8 0) 1 rfl Try.underlying22 info5 rfl (by decide) (by omega) u5 x5_1 ((t159) % 256) [.int .u8 ((t159) % 256)] (fun _ => True) (fun _ => False) rfl rfl ?aP (fun _ hk => hk.elim) ?aF ?aO (Below.refl _ _) ?aS ?aL ?_; (case aP => exact rfl); (case aF => exact (fun _ _ => trivial)); (case aO => exact (by (with_reducible repeat first | apply rA_ | apply rN_ | apply rD_); exact a0.out)); (case aS => exact (keep_size (w := w) (g := g) (row := none) (by repeat (first | (with_reducible first | exact HK.out | apply KeepBut.set_ | apply kN_ | apply kD_ | apply kA_) | exact HK.out)))); (case aL => have := ab.out; omega); intro v162 w16 ho hb hg hat; rw [← a6.out] at ho; have n0_ := Aside0.mk (IsS70.grown (by repeat (first | (with_reducible first | exact HI0.out | apply IsS70.alloc | apply IsS70.drewN | apply IsS70.drew | apply IsS70.set_1) | exact HI0.out)) hg (IsS70.own_ne HI0.out a0.out (by decide))); have n2_ := Aside0.mk (below_weaken (by repeat (first | (with_reducible first | exact HB.out | apply lA1_ | apply lN_ | apply lD_ | refine lS1_ ?_ (IsS70.ge HI0.out)) | exact HB.out)) HL.out hb); have n3_ := Aside0.mk (KeepBut.trans (by repeat (first | (with_reducible first | exact HK.out | apply KeepBut.set_ | apply kN_ | apply kD_ | apply kA_) | exact HK.out)) (KeepBut.of_grown hg g) (Kd.R_base2 a0.out)); have n4_ := Aside0.mk (ho); clear HI0 HB HK a0; have HI0 := n0_; have HB := n2_; have HK := n3_; have a7 := n4_; clear n0_ n2_ n3_ n4_ ho hb hg hat))
     go_roundg k1
     case measure => have := HK1.out; omega
     case rel => exact ⟨(wrap64 (x1_1 - 1)), (y161), (t160), (by first | rfl | (simp; done) | (simp [*]; done)), H', ⟨by have := HK1.out; omega⟩, ⟨by (with_reducible repeat first | apply rA_ | apply rN_ | apply rD_); exact a7.out⟩, ⟨by repeat (first | (with_reducible first | exact HI0.out | apply IsS70.alloc | apply IsS70.drewN | apply IsS70.drew | apply IsS70.set_1) | exact HI0.out)⟩, ⟨by repeat (first | (with_reducible first | exact HK.out | apply KeepBut.set_ | apply kN_ | apply kD_ | apply kA_) | exact HK.out)⟩, ⟨by repeat (first | (with_reducible first | exact HB.out | apply lA1_ | apply lN_ | apply lD_ | refine lS1_ ?_ (IsS70.ge HI0.out)) | exact HB.out)⟩⟩
    ·rw [if_neg c9] at H
     exact absurd H (by simp)
   ·rw [if_neg c5] at H
    have c5b0 : decide (0 < x1_1) = false := decide_eq_false c5
    clear c5
    simp only [Option.some.injEq, Prod.mk.injEq] at H
    obtain ⟨rfl, rfl⟩ := H
    go_wp2
    go_ret
    exact ⟨_, by first | rfl | (simp [errW_none, errW_some] <;> rfl) | (simp [*, errW_none, errW_some] <;> rfl), by (with_reducible repeat first | apply rA_ | apply rN_ | apply rD_); exact a0.out, by repeat (first | (with_reducible first | exact HI0.out | apply IsS70.alloc | apply IsS70.drewN | apply IsS70.drew | apply IsS70.set_1) | exact HI0.out), by repeat (first | (with_reducible first | exact HB.out | apply lA1_ | apply lN_ | apply lD_ | refine lS1_ ?_ (IsS70.ge HI0.out)) | exact HB.out), by repeat (first | (with_reducible first | exact HK.out | apply KeepBut.set_ | apply kN_ | apply kD_ | apply kA_) | exact HK.out)⟩
end Go.Proofs.Ytidejdfbapjfiaa.G
namespace Go.Proofs.Ytidejdfbapjfiaa.G
open Go.RowKit Go.Proofs.YtidejdfbapjfiaaW.PrintWords Go.Proofs.YtidejdfbapjfiaaW.PrintLast Go.Proofs.YtidejdfbapjfiaaW.PrintMore
attribute [local go_sem] max2_int min2_int max_two min_two max_three min_three max_four min_four   -- for this text's walks alone
set_option linter.unusedVariables false
set_option linter.unusedSimpArgs false
def spec_l2DrawAddress.f (s0_0 : List Int) (s0_1 : Int) : Option (Int × Int) := (spec_l1Next.f s0_0 s0_1 6).bind fun bt744 => ((spec_l1Next.f s0_0 bt744.2 6).bind fun bt746 => ((spec_l1Next.f s0_0 bt746.2 4).bind fun bt748 => ((spec_l1Pick.f s0_0 bt748.2 (([wrap64 (167772160 + bt744.1), wrap64 (167772160 + bt746.1), wrap64 (167838000 + bt748.1), 0, 4294967295] : List Int))).bind fun bt753 => (some (bt753.1, bt753.2)))))
set_option maxHeartbeats 8000000 in
set_option maxRecDepth 100000 in
theorem spec_l2DrawAddress.calls (g : Nat) (s0_0 : List Int) (s0_1 : Int) (r1 : Int) (r2 : Int) (w0 w : World) (hI : IsS70 w0 w g s0_0 s0_1) (hB : Below w0.heap.size w0 w) (h : spec_l2DrawAddress.f s0_0 s0_1 = some (r1, r2)) :
  Calls Try.prog 78 #[.pointer (some ⟨g, 0, none⟩)] w fun e w' => e = .returned (.int .i64 r1) ∧ IsS70 w0 w' g s0_0 r2 ∧ Below w0.heap.size w0 w' ∧ KeepBut w w' g none := by
 have HI0 := Aside0.mk hI
 have HK := Aside0.mk (KeepBut.refl w g none)
 have HL := Aside0.mk hB.size
 clear hI
 have HW0 := Aside0.mk hB.size
 have HB := Aside0.mk hB
 clear hB
 have H : ((spec_l1Next.f s0_0 s0_1 6).bind fun bt744 => ((spec_l1Next.f s0_0 bt744.2 6).bind fun bt746 => ((spec_l1Next.f s0_0 bt746.2 4).bind fun bt748 => ((spec_l1Pick.f s0_0 bt748.2 (([wrap64 (167772160 + bt744.1), wrap64 (167772160 + bt746.1), wrap64 (167838000 + bt748.1), 0, 4294967295] : List Int))).bind fun bt753 => (some (bt753.1, bt753.2)))))) = some (r1, r2) := h
 clear h
 replace H := Option.bind_eq_some_iff.mp H
 obtain ⟨⟨t744, t745⟩, a2, H⟩ := H
 try dsimp only at H
 have A2 := Aside0.mk a2
 clear a2
 replace H := Option.bind_eq_some_iff.mp H
 obtain ⟨⟨t746, t747⟩, a3, H⟩ := H
 try dsimp only at H
 have A3 := Aside0.mk a3
 clear a3
 replace H := Option.bind_eq_some_iff.mp H
 obtain ⟨⟨t748, t749⟩, a4, H⟩ := H
 try dsimp only at H
 have A4 := Aside0.mk a4
 clear a4
 obtain ⟨y750, hy750⟩ : ∃ y_ : List Int, y_ = (([wrap64 (167772160 + t744), wrap64 (167772160 + t746), wrap64 (167838000 + t748), 0, 4294967295] : List Int)) := ⟨_, rfl⟩
 replace H : ((spec_l1Pick.f s0_0 t749 y750).bind fun bt753 => (some (bt753.1, bt753.2))) = some (r1, r2) := by first | (rw [hy750]; with_reducible exact H) | (have H2_ := (Option.bind_some _ _).symm.trans H; rw [hy750]; with_reducible exact H2_) | (have H2_ := (Option.bind_some _ _).symm.trans H; with_reducible exact H2_) | with_reducible exact H | (rw [hy750]; exact H) | exact H
 have a1 := Aside0.mk hy750
 clear hy750
 replace H := Option.bind_eq_some_iff.mp H
 obtain ⟨⟨t753, t754⟩, a5, H⟩ := H
 try dsimp only at H
 have A5 := Aside0.mk a5
 clear a5
 simp only [Option.some.injEq, Prod.mk.injEq] at H
 obtain ⟨rfl, rfl⟩ := H
 go_enter Try.func78, Try.ntmps78
 go_wp2_with (first | ((with_reducible refine gate_callee (f := 38) rfl ?_); refine goesA_ (some 5) rfl rfl Try.func38 (by kernel_rfl) rfl #[.pointer (some ⟨g, 0, none⟩), .int .i64 6] rfl ?_; (with_reducible refine (spec_l1Next.calls g s0_0 s0_1 6 t744 t745 w0 _ ?side1 ?side2 A2.out).mono ?_); (case side1 => repeat (first | (with_reducible first | exact HI0.out | apply IsS70.alloc | apply IsS70.drewN | apply IsS70.drew | apply IsS70.set_1) | exact HI0.out)); (case side2 => repeat (first | (with_reducible first | exact HB.out | apply lA1_ | apply lN_ | apply lD_ | refine lS1_ ?_ (IsS70.ge HI0.out)) | exact HB.out)); rintro e w6 ⟨rfl, hi, hb, hk⟩; refine ⟨_, rfl, ?_⟩; have n0_ := Aside0.mk (KeepBut.trans (by repeat (first | (with_reducible first | exact HK.out | apply KeepBut.set_ | apply kN_ | apply kD_ | apply kA_) | exact HK.out)) hk (.inl rfl)); have n1_ := Aside0.mk (hb); have n2_ := Aside0.mk (hi); clear HK HB HI0; have HK := n0_; have HB := n1_; have HI0 := n2_; clear n0_ n1_ n2_; (try clear hb); (try clear hb2); (try clear hk); (try clear hi)) | ((with_reducible refine gate_callee (f := 38) rfl ?_); refine goesA_ (some 8) rfl rfl Try.func38 (by kernel_rfl) rfl #[.pointer (some ⟨g, 0, none⟩), .int .i64 6] rfl ?_; (with_reducible refine (spec_l1Next.calls g s0_0 t745 6 t746 t747 w0 _ ?side1 ?side2 A3.out).mono ?_); (case side1 => repeat (first | (with_reducible first | exact HI0.out | apply IsS70.alloc | apply IsS70.drewN | apply IsS70.drew | apply IsS70.set_1) | exact HI0.out)); (case side2 => repeat (first | (with_reducible first | exact HB.out | apply lA1_ | apply lN_ | apply lD_ | refine lS1_ ?_ (IsS70.ge HI0.out)) | exact HB.out)); rintro e w7 ⟨rfl, hi, hb, hk⟩; refine ⟨_, rfl, ?_⟩; have n0_ := Aside0.mk (KeepBut.trans (by repeat (first | (with_reducible first | exact HK.out | apply KeepBut.set_ | apply kN_ | apply kD_ | apply kA_) | exact HK.out)) hk (.inl rfl)); have n1_ := Aside0.mk (hb); have n2_ := Aside0.mk (hi); clear HK HB HI0; have HK := n0_; have HB := n1_; have HI0 := n2_; clear n0_ n1_ n2_; (try clear hb); (try clear hb2); (try clear hk); (try clear hi)) | ((with_reducible refine gate_callee (f := 38) rfl ?_); refine goesA_ (some 11) rfl rfl Try.func38 (by kernel_rfl) rfl #[.pointer (some ⟨g, 0, none⟩), .int .i64 4] rfl ?_; (with_reducible refine (spec_l1Next.calls g s0_0 t747 4 t748 t749 w0 _ ?side1 ?side2 A4.out).mono ?_); (case side1 => repeat (first | (with_reducible first | exact HI0.out | apply IsS70.alloc | apply IsS70.drewN | apply IsS70.drew | apply IsS70.set_1) | exact HI0.out)); (case side2 => repeat (first | (with_reducible first | exact HB.out | apply lA1_ | apply lN_ | apply lD_ | refine lS1_ ?_ (IsS70.ge HI0.out)) | exact HB.out)); rintro e w8 ⟨rfl, hi, hb, hk⟩; refine ⟨_, rfl, ?_⟩; have n0_ := Aside0.mk (KeepBut.trans (by repeat (first | (with_reducible first | exact HK.out | apply KeepBut.set_ | apply kN_ | apply kD_ | apply kA_) | exact HK.out)) hk (.inl rfl)); have n1_ := Aside0.mk (hb); have n2_ := Aside0.mk (hi); clear HK HB HI0; have HK := n0_; have HB := n1_; have HI0 := n2_; clear n0_ n1_ n2_; (try clear hb); (try clear hb2); (try clear hk); (try clear hi)) | ((with_reducible refine gate_dst (N := 13) rfl ?_); refine Kd.R_lit (Kd.int .i64) _ 2 ?hg (N := 13) ?hd (xs := ([wrap64 (167772160 + t744), wrap64 (167772160 + t746), wrap64 (167838000 + t748), 0, 4294967295] : List Int)) (inner := [.int .i64 (wrap64 (167772160 + t744)), .int .i64 (wrap64 (167772160 + t746)), .int .i64 (wrap64 (167838000 + t748)), .int .i64 0, .int .i64 4294967295]) (ok := fun _ => True) (okp := fun _ => True) ?hr ?hp (fun _ hk => hk) trivial (Below.refl _ _) (Nat.le_refl _) (by simp) ?_; (case hd => rfl); (case hg => rfl); (case hr => first | (go_simp; done) | (go_simp; rfl)); (case hp => exact (Reps.one (show Kd.M (Kd.int .i64) _ _ _ (wrap64 (167772160 + t744)) [.int .i64 (wrap64 (167772160 + t744))] from rfl) (Reps.one (show Kd.M (Kd.int .i64) _ _ _ (wrap64 (167772160 + t746)) [.int .i64 (wrap64 (167772160 + t746))] from rfl) (Reps.one (show Kd.M (Kd.int .i64) _ _ _ (wrap64 (167838000 + t748)) [.int .i64 (wrap64 (167838000 + t748))] from rfl) (Reps.one (show Kd.M (Kd.int .i64) _ _ _ 0 [.int .i64 0] from rfl) (Reps.one (show Kd.M (Kd.int .i64) _ _ _ 4294967295 [.int .i64 4294967295] from rfl) (Reps.none _ _))))))); intro v751 w9 ho10 hb hg_ hnew_; clear hg_ hnew_; (first | rw [← a1.out] at ho10 | (simp only [Int.reduceToNat] at ho10; rw [← a1.out] at ho10)); have n0_ := Aside0.mk (Kd.R_lower ho10 (keep_size (w := w) (g := g) (row := none) (by repeat (first | (with_reducible first | exact HK.out | apply KeepBut.set_ | apply kN_ | apply kD_ | apply kA_) | exact HK.out)))); have n1_ := Aside0.mk (IsS70.below (by repeat (first | (with_reducible first | exact HI0.out | apply IsS70.alloc | apply IsS70.drewN | apply IsS70.drew | apply IsS70.set_1) | exact HI0.out)) hb); have n2_ := Aside0.mk (KeepBut.trans (by repeat (first | (with_reducible first | exact HK.out | apply KeepBut.set_ | apply kN_ | apply kD_ | apply kA_) | exact HK.out)) (KeepBut.of_below hb g none) (.inl rfl)); have n3_ := Aside0.mk (lP_ (by repeat (first | (with_reducible first | exact HB.out | apply lA1_ | apply lN_ | apply lD_ | refine lS1_ ?_ (IsS70.ge HI0.out)) | exact HB.out)) hb); clear HI0 HK HB; have a0 := n0_; have HI0 := n1_; have HK := n2_; have HB := n3_; clear n0_ n1_ n2_ n3_ hb ho10; obtain ⟨a6, a7, eo11⟩ := Kd.R_slice a0.out; subst eo11) | ((with_reducible refine gate_callee (f := 40) rfl ?_); refine goesA_ (some 14) rfl rfl Try.func40 (by kernel_rfl) rfl #[.pointer (some ⟨g, 0, none⟩), .slice a6 y750.length a7] rfl ?_; (with_reducible refine (spec_l1Pick.calls g s0_0 t749 _ _ y750 t753 t754 w0 _ ?side1 ?side2 ?side3 ?side4 ?side5 A5.out).mono ?_); (case side1 => repeat (first | (with_reducible first | exact HI0.out | apply IsS70.alloc | apply IsS70.drewN | apply IsS70.drew | apply IsS70.set_1) | exact HI0.out)); (case side2 => repeat (first | (with_reducible first | exact HB.out | apply lA1_ | apply lN_ | apply lD_ | refine lS1_ ?_ (IsS70.ge HI0.out)) | exact HB.out)); (case side3 => repeat (first | exact (Kd.R_reads' a0.out).2.2 | (with_reducible refine Kd.C_alloc ?_ _) | (with_reducible refine Kd.C_drewN ?_ _) | (with_reducible refine Kd.C_drew ?_))); (case side4 => exact (Kd.R_reads' a0.out).2.1); (case side5 => exact far_slice (IsS70.own_ne HI0.out a0.out (by decide))); rintro e w12 ⟨rfl, hi, hb, hk⟩; refine ⟨_, rfl, ?_⟩; have n1_ := Aside0.mk (KeepBut.trans (by repeat (first | (with_reducible first | exact HK.out | apply KeepBut.set_ | apply kN_ | apply kD_ | apply kA_) | exact HK.out)) hk (.inl rfl)); have n2_ := Aside0.mk (hb); have n3_ := Aside0.mk (hi); clear HK HB HI0; have HK := n1_; have HB := n2_; have HI0 := n3_; clear n1_ n2_ n3_; (try clear hb); (try clear hb2); (try clear hk); (try clear hi)))
 go_ret
 exact ⟨by first | rfl | (simp [errW_none, errW_some] <;> rfl) | (simp [*, errW_none, errW_some] <;> rfl), by repeat (first | (with_reducible first | exact HI0.out | apply IsS70.alloc | apply IsS70.drewN | apply IsS70.drew | apply IsS70.set_1) | exact HI0.out), by repeat (first | (with_reducible first | exact HB.out | apply lA1_ | apply lN_ | apply lD_ | refine lS1_ ?_ (IsS70.ge HI0.out)) | exact HB.out), by repeat (first | (with_reducible first | exact HK.out | apply KeepBut.set_ | apply kN_ | apply kD_ | apply kA_) | exact HK.out)⟩
end Go.Proofs.Ytidejdfbapjfiaa.G
