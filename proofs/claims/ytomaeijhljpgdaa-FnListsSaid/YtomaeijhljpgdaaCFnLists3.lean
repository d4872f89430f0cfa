/- Part 5 of the proof of FnLists: what the functions on its road do, and the plain laws. -/
import Derived.Test.YtomaeijhljpgdaaCFnLists2
import Derived.RangeFuncNested
import Derived.RangeFuncBound
import Derived.RangeFuncCalls
import Derived.RangeFuncLeaves
import Derived.RangeFuncWrites
import Derived.RangeFuncBox
import Derived.Shelf.Abstract
import Derived.OwnWalkIn
import Derived.TacticsInMore
import Derived.LoopNIn
import Derived.LoopIn
namespace Go.Proofs.Ytomaeijhljpgdaa.G
open Go.RowKit Go.Proofs.YtomaeijhljpgdaaW.PrintWords Go.Proofs.YtomaeijhljpgdaaW.PrintLast Go.Proofs.YtomaeijhljpgdaaW.PrintMore
attribute [local go_sem] max2_int min2_int max_two min_two max_three min_three max_four min_four   -- for this text's walks alone
set_option linter.unusedVariables false
set_option linter.unusedSimpArgs false
def spec_DrawPutList.l0 : Nat → List (S26) → List Int → Int → List Int → Int → Option ((List (S26)) × List Int)
 | 0, _, _, _, _, _ => none
 | k + 1, x5, x6, x7, x344000, x344001 => if x7 > 0 then ((spec_l1Max.f 1 (x5.length : Int)).bind fun t353 => ((spec_l1Next.f x344000 x344001 t353).bind fun bt354 => (if x6.length < 17592186044416 then (spec_DrawPutList.l0 k x5 (x6 ++ [bt354.1]) (wrap64 (x7 - 1)) x344000 bt354.2) else (none)))) else ((spec_l1Chance.f x344000 x344001 12).bind fun bt359 => (if bt359.1 = true then ((spec_l5Place.f x344000 bt359.2 x5).bind fun bt361 => (if x6.length < 17592186044416 then (some (x5, (x6 ++ [bt361.1]))) else (none))) else (some (x5, x6))))
def spec_DrawPutList.f (k : Nat) (l0 : List Int) : Option ((List (S26)) × List Int) := (spec_l1Source.f l0).bind fun bt341 => ((spec_l5Bent.f k bt341.1 bt341.2).bind fun bt344 => ((spec_l1Next.f bt341.1 bt344.2 5).bind fun bt351 => (spec_DrawPutList.l0 k bt344.1 (([] : List Int)) bt351.1 bt341.1 bt351.2)))
set_option maxHeartbeats 8000000 in
set_option maxRecDepth 100000 in
theorem spec_DrawPutList.calls (k : Nat) (A0 : Option Addr) (c0 : Nat) (l0 : List Int) (r1 : List (S26)) (r2 : List Int) (w : World) (hr0 : Kd.C (Kd.int .u8) w A0 l0.length l0) (hc0 : l0.length ≤ c0) (h : spec_DrawPutList.f k l0 = some (r1, r2)) :
  Calls Try.prog 15 #[.slice A0 l0.length c0] w fun e w' => ∃ v0_ v1_ : Value, e = .returned (.tuple #[v0_, v1_]) ∧ Kd.R k26 26 w' w.heap.size (fun _ => True) v0_ r1 ∧ Kd.R (Kd.int .i64) 2 w' w.heap.size (fun _ => True) v1_ r2 ∧ Below w.heap.size w w' := by
 have HR0 := Aside0.mk hr0
 have HC0 := Aside0.mk hc0
 clear hr0 hc0
 have HB := Aside0.mk (Below.refl w.heap.size w)
 have H : ((spec_l1Source.f l0).bind fun bt341 => ((spec_l5Bent.f k bt341.1 bt341.2).bind fun bt344 => ((spec_l1Next.f bt341.1 bt344.2 5).bind fun bt351 => (spec_DrawPutList.l0 k bt344.1 (([] : List Int)) bt351.1 bt341.1 bt351.2)))) = some (r1, r2) := h
 clear h
 replace H := Option.bind_eq_some_iff.mp H
 obtain ⟨⟨t341, t342⟩, A20, H⟩ := H
 try dsimp only at H
 have A2 := Aside0.mk A20
 clear A20
 replace H := Option.bind_eq_some_iff.mp H
 obtain ⟨⟨t344, t347⟩, A30, H⟩ := H
 try dsimp only at H
 have A3 := Aside0.mk A30
 clear A30
 obtain ⟨y348, hy348⟩ : ∃ y_ : List Int, y_ = (([] : List Int)) := ⟨_, rfl⟩
 replace H : ((spec_l1Next.f t341 t347 5).bind fun bt351 => (spec_DrawPutList.l0 k t344 y348 bt351.1 t341 bt351.2)) = some (r1, r2) := by first | (rw [hy348]; with_reducible exact H) | (have H2_ := (Option.bind_some _ _).symm.trans H; rw [hy348]; with_reducible exact H2_) | (have H2_ := (Option.bind_some _ _).symm.trans H; with_reducible exact H2_) | with_reducible exact H | (rw [hy348]; exact H) | exact H
 have Ny348 := Aside0.mk hy348
 clear hy348
 replace H := Option.bind_eq_some_iff.mp H
 obtain ⟨⟨t351, t352⟩, A40, H⟩ := H
 try dsimp only at H
 have A4 := Aside0.mk A40
 clear A40
 have H' := Aside0.mk H
 clear H
 go_enter Try.func15, Try.ntmps15
 go_wp2_with (first | ((with_reducible refine gate_callee (f := 46) rfl ?_); refine goesL_ (some 9) rfl rfl Try.func46 (by kernel_rfl) rfl #[.slice A0 l0.length c0] rfl (by (try simp only [List.map_toArray, List.map_cons, List.map_nil]); first | done | rfl | (simp only [List.length_drop, List.length_take]; rfl)) ?_; (with_reducible refine (spec_l1Source.calls _ _ l0 t341 t342 w _ ?side1 ?side2 ?side3 A2.out).mono ?_); (case side1 => repeat (first | (with_reducible first | exact HB.out | apply below_alloc | apply pw_below_drewN | apply below_drew1) | exact HB.out)); (case side2 => exact HR0.out); (case side3 => exact HC0.out); rintro e w5 ⟨g343, rfl, hi, hb, hb2⟩; refine ⟨_, rfl, ?_⟩; have n0_ := Aside0.mk (hb); have n1_ := Aside0.mk (hi); clear HB; have HB := n0_; have HI343 := n1_; clear n0_ n1_; (try clear hb); (try clear hb2); (try clear hk); (try clear hi)) | ((with_reducible refine gate_callee (f := 47) rfl ?_); refine goesL_ (some 11) rfl rfl Try.func47 (by kernel_rfl) rfl #[.pointer (some ⟨g343, 0, none⟩)] rfl (by (try simp only [List.map_toArray, List.map_cons, List.map_nil]); first | done | rfl | (simp only [List.length_drop, List.length_take]; rfl)) ?_; (with_reducible refine (spec_l5Bent.calls k g343 t341 t342 t344 t347 w _ ?side1 ?side2 A3.out).mono ?_); (case side1 => repeat (first | (with_reducible first | exact HI343.out | apply IsS113.alloc | apply IsS113.drewN | apply IsS113.drew | apply IsS113.set_1) | exact HI343.out)); (case side2 => repeat (first | (with_reducible first | exact HB.out | apply below_alloc | apply pw_below_drewN | apply below_drew1 | refine below_set ?_ (IsS113.ge HI343.out)) | exact HB.out)); rintro e w6 ⟨v345, rfl, ho0, hi, hb, hk⟩; refine ⟨_, rfl, ?_⟩; have n0_ := Aside0.mk (Kd.R_lower ho0 (below_size (by repeat (first | (with_reducible first | exact HB.out | apply below_alloc | apply pw_below_drewN | apply below_drew1 | refine below_set ?_ (IsS113.ge HI343.out)) | exact HB.out)))); have n1_ := Aside0.mk (hb); have n2_ := Aside0.mk (hi); clear HB; clear HI343; have HO346 := n0_; have HB := n1_; have HI343 := n2_; clear n0_ n1_ n2_; (try clear hb); (try clear hb2); (try clear hk); (try clear hi); (try clear ho0)) | ((with_reducible refine gate_dst (N := 12) rfl ?_); refine Kd.R_lit (Kd.int .i64) _ 2 ?hg (N := 12) ?hd (xs := ([] : List Int)) (inner := []) (ok := fun _ => True) (okp := fun _ => True) ?hr ?hp (fun _ hk => hk) trivial (Below.refl _ _) (Nat.le_refl _) (by simp) ?_; (case hd => rfl); (case hg => rfl); (case hr => first | (go_simp; done) | (go_simp; rfl)); (case hp => exact (Reps.none _ _)); intro v349 w7 ho8 hb hg_ hnew_; clear hg_ hnew_; (first | rw [← Ny348.out] at ho8 | (simp only [Int.reduceToNat] at ho8; rw [← Ny348.out] at ho8)); have n0_ := Aside0.mk (Kd.R_below (by (with_reducible repeat (first | apply Kd.R_alloc | apply Kd.R_drewN | apply Kd.R_drew)); exact HO346.out) hb); have n1_ := Aside0.mk (Kd.R_lower ho8 (below_size (by repeat (first | (with_reducible first | exact HB.out | apply below_alloc | apply pw_below_drewN | apply below_drew1 | refine below_set ?_ (IsS113.ge HI343.out)) | exact HB.out)))); have n2_ := Aside0.mk (IsS113.below (by repeat (first | (with_reducible first | exact HI343.out | apply IsS113.alloc | apply IsS113.drewN | apply IsS113.drew | apply IsS113.set_1) | exact HI343.out)) hb); have n3_ := Aside0.mk (below_step (by repeat (first | (with_reducible first | exact HB.out | apply below_alloc | apply pw_below_drewN | apply below_drew1 | refine below_set ?_ (IsS113.ge HI343.out)) | exact HB.out)) hb); clear HO346; clear HI343; clear HB; have HO346 := n0_; have HO350 := n1_; have HI343 := n2_; have HB := n3_; clear n0_ n1_ n2_ n3_; clear hb ho8) | ((with_reducible refine gate_callee (f := 49) rfl ?_); refine goesL_ (some 14) rfl rfl Try.func49 (by kernel_rfl) rfl #[.pointer (some ⟨g343, 0, none⟩), .int .i64 5] rfl (by (try simp only [List.map_toArray, List.map_cons, List.map_nil]); first | done | rfl | (simp only [List.length_drop, List.length_take]; rfl)) ?_; (with_reducible refine (spec_l1Next.calls g343 t341 t347 5 t351 t352 w _ ?side1 ?side2 A4.out).mono ?_); (case side1 => repeat (first | (with_reducible first | exact HI343.out | apply IsS113.alloc | apply IsS113.drewN | apply IsS113.drew | apply IsS113.set_1) | exact HI343.out)); (case side2 => repeat (first | (with_reducible first | exact HB.out | apply below_alloc | apply pw_below_drewN | apply below_drew1 | refine below_set ?_ (IsS113.ge HI343.out)) | exact HB.out)); rintro e w9 ⟨rfl, hi, hb, hk⟩; refine ⟨_, rfl, ?_⟩; have n0_ := Aside0.mk (Kd.R_mono (Kd.R_keep (IsS113.apart (show IsS113 w _ g343 t341 t347 from by repeat (first | (with_reducible first | exact HI343.out | apply IsS113.alloc | apply IsS113.drewN | apply IsS113.drew | apply IsS113.set_1) | exact HI343.out)) (by (with_reducible repeat (first | apply Kd.R_alloc | apply Kd.R_drewN | apply Kd.R_drew)); exact HO346.out) (by decide)) hk (fun _ h => h.2)) (fun _ h => h.1)); have n1_ := Aside0.mk (Kd.R_mono (Kd.R_keep (IsS113.apart (show IsS113 w _ g343 t341 t347 from by repeat (first | (with_reducible first | exact HI343.out | apply IsS113.alloc | apply IsS113.drewN | apply IsS113.drew | apply IsS113.set_1) | exact HI343.out)) (by (with_reducible repeat (first | apply Kd.R_alloc | apply Kd.R_drewN | apply Kd.R_drew)); exact HO350.out) (by decide)) hk (fun _ h => h.2)) (fun _ h => h.1)); have n2_ := Aside0.mk (hb); have n3_ := Aside0.mk (hi); clear HO346; clear HO350; clear HB; clear HI343; have HO346 := n0_; have HO350 := n1_; have HB := n2_; have HI343 := n3_; clear n0_ n1_ n2_ n3_; (try clear hb); (try clear hb2); (try clear hk); (try clear hi)))
 go_loopg [6, 7] k (fun kq v6 v7 w' => ∃ (x6_1 : List Int) (x7_1 : Int) (x344001_1 : Int), v7 = .int .i64 x7_1 ∧ Aside0 (spec_DrawPutList.l0 kq t344 x6_1 x7_1 t341 x344001_1 = some (r1, r2)) ∧ Aside0 (kq ≤ k) ∧ Aside0 (Kd.R k26 26 w' w.heap.size (fun _ => True) v345 t344) ∧ Aside0 (Kd.R (Kd.int .i64) 2 w' w.heap.size (fun _ => True) v6 x6_1) ∧ Aside0 (IsS113 w w' g343 t341 x344001_1) ∧ Aside0 (Below w.heap.size w w'))
 case atStart => exact ⟨(y348), (t351), (t352), (by first | rfl | (simp; done) | (simp [*]; done)), H', ⟨Nat.le_refl _⟩, ⟨by (with_reducible repeat (first | apply Kd.R_alloc | apply Kd.R_drewN | apply Kd.R_drew)); exact HO346.out⟩, ⟨by (with_reducible repeat (first | apply Kd.R_alloc | apply Kd.R_drewN | apply Kd.R_drew)); exact HO350.out⟩, ⟨by repeat (first | (with_reducible first | exact HI343.out | apply IsS113.alloc | apply IsS113.drewN | apply IsS113.drew | apply IsS113.set_1) | exact HI343.out)⟩, ⟨by repeat (first | (with_reducible first | exact HB.out | apply below_alloc | apply pw_below_drewN | apply below_drew1 | refine below_set ?_ (IsS113.ge HI343.out)) | exact HB.out)⟩⟩
 case round =>
  clear H'
  try clear c1
  try clear p2
  try clear c4
  obtain ⟨x6_1, x7_1, x344001_1, rfl, HA, HK1, HO_5, HO_6, HI343, HB⟩ := hrel
  cases gk with
  | zero => exact absurd HA.out (by simp [spec_DrawPutList.l0])
  | succ k1 =>
   have H := HA.out
   clear HA
   simp only [spec_DrawPutList.l0] at H
   by_cases c10 : x7_1 > 0
   ·rw [if_pos c10] at H
    have c10b0 : decide (0 < x7_1) = true := decide_eq_true c10
    clear c10
    replace H := Option.bind_eq_some_iff.mp H
    obtain ⟨t353, A110, H⟩ := H
    try dsimp only at H
    have A11 := Aside0.mk A110
    clear A110
    replace H := Option.bind_eq_some_iff.mp H
    obtain ⟨⟨t354, t355⟩, A120, H⟩ := H
    try dsimp only at H
    have A12 := Aside0.mk A120
    clear A120
    by_cases c13 : x6_1.length < 17592186044416
    ·rw [if_pos c13] at H
     have LMc13 := Aside0.mk c13
     clear c13
     obtain ⟨y356, hy356⟩ : ∃ y_ : List Int, y_ = (x6_1 ++ [t354]) := ⟨_, rfl⟩
     replace H : (spec_DrawPutList.l0 k1 t344 y356 (wrap64 (x7_1 - 1)) t341 t355) = some (r1, r2) := by first | (rw [hy356]; with_reducible exact H) | (have H2_ := (Option.bind_some _ _).symm.trans H; rw [hy356]; with_reducible exact H2_) | (have H2_ := (Option.bind_some _ _).symm.trans H; with_reducible exact H2_) | with_reducible exact H | (rw [hy356]; exact H) | exact H
     have Ny356 := Aside0.mk hy356
     clear hy356
     have H' := Aside0.mk H
     clear H
     obtain ⟨Ao14, co14, eo14⟩ := Kd.R_slice HO_5.out
     subst eo14
     go_wp2_with (first | ((with_reducible refine gate_callee (f := 48) rfl ?_); refine goesL_ (some 23) rfl rfl Try.func48 (by kernel_rfl) rfl #[.int .i64 1, .int .i64 (t344.length : Int)] rfl (by (try simp only [List.map_toArray, List.map_cons, List.map_nil]); first | done | rfl | (simp only [List.length_drop, List.length_take]; rfl)) ?_; (with_reducible refine (spec_l1Max.calls 1 (t344.length : Int) t353 _ A11.out).mono ?_); rintro e w' ⟨rfl, ⟨nd, rfl⟩⟩; refine ⟨_, rfl, ?_⟩) | ((with_reducible refine gate_callee (f := 49) rfl ?_); refine goesL_ (some 24) rfl rfl Try.func49 (by kernel_rfl) rfl #[.pointer (some ⟨g343, 0, none⟩), .int .i64 t353] rfl (by (try simp only [List.map_toArray, List.map_cons, List.map_nil]); first | done | rfl | (simp only [List.length_drop, List.length_take]; rfl)) ?_; (with_reducible refine (spec_l1Next.calls g343 t341 x344001_1 t353 t354 t355 w _ ?side1 ?side2 A12.out).mono ?_); (case side1 => repeat (first | (with_reducible first | exact HI343.out | apply IsS113.alloc | apply IsS113.drewN | apply IsS113.drew | apply IsS113.set_1) | exact HI343.out)); (case side2 => repeat (first | (with_reducible first | exact HB.out | apply below_alloc | apply pw_below_drewN | apply below_drew1 | refine below_set ?_ (IsS113.ge HI343.out)) | exact HB.out)); rintro e w15 ⟨rfl, hi, hb, hk⟩; refine ⟨_, rfl, ?_⟩; have n0_ := Aside0.mk (Kd.R_mono (Kd.R_keep (IsS113.apart (show IsS113 w _ g343 t341 x344001_1 from by repeat (first | (with_reducible first | exact HI343.out | apply IsS113.alloc | apply IsS113.drewN | apply IsS113.drew | apply IsS113.set_1) | exact HI343.out)) (by (with_reducible repeat (first | apply Kd.R_alloc | apply Kd.R_drewN | apply Kd.R_drew)); exact HO_5.out) (by decide)) hk (fun _ h => h.2)) (fun _ h => h.1)); have n1_ := Aside0.mk (Kd.R_mono (Kd.R_keep (IsS113.apart (show IsS113 w _ g343 t341 x344001_1 from by repeat (first | (with_reducible first | exact HI343.out | apply IsS113.alloc | apply IsS113.drewN | apply IsS113.drew | apply IsS113.set_1) | exact HI343.out)) (by (with_reducible repeat (first | apply Kd.R_alloc | apply Kd.R_drewN | apply Kd.R_drew)); exact HO_6.out) (by decide)) hk (fun _ h => h.2)) (fun _ h => h.1)); have n2_ := Aside0.mk (hb); have n3_ := Aside0.mk (hi); clear HO_5; clear HO_6; clear HB; clear HI343; have HO_5 := n0_; have HO_6 := n1_; have HB := n2_; have HI343 := n3_; clear n0_ n1_ n2_ n3_; (try clear hb); (try clear hb2); (try clear hk); (try clear hi)) | ((with_reducible refine gate_builtin (b := .append) (xs := #[.tmp 19, .tmp 25]) rfl ?_); at_builtin; refine Kd.R_append (Kd.int .i64) (w0 := w) w.heap.size rfl (.tmp 19) (.tmp 25) 33 2 (.int .i64 0) 8 rfl Try.underlying33 info2 rfl (by decide) (by omega) u6 x6_1 t354 [.int .i64 t354] (fun _ => True) (fun _ => False) rfl rfl ?aP (fun _ hk => hk.elim) ?aF ?aO ?aB ?aS ?aL ?_; (case aP => exact rfl); (case aB => exact (by repeat (first | (with_reducible first | exact HB.out | apply below_alloc | apply pw_below_drewN | apply below_drew1 | refine below_set ?_ (IsS113.ge HI343.out)) | exact HB.out))); (case aF => exact (fun _ _ => trivial)); (case aO => exact (by (with_reducible repeat (first | apply Kd.R_alloc | apply Kd.R_drewN | apply Kd.R_drew)); exact HO_6.out)); (case aS => exact (below_size (by repeat (first | (with_reducible first | exact HB.out | apply below_alloc | apply pw_below_drewN | apply below_drew1 | refine below_set ?_ (IsS113.ge HI343.out)) | exact HB.out)))); (case aL => have := LMc13.out; omega); intro v357 w16 ho hb hg hat; rw [← Ny356.out] at ho; have n0_ := Aside0.mk (Kd.R_over' (by (with_reducible repeat (first | apply Kd.R_alloc | apply Kd.R_drewN | apply Kd.R_drew)); exact HO_5.out) (Kd.R_typed (by (with_reducible repeat (first | apply Kd.R_alloc | apply Kd.R_drewN | apply Kd.R_drew)); exact HO_6.out)) (by decide) hg); have n1_ := Aside0.mk (IsS113.grown (by repeat (first | (with_reducible first | exact HI343.out | apply IsS113.alloc | apply IsS113.drewN | apply IsS113.drew | apply IsS113.set_1) | exact HI343.out)) hg (IsS113.own_ne HI343.out HO_6.out (by decide))); have n2_ := Aside0.mk (hb); have n3_ := Aside0.mk (ho); clear HO_5; clear HI343; clear HB; clear HO_6; have HO_5 := n0_; have HI343 := n1_; have HB := n2_; have HO358 := n3_; clear n0_ n1_ n2_ n3_; clear ho hb hg hat))
     go_roundg k1
     case measure => have := HK1.out; omega
     case rel => exact ⟨(y356), (wrap64 (x7_1 - 1)), (t355), (by first | rfl | (simp; done) | (simp [*]; done)), H', ⟨by have := HK1.out; omega⟩, ⟨by (with_reducible repeat (first | apply Kd.R_alloc | apply Kd.R_drewN | apply Kd.R_drew)); exact HO_5.out⟩, ⟨by (with_reducible repeat (first | apply Kd.R_alloc | apply Kd.R_drewN | apply Kd.R_drew)); exact HO358.out⟩, ⟨by repeat (first | (with_reducible first | exact HI343.out | apply IsS113.alloc | apply IsS113.drewN | apply IsS113.drew | apply IsS113.set_1) | exact HI343.out)⟩, ⟨by repeat (first | (with_reducible first | exact HB.out | apply below_alloc | apply pw_below_drewN | apply below_drew1 | refine below_set ?_ (IsS113.ge HI343.out)) | exact HB.out)⟩⟩
    ·rw [if_neg c13] at H
     exact absurd H (by simp)
   ·rw [if_neg c10] at H
    have c10b0 : decide (0 < x7_1) = false := decide_eq_false c10
    clear c10
    replace H := Option.bind_eq_some_iff.mp H
    obtain ⟨⟨t359, t360⟩, A170, H⟩ := H
    try dsimp only at H
    have A17 := Aside0.mk A170
    clear A170
    by_cases c18 : t359 = true
    ·subst c18
     rw [if_pos rfl] at H
     replace H := Option.bind_eq_some_iff.mp H
     obtain ⟨⟨t361, t362⟩, A190, H⟩ := H
     try dsimp only at H
     have A19 := Aside0.mk A190
     clear A190
     by_cases c20 : x6_1.length < 17592186044416
     ·rw [if_pos c20] at H
      have LMc20 := Aside0.mk c20
      clear c20
      obtain ⟨y363, hy363⟩ : ∃ y_ : List Int, y_ = (x6_1 ++ [t361]) := ⟨_, rfl⟩
      replace H : (some (t344, y363)) = some (r1, r2) := by first | (rw [hy363]; with_reducible exact H) | (have H2_ := (Option.bind_some _ _).symm.trans H; rw [hy363]; with_reducible exact H2_) | (have H2_ := (Option.bind_some _ _).symm.trans H; with_reducible exact H2_) | with_reducible exact H | (rw [hy363]; exact H) | exact H
      have Ny363 := Aside0.mk hy363
      clear hy363
      simp only [Option.some.injEq, Prod.mk.injEq] at H
      obtain ⟨rfl, rfl⟩ := H
      go_wp2_with (first | ((with_reducible refine gate_callee (f := 51) rfl ?_); refine goesL_ (some 28) rfl rfl Try.func51 (by kernel_rfl) rfl #[.pointer (some ⟨g343, 0, none⟩), .int .i64 12] rfl (by (try simp only [List.map_toArray, List.map_cons, List.map_nil]); first | done | rfl | (simp only [List.length_drop, List.length_take]; rfl)) ?_; (with_reducible refine (spec_l1Chance.calls g343 t341 x344001_1 12 true t360 w _ ?side1 ?side2 A17.out).mono ?_); (case side1 => repeat (first | (with_reducible first | exact HI343.out | apply IsS113.alloc | apply IsS113.drewN | apply IsS113.drew | apply IsS113.set_1) | exact HI343.out)); (case side2 => repeat (first | (with_reducible first | exact HB.out | apply below_alloc | apply pw_below_drewN | apply below_drew1 | refine below_set ?_ (IsS113.ge HI343.out)) | exact HB.out)); rintro e w21 ⟨rfl, hi, hb, hk⟩; refine ⟨_, rfl, ?_⟩; have n0_ := Aside0.mk (Kd.R_mono (Kd.R_keep (IsS113.apart (show IsS113 w _ g343 t341 x344001_1 from by repeat (first | (with_reducible first | exact HI343.out | apply IsS113.alloc | apply IsS113.drewN | apply IsS113.drew | apply IsS113.set_1) | exact HI343.out)) (by (with_reducible repeat (first | apply Kd.R_alloc | apply Kd.R_drewN | apply Kd.R_drew)); exact HO_5.out) (by decide)) hk (fun _ h => h.2)) (fun _ h => h.1)); have n1_ := Aside0.mk (Kd.R_mono (Kd.R_keep (IsS113.apart (show IsS113 w _ g343 t341 x344001_1 from by repeat (first | (with_reducible first | exact HI343.out | apply IsS113.alloc | apply IsS113.drewN | apply IsS113.drew | apply IsS113.set_1) | exact HI343.out)) (by (with_reducible repeat (first | apply Kd.R_alloc | apply Kd.R_drewN | apply Kd.R_drew)); exact HO_6.out) (by decide)) hk (fun _ h => h.2)) (fun _ h => h.1)); have n2_ := Aside0.mk (hb); have n3_ := Aside0.mk (hi); clear HO_5; clear HO_6; clear HB; clear HI343; have HO_5 := n0_; have HO_6 := n1_; have HB := n2_; have HI343 := n3_; clear n0_ n1_ n2_ n3_; (try clear hb); (try clear hb2); (try clear hk); (try clear hi); obtain ⟨Ao22, co22, eo22⟩ := Kd.R_slice HO_5.out; subst eo22) | ((with_reducible refine gate_callee (f := 59) rfl ?_); refine goesL_ (some 32) rfl rfl Try.func59 (by kernel_rfl) rfl #[.pointer (some ⟨g343, 0, none⟩), .slice Ao22 t344.length co22] rfl (by (try simp only [List.map_toArray, List.map_cons, List.map_nil]); first | done | rfl | (simp only [List.length_drop, List.length_take]; rfl)) ?_; (with_reducible refine (spec_l5Place.calls g343 t341 t360 _ _ t344 t361 t362 w _ ?side1 ?side2 ?side3 ?side4 A19.out).mono ?_); (case side1 => repeat (first | (with_reducible first | exact HI343.out | apply IsS113.alloc | apply IsS113.drewN | apply IsS113.drew | apply IsS113.set_1) | exact HI343.out)); (case side2 => repeat (first | (with_reducible first | exact HB.out | apply below_alloc | apply pw_below_drewN | apply below_drew1 | refine below_set ?_ (IsS113.ge HI343.out)) | exact HB.out)); (case side3 => exact Kd.C_foot_own (IsS113.apart (show IsS113 w _ g343 t341 t360 from by repeat (first | (with_reducible first | exact HI343.out | apply IsS113.alloc | apply IsS113.drewN | apply IsS113.drew | apply IsS113.set_1) | exact HI343.out)) (by (with_reducible repeat (first | apply Kd.R_alloc | apply Kd.R_drewN | apply Kd.R_drew)); exact HO_5.out) (by decide)) (fun _ h_ => h_.2)); (case side4 => exact (Kd.R_reads' HO_5.out).2.1); rintro e w23 ⟨rfl, hi, hb, hk⟩; refine ⟨_, rfl, ?_⟩; have n0_ := Aside0.mk (Kd.R_mono (Kd.R_keep (IsS113.apart (show IsS113 w _ g343 t341 t360 from by repeat (first | (with_reducible first | exact HI343.out | apply IsS113.alloc | apply IsS113.drewN | apply IsS113.drew | apply IsS113.set_1) | exact HI343.out)) (by (with_reducible repeat (first | apply Kd.R_alloc | apply Kd.R_drewN | apply Kd.R_drew)); exact HO_5.out) (by decide)) hk (fun _ h => h.2)) (fun _ h => h.1)); have n1_ := Aside0.mk (Kd.R_mono (Kd.R_keep (IsS113.apart (show IsS113 w _ g343 t341 t360 from by repeat (first | (with_reducible first | exact HI343.out | apply IsS113.alloc | apply IsS113.drewN | apply IsS113.drew | apply IsS113.set_1) | exact HI343.out)) (by (with_reducible repeat (first | apply Kd.R_alloc | apply Kd.R_drewN | apply Kd.R_drew)); exact HO_6.out) (by decide)) hk (fun _ h => h.2)) (fun _ h => h.1)); have n2_ := Aside0.mk (hb); have n3_ := Aside0.mk (hi); clear HO_5; clear HO_6; clear HB; clear HI343; have HO_5 := n0_; have HO_6 := n1_; have HB := n2_; have HI343 := n3_; clear n0_ n1_ n2_ n3_; (try clear hb); (try clear hb2); (try clear hk); (try clear hi)) | ((with_reducible refine gate_builtin (b := .append) (xs := #[.tmp 29, .tmp 33]) rfl ?_); at_builtin; refine Kd.R_append (Kd.int .i64) (w0 := w) w.heap.size rfl (.tmp 29) (.tmp 33) 33 2 (.int .i64 0) 8 rfl Try.underlying33 info2 rfl (by decide) (by omega) u6 x6_1 t361 [.int .i64 t361] (fun _ => True) (fun _ => False) rfl rfl ?aP (fun _ hk => hk.elim) ?aF ?aO ?aB ?aS ?aL ?_; (case aP => exact rfl); (case aB => exact (by repeat (first | (with_reducible first | exact HB.out | apply below_alloc | apply pw_below_drewN | apply below_drew1 | refine below_set ?_ (IsS113.ge HI343.out)) | exact HB.out))); (case aF => exact (fun _ _ => trivial)); (case aO => exact (by (with_reducible repeat (first | apply Kd.R_alloc | apply Kd.R_drewN | apply Kd.R_drew)); exact HO_6.out)); (case aS => exact (below_size (by repeat (first | (with_reducible first | exact HB.out | apply below_alloc | apply pw_below_drewN | apply below_drew1 | refine below_set ?_ (IsS113.ge HI343.out)) | exact HB.out)))); (case aL => have := LMc20.out; omega); intro v364 w24 ho hb hg hat; rw [← Ny363.out] at ho; have n0_ := Aside0.mk (Kd.R_over' (by (with_reducible repeat (first | apply Kd.R_alloc | apply Kd.R_drewN | apply Kd.R_drew)); exact HO_5.out) (Kd.R_typed (by (with_reducible repeat (first | apply Kd.R_alloc | apply Kd.R_drewN | apply Kd.R_drew)); exact HO_6.out)) (by decide) hg); have n1_ := Aside0.mk (IsS113.grown (by repeat (first | (with_reducible first | exact HI343.out | apply IsS113.alloc | apply IsS113.drewN | apply IsS113.drew | apply IsS113.set_1) | exact HI343.out)) hg (IsS113.own_ne HI343.out HO_6.out (by decide))); have n2_ := Aside0.mk (hb); have n3_ := Aside0.mk (ho); clear HO_5; clear HI343; clear HB; clear HO_6; have HO_5 := n0_; have HI343 := n1_; have HB := n2_; have HO365 := n3_; clear n0_ n1_ n2_ n3_; clear ho hb hg hat))
      go_ret2
      exact ⟨_, _, by first | rfl | (simp [errW_none, errW_some] <;> rfl) | (simp [*, errW_none, errW_some] <;> rfl), by (with_reducible repeat (first | apply Kd.R_alloc | apply Kd.R_drewN | apply Kd.R_drew)); exact HO_5.out, by (with_reducible repeat (first | apply Kd.R_alloc | apply Kd.R_drewN | apply Kd.R_drew)); exact HO365.out, by repeat (first | (with_reducible first | exact HB.out | apply below_alloc | apply pw_below_drewN | apply below_drew1 | refine below_set ?_ (IsS113.ge HI343.out)) | exact HB.out)⟩
     ·rw [if_neg c20] at H
      exact absurd H (by simp)
    ·replace c18 := Bool.eq_false_iff.mpr c18
     subst c18
     rw [if_neg (show ¬ (false = true) by decide)] at H
     simp only [Option.some.injEq, Prod.mk.injEq] at H
     obtain ⟨rfl, rfl⟩ := H
     go_wp2_with (first | ((with_reducible refine gate_callee (f := 51) rfl ?_); refine goesL_ (some 28) rfl rfl Try.func51 (by kernel_rfl) rfl #[.pointer (some ⟨g343, 0, none⟩), .int .i64 12] rfl (by (try simp only [List.map_toArray, List.map_cons, List.map_nil]); first | done | rfl | (simp only [List.length_drop, List.length_take]; rfl)) ?_; (with_reducible refine (spec_l1Chance.calls g343 t341 x344001_1 12 false t360 w _ ?side1 ?side2 A17.out).mono ?_); (case side1 => repeat (first | (with_reducible first | exact HI343.out | apply IsS113.alloc | apply IsS113.drewN | apply IsS113.drew | apply IsS113.set_1) | exact HI343.out)); (case side2 => repeat (first | (with_reducible first | exact HB.out | apply below_alloc | apply pw_below_drewN | apply below_drew1 | refine below_set ?_ (IsS113.ge HI343.out)) | exact HB.out)); rintro e w25 ⟨rfl, hi, hb, hk⟩; refine ⟨_, rfl, ?_⟩; have n0_ := Aside0.mk (Kd.R_mono (Kd.R_keep (IsS113.apart (show IsS113 w _ g343 t341 x344001_1 from by repeat (first | (with_reducible first | exact HI343.out | apply IsS113.alloc | apply IsS113.drewN | apply IsS113.drew | apply IsS113.set_1) | exact HI343.out)) (by (with_reducible repeat (first | apply Kd.R_alloc | apply Kd.R_drewN | apply Kd.R_drew)); exact HO_5.out) (by decide)) hk (fun _ h => h.2)) (fun _ h => h.1)); have n1_ := Aside0.mk (Kd.R_mono (Kd.R_keep (IsS113.apart (show IsS113 w _ g343 t341 x344001_1 from by repeat (first | (with_reducible first | exact HI343.out | apply IsS113.alloc | apply IsS113.drewN | apply IsS113.drew | apply IsS113.set_1) | exact HI343.out)) (by (with_reducible repeat (first | apply Kd.R_alloc | apply Kd.R_drewN | apply Kd.R_drew)); exact HO_6.out) (by decide)) hk (fun _ h => h.2)) (fun _ h => h.1)); have n2_ := Aside0.mk (hb); have n3_ := Aside0.mk (hi); clear HO_5; clear HO_6; clear HB; clear HI343; have HO_5 := n0_; have HO_6 := n1_; have HB := n2_; have HI343 := n3_; clear n0_ n1_ n2_ n3_; (try clear hb); (try clear hb2); (try clear hk); (try clear hi)))
     go_ret2
     exact ⟨_, _, by first | rfl | (simp [errW_none, errW_some] <;> rfl) | (simp [*, errW_none, errW_some] <;> rfl), by (with_reducible repeat (first | apply Kd.R_alloc | apply Kd.R_drewN | apply Kd.R_drew)); exact HO_5.out, by (with_reducible repeat (first | apply Kd.R_alloc | apply Kd.R_drewN | apply Kd.R_drew)); exact HO_6.out, by repeat (first | (with_reducible first | exact HB.out | apply below_alloc | apply pw_below_drewN | apply below_drew1 | refine below_set ?_ (IsS113.ge HI343.out)) | exact HB.out)⟩
end Go.Proofs.Ytomaeijhljpgdaa.G
namespace Go.Proofs.Ytomaeijhljpgdaa.G
open Go.RowKit Go.Proofs.YtomaeijhljpgdaaW.PrintWords Go.Proofs.YtomaeijhljpgdaaW.PrintLast Go.Proofs.YtomaeijhljpgdaaW.PrintMore
attribute [local go_sem] max2_int min2_int max_two min_two max_three min_three max_four min_four   -- for this text's walks alone
set_option linter.unusedVariables false
set_option linter.unusedSimpArgs false
def impl_Term_90.f (l0 : List (S26)) : Option (List (S26)) := if l0.length * 32 ≤ 140737488355328 then some l0 else none
set_option maxHeartbeats 4000000 in
set_option maxRecDepth 100000 in
theorem impl_Term_90.calls (A0 : Option Addr) (c0 : Nat) (l0 : List (S26)) (r : List (S26)) (w : World) (hr0 : Kd.C k26 w A0 l0.length l0) (hc0 : l0.length ≤ c0) (h : impl_Term_90.f l0 = some r) :
    Calls Try.prog 90 #[.slice A0 l0.length c0] w fun e w' => ∃ v0_ : Value, e = .returned (v0_) ∧ Kd.R k26 26 w' w.heap.size (fun _ => True) v0_ r ∧ Below w.heap.size w w' := by
  unfold impl_Term_90.f at h
  by_cases hb : l0.length * 32 ≤ 140737488355328
  · rw [if_pos hb] at h
    obtain rfl := Option.some.inj h
    clear h
    have HL := Aside0.mk hb
    clear hb
    rcases A0 with _ | ad
    · obtain rfl : l0 = [] := by
        rcases Nat.eq_zero_or_pos l0.length with h0 | h0
        · exact List.eq_nil_of_length_eq_zero h0
        · obtain ⟨_, h, _⟩ := hr0.2.2 h0
          cases h
      have hq := fun (W : World) => Lib.run_eql_slice_nil (P := Try.prog) W 24 26 none 0 c0 0 0 Try.underlying24
      clear hr0
      go_enter Try.func90, Try.ntmps90
      go_wp2
      go_ret
      exact ⟨_, rfl, Kd.R_nil _ _ _ _ _, Below.refl _ _⟩
    · have HR := Aside0.mk hr0
      clear hr0
      have HB := Aside0.mk (Below.refl w.heap.size w)
      have hq := fun (W : World) => Lib.run_eql_slice_nil (P := Try.prog) W 24 26 (some ad) l0.length c0 0 0 Try.underlying24
      go_enter Try.func90, Try.ntmps90
      go_wp2_with (first | ((with_reducible refine gate_dst (N := 5) rfl ?_); refine Kd.R_lit k26 _ 26 ?hg (N := 5) ?hd (xs := ([] : List (S26))) (inner := []) (ok := fun _ => True) (okp := fun _ => True) ?hr ?hp (fun _ hk => hk) trivial (Below.refl _ _) (Nat.le_refl _) (by simp) ?_; (case hd => rfl); (case hg => rfl); (case hr => first | (go_simp; done) | (go_simp; rfl)); (case hp => exact (Reps.none _ _)); intro v103 w3 ho4 hb hg_ hnew_; clear hg_ hnew_; have n0_ := Aside0.mk (Kd.R_lower ho4 (below_size HB.out)); have n1_ := Aside0.mk (below_step HB.out hb); have n2_ := Aside0.mk (Kd.C_below HR.out (by first | exact hb | exact below_step HB.out hb)); clear HB HR; have HO104 := n0_; have HB := n1_; have HR := n2_; clear n0_ n1_ n2_; clear hb ho4) | ((with_reducible refine gate_builtin (b := .append) (xs := #[.tmp 5, .tmp 6]) rfl ?_); at_builtin; refine Kd.R_append_rows k26 (Rr := k26.K w3) (w0 := w) w.heap.size rfl (.tmp 5) (.tmp 6) 24 26 (.agg #[(.int .i64 0), (.int .i64 0), (.int .i64 0), (.int .i64 0)]) 32 rfl Try.underlying24 info26 rfl (by decide) (by omega) v103 [] l0 (some ad) l0.length c0 (fun _ => True) (fun _ => False) rfl rfl ?aO ?aR (fun _ cs_ h_ => by obtain rfl := k26_open h_; exact k26_mkM _ _ _ _) (fun _ hk => hk.elim) (fun _ _ => trivial) ?aB ?aS ?aL ?_; (case aO => exact HO104.out); (case aR => exact HR.out); (case aB => exact HB.out); (case aS => exact below_size HB.out); (case aL => have := HL.out; simp; omega); intro v106 w10 ho hb hg hat; have n0_ := Aside0.mk (hb); have n1_ := Aside0.mk (ho); clear HB HO104; have HB := n0_; have HO107 := n1_; clear n0_ n1_; clear ho hb hg hat))
      go_ret
      exact ⟨_, rfl, HO107.out, HB.out⟩
  · rw [if_neg hb] at h; cases h
end Go.Proofs.Ytomaeijhljpgdaa.G
namespace Go.Proofs.Ytomaeijhljpgdaa.G
open Go.RowKit Go.Proofs.YtomaeijhljpgdaaW.PrintWords Go.Proofs.YtomaeijhljpgdaaW.PrintLast Go.Proofs.YtomaeijhljpgdaaW.PrintMore
attribute [local go_sem] max2_int min2_int max_two min_two max_three min_three max_four min_four   -- for this text's walks alone
set_option linter.unusedVariables false
set_option linter.unusedSimpArgs false
def Sheet (W : World) (N S : Nat) (l : List S26) (full : Bool) : Prop := ∃ v, W.heap[S]? = some (.cells #[v, .bool full] 107 (0, 0)) ∧ N ≤ S ∧ k26.R 26 W N (fun k => k ≠ S) v l
theorem below_stepN {w W W' : World} {N : Nat} (h : Below N w W) (hN : N ≤ W.heap.size) (k : Below W.heap.size W W') : Below N w W' := h.trans (k.mono hN)
theorem R_not {W : World} {N S : Nat} {ok : Nat → Prop} {v : Value} {l : List S26} (h : k26.R 26 W N ok v l) (hs : ∀ k, v.ownBlock = some k → k ≠ S) : k26.R 26 W N (fun k => k ≠ S) v l := by
  obtain ⟨h0, inner, hown, hr⟩ := h
  exact ⟨hs, inner, hown, hr.imp_ (fun x cs hm => by obtain rfl := k26_openM hm; exact k26_mkM _ _ _ _)⟩
set_option maxHeartbeats 4000000 in
set_option maxRecDepth 100000 in
theorem impl_sheetOf.calls (A0 : Option Addr) (c0 : Nat) (l0 : List S26) (w : World) (hr0 : Kd.C k26 w A0 l0.length l0) (hc0 : l0.length ≤ c0) (hb : l0.length * 32 ≤ 140737488355328) :
    Calls Try.prog 54 #[.slice A0 l0.length c0] w fun e w' => ∃ S, e = .returned (.pointer (some ⟨S, 0, none⟩)) ∧ Sheet w' w.heap.size S l0 false ∧ Below w.heap.size w w' := by
  have HR := Aside0.mk hr0
  have HC := Aside0.mk hc0
  have HF := Aside0.mk (show impl_Term_90.f l0 = some l0 from if_pos hb)
  have HB := Aside0.mk (Below.refl w.heap.size w)
  clear hr0 hc0 hb
  go_enter Try.func54, Try.ntmps54
  go_wp2_with (first | (go_at_call 90; with_reducible refine (impl_Term_90.calls A0 c0 l0 l0 _ (Kd.C_below HR.out HB.out) HC.out HF.out).mono ?_; rintro e w2 ⟨v, rfl, ho, hb⟩; obtain ⟨A2, c2, rfl⟩ := Kd.R_slice ho; have HO := Aside0.mk (Kd.R_lower ho (below_size HB.out)); have n0_ := Aside0.mk (below_step HB.out hb); clear HB hb ho; have HB := n0_; clear n0_) | ((with_reducible refine gate_dst (N := 6) rfl ?_); refine box_event ?hg (N := 6) ?hd (cs := #[.slice A2 l0.length c2, .bool false]) (t := 107) ?hr ?_; (case hd => rfl); (case hg => rfl); (case hr => first | (go_simp; done) | (go_simp; rfl)); intro S hg w3 hbox hb; have HS : Aside0 (Sheet w3 w.heap.size S l0 false) := ⟨⟨.slice A2 l0.length c2, hbox, (by rw [hg]; exact below_size HB.out), R_not (Kd.R_below HO.out hb) (fun k hk => by obtain ⟨_, hi⟩ := Kd.R_own HO.out; have := own_lt hi k hk; omega)⟩⟩; have n0_ := Aside0.mk (below_step HB.out hb); clear HB hb hbox hg; have HB := n0_; clear n0_))
  go_ret
  exact ⟨S, rfl, HS.out, HB.out⟩
end Go.Proofs.Ytomaeijhljpgdaa.G
namespace Go.Proofs.Ytomaeijhljpgdaa.G
open Go.RowKit Go.Proofs.YtomaeijhljpgdaaW.PrintWords Go.Proofs.YtomaeijhljpgdaaW.PrintLast Go.Proofs.YtomaeijhljpgdaaW.PrintMore
attribute [local go_sem] max2_int min2_int max_two min_two max_three min_three max_four min_four   -- for this text's walks alone
set_option linter.unusedVariables false
set_option linter.unusedSimpArgs false
attribute [local go_sem high] eqA26
def impl_Term_91.l0 : Nat → List (S26) → Int → Int → Int → Int → Int → Int → Option (Int)
 | 0, _, _, _, _, _, _, _ => none
 | k + 1, x0, x7, x8, x279000, x279001, x279002, x279003 => if x8 < x7 then (if 0 ≤ x8 then (if x8 < (x0.length : Int) then (if (x279000 == ((rd_T26 x0 x8).f0) && (x279001 == ((rd_T26 x0 x8).f1) && (x279002 == ((rd_T26 x0 x8).f2) && (x279003 == ((rd_T26 x0 x8).f3))))) = true then (some x8) else (impl_Term_91.l0 k x0 x7 (wrap64 (x8 + 1)) x279000 x279001 x279002 x279003)) else (none)) else (none)) else (some (-1))
def impl_Term_91.f (k : Nat) (l0 : List (S26)) (a1_0 : Int) (a1_1 : Int) (a1_2 : Int) (a1_3 : Int) : Option (Int) := impl_Term_91.l0 k l0 (l0.length : Int) 0 a1_0 a1_1 a1_2 a1_3
set_option maxHeartbeats 8000000 in
set_option maxRecDepth 100000 in
theorem impl_Term_91.calls (k : Nat) (A0 : Option Addr) (c0 : Nat) (l0 : List (S26)) (a1_0 : Int) (a1_1 : Int) (a1_2 : Int) (a1_3 : Int) (r : Int) (w : World) (hr0 : Kd.C k26 w A0 l0.length l0) (hc0 : l0.length ≤ c0) (h : impl_Term_91.f k l0 a1_0 a1_1 a1_2 a1_3 = some r) :
  Calls Try.prog 91 #[.slice A0 l0.length c0, .agg #[.int .i64 a1_0, .int .i64 a1_1, .int .i64 a1_2, .int .i64 a1_3]] w fun e w' => e = .returned (.int .i64 r) ∧ Below w.heap.size w w' := by
 have hu26 := Try.underlying26
 have HR0 := Aside0.mk hr0
 have HC0 := Aside0.mk hc0
 clear hr0 hc0
 have HB := Aside0.mk (Below.refl w.heap.size w)
 have H : (impl_Term_91.l0 k l0 (l0.length : Int) 0 a1_0 a1_1 a1_2 a1_3) = some r := h
 clear h
 have H' := Aside0.mk H
 clear H
 go_enter Try.func91, Try.ntmps91
 go_wp2_with (first | ((with_reducible refine gate_dst (N := 3) rfl ?_); refine box_event ?hg (N := 3) ?hd (cs := #[.int .i64 a1_0, .int .i64 a1_1, .int .i64 a1_2, .int .i64 a1_3]) (t := 26) ?hr ?_; (case hd => rfl); (case hg => rfl); (case hr => first | (go_simp; done) | (go_simp; rfl)); intro gb278 hg w3 hbox hb; have n0_ := Aside0.mk (below_step (by repeat (first | (with_reducible first | exact HB.out | apply below_alloc | apply pw_below_drewN | apply below_drew1) | exact HB.out)) hb); have n1_ := Aside0.mk (hbox); have n2_ := Aside0.mk ((by rw [hg]; exact (below_size (by repeat (first | (with_reducible first | exact HB.out | apply below_alloc | apply pw_below_drewN | apply below_drew1) | exact HB.out))) : w.heap.size ≤ gb278)); have n3_ := Aside0.mk ((by rw [hg]; exact (below_size (by repeat (first | (with_reducible first | exact HB.out | apply below_alloc | apply pw_below_drewN | apply below_drew1) | exact HB.out))) : w.heap.size ≤ gb278)); clear HB; have HB := n0_; have BK278 := n1_; have GW278 := n2_; have GE278 := n3_; clear n0_ n1_ n2_ n3_; clear hb hbox hg))
 repeat (go_quiet (first | ((with_reducible refine gate_dst (N := 3) rfl ?_); refine box_event ?hg (N := 3) ?hd (cs := #[.int .i64 a1_0, .int .i64 a1_1, .int .i64 a1_2, .int .i64 a1_3]) (t := 26) ?hr ?_; (case hd => rfl); (case hg => rfl); (case hr => first | (go_simp; done) | (go_simp; rfl)); intro gb278 hg w3 hbox hb; have n0_ := Aside0.mk (below_step (by repeat (first | (with_reducible first | exact HB.out | apply below_alloc | apply pw_below_drewN | apply below_drew1) | exact HB.out)) hb); have n1_ := Aside0.mk (hbox); have n2_ := Aside0.mk ((by rw [hg]; exact (below_size (by repeat (first | (with_reducible first | exact HB.out | apply below_alloc | apply pw_below_drewN | apply below_drew1) | exact HB.out))) : w.heap.size ≤ gb278)); have n3_ := Aside0.mk ((by rw [hg]; exact (below_size (by repeat (first | (with_reducible first | exact HB.out | apply below_alloc | apply pw_below_drewN | apply below_drew1) | exact HB.out))) : w.heap.size ≤ gb278)); clear HB; have HB := n0_; have BK278 := n1_; have GW278 := n2_; have GE278 := n3_; clear n0_ n1_ n2_ n3_; clear hb hbox hg)); try go_wp2_with (first | ((with_reducible refine gate_dst (N := 3) rfl ?_); refine box_event ?hg (N := 3) ?hd (cs := #[.int .i64 a1_0, .int .i64 a1_1, .int .i64 a1_2, .int .i64 a1_3]) (t := 26) ?hr ?_; (case hd => rfl); (case hg => rfl); (case hr => first | (go_simp; done) | (go_simp; rfl)); intro gb278 hg w3 hbox hb; have n0_ := Aside0.mk (below_step (by repeat (first | (with_reducible first | exact HB.out | apply below_alloc | apply pw_below_drewN | apply below_drew1) | exact HB.out)) hb); have n1_ := Aside0.mk (hbox); have n2_ := Aside0.mk ((by rw [hg]; exact (below_size (by repeat (first | (with_reducible first | exact HB.out | apply below_alloc | apply pw_below_drewN | apply below_drew1) | exact HB.out))) : w.heap.size ≤ gb278)); have n3_ := Aside0.mk ((by rw [hg]; exact (below_size (by repeat (first | (with_reducible first | exact HB.out | apply below_alloc | apply pw_below_drewN | apply below_drew1) | exact HB.out))) : w.heap.size ≤ gb278)); clear HB; have HB := n0_; have BK278 := n1_; have GW278 := n2_; have GE278 := n3_; clear n0_ n1_ n2_ n3_; clear hb hbox hg)))
 go_loopg [8] k (fun kq v8 w' => ∃ (x8_1 : Int), v8 = .int .i64 x8_1 ∧ Aside0 (impl_Term_91.l0 kq l0 (l0.length : Int) x8_1 a1_0 a1_1 a1_2 a1_3 = some r) ∧ Aside0 (kq ≤ k) ∧ Aside0 (w'.heap[gb278]? = some (.cells #[.int .i64 a1_0, .int .i64 a1_1, .int .i64 a1_2, .int .i64 a1_3] 26 (0, 0))) ∧ Aside0 (Below w.heap.size w w'))
 case atStart => exact ⟨(0), (by first | rfl | (simp; done) | (simp [*]; done)), H', ⟨Nat.le_refl _⟩, ⟨by (with_reducible repeat (first | refine blk_drewN ?_ _ | refine blk_drew ?_ | refine blk_alloc ?_ _)); exact BK278.out⟩, ⟨by repeat (first | (with_reducible first | exact HB.out | apply below_alloc | apply pw_below_drewN | apply below_drew1 | refine below_set ?_ GE278.out) | exact HB.out)⟩⟩
 case round =>
  clear H'
  try clear p2
  obtain ⟨x8_1, rfl, HA, HK1, BK278, HB⟩ := hrel
  cases gk with
  | zero => exact absurd HA.out (by simp [impl_Term_91.l0])
  | succ k1 =>
   have H := HA.out
   clear HA
   simp only [impl_Term_91.l0] at H
   by_cases c4 : x8_1 < (l0.length : Int)
   ·rw [if_pos c4] at H
    have c4b0 : decide (x8_1 < (l0.length : Int)) = true := decide_eq_true c4
    clear c4
    by_cases c5 : 0 ≤ x8_1
    ·rw [if_pos c5] at H
     have c5b0 : decide (0 ≤ x8_1) = true := decide_eq_true c5
     clear c5
     by_cases c6 : x8_1 < (l0.length : Int)
     ·rw [if_pos c6] at H
      have c6b0 : decide (x8_1 < (l0.length : Int)) = true := decide_eq_true c6
      clear c6
      by_cases c7 : (a1_0 == ((rd_T26 l0 x8_1).f0) && (a1_1 == ((rd_T26 l0 x8_1).f1) && (a1_2 == ((rd_T26 l0 x8_1).f2) && (a1_3 == ((rd_T26 l0 x8_1).f3))))) = true
      ·rw [if_pos c7] at H
       have c7b0 : (a1_0 == ((rd_T26 l0 x8_1).f0) && (a1_1 == ((rd_T26 l0 x8_1).f1) && (a1_2 == ((rd_T26 l0 x8_1).f2) && (a1_3 == ((rd_T26 l0 x8_1).f3))))) = true := c7
       (try (have c7b1 : decide (a1_0 = ((rd_T26 l0 x8_1).f0) && (a1_1 == ((rd_T26 l0 x8_1).f1) && (a1_2 == ((rd_T26 l0 x8_1).f2) && (a1_3 == ((rd_T26 l0 x8_1).f3))))) = true := by simpa using c7))
       (try (have c7b2 : (a1_0 == ((rd_T26 l0 x8_1).f0) && (a1_1 == ((rd_T26 l0 x8_1).f1) && (a1_2 == ((rd_T26 l0 x8_1).f2) && (a1_3 == ((rd_T26 l0 x8_1).f3))))) = true := by simpa using c7))
       clear c7
       obtain rfl := Option.some.inj H
       have hcz8_0 : wr.cell? ⟨gb278, 0, none⟩ = some (.int .i64 a1_0) := (blk_cell BK278.out 0).trans rfl
       have hcz8_1 : wr.cell? ⟨gb278, 1, none⟩ = some (.int .i64 a1_1) := (blk_cell BK278.out 1).trans rfl
       have hcz8_2 : wr.cell? ⟨gb278, 2, none⟩ = some (.int .i64 a1_2) := (blk_cell BK278.out 2).trans rfl
       have hcz8_3 : wr.cell? ⟨gb278, 3, none⟩ = some (.int .i64 a1_3) := (blk_cell BK278.out 3).trans rfl
       have hfz8_0 := blk_frozen BK278.out 0
       have hfz8_1 := blk_frozen BK278.out 1
       have hfz8_2 := blk_frozen BK278.out 2
       have hfz8_3 := blk_frozen BK278.out 3
       have p279 : 0 ≤ (x8_1 : Int) := of_decide_eq_true (by first | (with_reducible assumption) | assumption)
       have q279 : x8_1 < (l0.length : Int) := of_decide_eq_true (by first | (with_reducible assumption) | assumption)
       obtain ⟨ad279, e279, hx279_0, hx279_1, hx279_2, hx279_3⟩ := at_T26 HR0.out x8_1 p279 q279
       cases e279
       replace hx279_0 := (HB.out.cell (World.block_lt_of_cell? w _ hx279_0)).trans hx279_0
       replace hx279_1 := (HB.out.cell (World.block_lt_of_cell? w _ hx279_1)).trans hx279_1
       replace hx279_2 := (HB.out.cell (World.block_lt_of_cell? w _ hx279_2)).trans hx279_2
       replace hx279_3 := (HB.out.cell (World.block_lt_of_cell? w _ hx279_3)).trans hx279_3
       replace p279 := eq_true p279
       replace q279 := eq_true q279
       go_wp2
       repeat (go_quiet (fail); try go_wp2)
       go_ret
       exact ⟨by first | rfl | (simp [errW_none, errW_some] <;> rfl) | (simp [*, errW_none, errW_some] <;> rfl), by repeat (first | (with_reducible first | exact HB.out | apply below_alloc | apply pw_below_drewN | apply below_drew1 | refine below_set ?_ GE278.out) | exact HB.out)⟩
      ·rw [if_neg c7] at H
       have c7b0 : (a1_0 == ((rd_T26 l0 x8_1).f0) && (a1_1 == ((rd_T26 l0 x8_1).f1) && (a1_2 == ((rd_T26 l0 x8_1).f2) && (a1_3 == ((rd_T26 l0 x8_1).f3))))) = false := by simpa using c7
       (try (have c7b1 : decide (a1_0 = ((rd_T26 l0 x8_1).f0) && (a1_1 == ((rd_T26 l0 x8_1).f1) && (a1_2 == ((rd_T26 l0 x8_1).f2) && (a1_3 == ((rd_T26 l0 x8_1).f3))))) = false := by simpa using c7))
       (try (have c7b2 : (a1_0 == ((rd_T26 l0 x8_1).f0) && (a1_1 == ((rd_T26 l0 x8_1).f1) && (a1_2 == ((rd_T26 l0 x8_1).f2) && (a1_3 == ((rd_T26 l0 x8_1).f3))))) = false := by simpa using c7))
       (try (have c7b3 : ¬ (a1_0 = ((rd_T26 l0 x8_1).f0) && (a1_1 == ((rd_T26 l0 x8_1).f1) && (a1_2 == ((rd_T26 l0 x8_1).f2) && (a1_3 == ((rd_T26 l0 x8_1).f3))))) := by simpa using c7))
       clear c7
       have H' := Aside0.mk H
       clear H
       have hcz9_0 : wr.cell? ⟨gb278, 0, none⟩ = some (.int .i64 a1_0) := (blk_cell BK278.out 0).trans rfl
       have hcz9_1 : wr.cell? ⟨gb278, 1, none⟩ = some (.int .i64 a1_1) := (blk_cell BK278.out 1).trans rfl
       have hcz9_2 : wr.cell? ⟨gb278, 2, none⟩ = some (.int .i64 a1_2) := (blk_cell BK278.out 2).trans rfl
       have hcz9_3 : wr.cell? ⟨gb278, 3, none⟩ = some (.int .i64 a1_3) := (blk_cell BK278.out 3).trans rfl
       have hfz9_0 := blk_frozen BK278.out 0
       have hfz9_1 := blk_frozen BK278.out 1
       have hfz9_2 := blk_frozen BK278.out 2
       have hfz9_3 := blk_frozen BK278.out 3
       have p279 : 0 ≤ (x8_1 : Int) := of_decide_eq_true (by first | (with_reducible assumption) | assumption)
       have q279 : x8_1 < (l0.length : Int) := of_decide_eq_true (by first | (with_reducible assumption) | assumption)
       obtain ⟨ad279, e279, hx279_0, hx279_1, hx279_2, hx279_3⟩ := at_T26 HR0.out x8_1 p279 q279
       cases e279
       replace hx279_0 := (HB.out.cell (World.block_lt_of_cell? w _ hx279_0)).trans hx279_0
       replace hx279_1 := (HB.out.cell (World.block_lt_of_cell? w _ hx279_1)).trans hx279_1
       replace hx279_2 := (HB.out.cell (World.block_lt_of_cell? w _ hx279_2)).trans hx279_2
       replace hx279_3 := (HB.out.cell (World.block_lt_of_cell? w _ hx279_3)).trans hx279_3
       replace p279 := eq_true p279
       replace q279 := eq_true q279
       go_wp2
       repeat (go_quiet (fail); try go_wp2)
       go_roundg k1
       case measure => have := HK1.out; omega
       case rel => exact ⟨(wrap64 (x8_1 + 1)), (by first | rfl | (simp; done) | (simp [*]; done)), H', ⟨by have := HK1.out; omega⟩, ⟨by (with_reducible repeat (first | refine blk_drewN ?_ _ | refine blk_drew ?_ | refine blk_alloc ?_ _)); exact BK278.out⟩, ⟨by repeat (first | (with_reducible first | exact HB.out | apply below_alloc | apply pw_below_drewN | apply below_drew1 | refine below_set ?_ GE278.out) | exact HB.out)⟩⟩
     ·rw [if_neg c6] at H
      exact absurd H (by simp)
    ·rw [if_neg c5] at H
     exact absurd H (by simp)
   ·rw [if_neg c4] at H
    have c4b0 : decide (x8_1 < (l0.length : Int)) = false := decide_eq_false c4
    clear c4
    obtain rfl := Option.some.inj H
    go_wp2
    repeat (go_quiet (fail); try go_wp2)
    go_ret
    exact ⟨by first | rfl | (simp [errW_none, errW_some] <;> rfl) | (simp [*, errW_none, errW_some] <;> rfl), by repeat (first | (with_reducible first | exact HB.out | apply below_alloc | apply pw_below_drewN | apply below_drew1 | refine below_set ?_ GE278.out) | exact HB.out)⟩
end Go.Proofs.Ytomaeijhljpgdaa.G
namespace Go.Proofs.Ytomaeijhljpgdaa.G
open Go.RowKit Go.Proofs.YtomaeijhljpgdaaW.PrintWords Go.Proofs.YtomaeijhljpgdaaW.PrintLast Go.Proofs.YtomaeijhljpgdaaW.PrintMore
attribute [local go_sem] max2_int min2_int max_two min_two max_three min_three max_four min_four   -- for this text's walks alone
set_option linter.unusedVariables false
set_option linter.unusedSimpArgs false
def putP (l : List S26) (full : Bool) (t : S26) (i : Int) : Int × List S26 × Bool := if 0 ≤ i then (i, l, full) else if 400 ≤ l.length then (0, l, true) else if full = true then (0, l, true) else ((l.length : Int), l ++ [t], false)
set_option maxHeartbeats 8000000 in
set_option maxRecDepth 100000 in
theorem impl_sheet_put.calls (k : Nat) (S N : Nat) (l : List S26) (full : Bool) (t0 t1 t2 t3 i : Int) (w : World) (hS : Sheet w N S l full) (hN : N ≤ w.heap.size) (hi : impl_Term_91.f k l t0 t1 t2 t3 = some i) :
    Calls Try.prog 56 #[.pointer (some ⟨S, 0, none⟩), .agg #[.int .i64 t0, .int .i64 t1, .int .i64 t2, .int .i64 t3]] w fun e w' => e = .returned (.int .i64 (putP l full ⟨t0, t1, t2, t3⟩ i).1) ∧ Sheet w' N S (putP l full ⟨t0, t1, t2, t3⟩ i).2.1 (putP l full ⟨t0, t1, t2, t3⟩ i).2.2 ∧ Below N w w' := by
  obtain ⟨v, hb, hns, hr⟩ := hS
  obtain ⟨A, c, rfl⟩ := Kd.R_slice hr
  have BS := Aside0.mk hb
  have HNS := Aside0.mk hns
  have HO := Aside0.mk hr
  have HN := Aside0.mk hN
  have HI := Aside0.mk hi
  have HB := Aside0.mk (Below.refl N w)
  clear hb hns hr hN hi
  go_enter Try.func56, Try.ntmps56
  go_wp2_with (first | ((with_reducible refine gate_dst (N := 3) rfl ?_); refine box_event ?hg (N := 3) ?hd (cs := #[.int .i64 t0, .int .i64 t1, .int .i64 t2, .int .i64 t3]) (t := 26) ?hr ?_; (case hd => rfl); (case hg => rfl); (case hr => first | (go_simp; done) | (go_simp; rfl)); intro g3 hg w2 hbox hb; have n0_ := Aside0.mk (below_stepN HB.out (Nat.le_trans HN.out HB.out.size) hb); have n1_ := Aside0.mk hbox; have n2_ := Aside0.mk (blk_below BS.out hb); have n3_ := Aside0.mk (Kd.R_below HO.out hb); have n4_ := Aside0.mk (show S ≠ g3 by rw [hg]; exact Nat.ne_of_lt (blk_lt BS.out)); have n5_ := Aside0.mk (show N ≤ g3 by rw [hg]; exact Nat.le_trans HN.out HB.out.size); have n6_ := Aside0.mk (show ∀ k, (.slice A l.length c : Value).ownBlock = some k → k ≠ g3 from fun k hk => by obtain ⟨_, hi⟩ := Kd.R_own HO.out; rw [hg]; exact Nat.ne_of_lt (own_lt hi k hk)); clear HB BS HO; have HB := n0_; have B3 := n1_; have BS := n2_; have HO := n3_; have NE3 := n4_; have GE3 := n5_; have OW3 := n6_; clear n0_ n1_ n2_ n3_ n4_ n5_ n6_ hb hbox hg))
  have n0_ := Aside0.mk (blk_drew BS.out)
  have n1_ := Aside0.mk (blk_drew B3.out)
  have n2_ := Aside0.mk (HB.out.drew)
  have n3_ := Aside0.mk (Kd.R_drew HO.out)
  clear BS B3 HB HO
  have BS := n0_; have B3 := n1_; have HB := n2_; have HO := n3_
  clear n0_ n1_ n2_ n3_
  refine start_ (n := 7) (S := fun w' => w'.cell? ⟨S, 0, none⟩ = some (.slice A l.length c) ∧ w'.cell? ⟨g3, 0, none⟩ = some (.int .i64 t0) ∧ w'.cell? ⟨g3, 1, none⟩ = some (.int .i64 t1) ∧ w'.cell? ⟨g3, 2, none⟩ = some (.int .i64 t2) ∧ w'.cell? ⟨g3, 3, none⟩ = some (.int .i64 t3)) (ds := []) #[false, false, false, false, false, false, false] (by kernel_rfl) rfl rfl ⟨(blk_cell BS.out 0).trans rfl, (blk_cell B3.out 0).trans rfl, (blk_cell B3.out 1).trans rfl, (blk_cell B3.out 2).trans rfl, (blk_cell B3.out 3).trans rfl⟩ (fun hHeld => ?_)
  generalize w2.drew = w3 at BS B3 HB HO hHeld ⊢
  refine pure_ (i := 0) (N := some 6) (v := ?_) (a' := ?_) #[true, false, false, false, false, false, false] rfl rfl (by kernel_rfl) (fun _ _ _ h => h) (Or.inl ⟨by rfl, ?_⟩) ?_ ?_
  rotate_left
  · intro w'
    go_simp
    with_reducible rfl
  rotate_left
  · simp only [Act.put, lA_, lZ_, lS_, i64_w, i32_w]
    rfl
  refine pure_ (i := 1) (N := some 7) (v := ?_) (a' := ?_) #[true, true, false, false, false, false, false] rfl rfl (by kernel_rfl) (fun _ _ _ h => h) (Or.inl ⟨by rfl, ?_⟩) ?_ ?_
  rotate_left
  · intro w'
    go_simp
    with_reducible rfl
  rotate_left
  · simp only [Act.put, lA_, lZ_, lS_, i64_w, i32_w]
    rfl
  refine pure_ (i := 2) (N := some 8) (v := ?_) (a' := ?_) #[true, true, true, false, false, false, false] rfl rfl (by kernel_rfl) (fun _ _ _ h => h) (Or.inl ⟨by rfl, ?_⟩) ?_ ?_
  rotate_left
  · intro w'
    go_simp
    with_reducible rfl
  rotate_left
  · simp only [Act.put, lA_, lZ_, lS_, i64_w, i32_w]
    rfl
  refine take_ (i := 3) (N := some 9) (v := ?_) (a' := ?_) #[true, true, true, true, false, false, false] rfl rfl (by kernel_rfl) (fun _ _ _ h => h) (Or.inl ⟨by rfl, ?_⟩) hHeld ?_ ?_
  rotate_left
  · rintro w' ⟨s0, s1, s2, s3, s4⟩
    go_simp
    with_reducible rfl
  rotate_left
  · simp only [Act.put, lA_, lZ_, lS_, i64_w, i32_w]
    rfl
  refine take_ (i := 4) (N := some 10) (v := ?_) (a' := ?_) #[true, true, true, true, true, false, false] rfl rfl (by kernel_rfl) (fun _ _ _ h => h) (Or.inl ⟨by rfl, ?_⟩) hHeld ?_ ?_
  rotate_left
  · rintro w' ⟨s0, s1, s2, s3, s4⟩
    go_simp
    with_reducible rfl
  rotate_left
  · simp only [Act.put, lA_, lZ_, lS_, i64_w, i32_w]
    rfl
  refine one_ (i := 5) (N := some 11) #[true, true, true, true, true, true, false] rfl rfl (by kernel_rfl) (by decide) (fun K hK => ?_)
  refine goes_ Try.func91 (by kernel_rfl) rfl #[.slice A l.length c, .agg #[.int .i64 t0, .int .i64 t1, .int .i64 t2, .int .i64 t3]] (by rfl) rfl rfl (by (try simp only [List.map_toArray, List.map_cons, List.map_nil]); first | done | rfl) ?_
  with_reducible refine (impl_Term_91.calls k A c l t0 t1 t2 t3 i _ (Kd.R_reads' HO.out).2.2 (Kd.R_reads' HO.out).2.1 HI.out).mono ?_
  rintro e w4 ⟨rfl, hb⟩
  refine ⟨_, rfl, ?_⟩
  have n0_ := Aside0.mk (blk_below BS.out hb)
  have n1_ := Aside0.mk (blk_below B3.out hb)
  have n2_ := Aside0.mk (below_stepN HB.out (Nat.le_trans HN.out HB.out.size) hb)
  have n3_ := Aside0.mk (Kd.R_below HO.out hb)
  clear BS B3 HB HO hb
  have BS := n0_; have B3 := n1_; have HB := n2_; have HO := n3_
  clear n0_ n1_ n2_ n3_
  refine hK.out _ _ ⟨(blk_cell BS.out 0).trans rfl, (blk_cell B3.out 0).trans rfl, (blk_cell B3.out 1).trans rfl, (blk_cell B3.out 2).trans rfl, (blk_cell B3.out 3).trans rfl⟩ (fun hHeld => ?_)
  clear hK K
  refine norm_ (a' := ?_) ?_ ?_
  rotate_left
  · show Act.put _ (some 11) _ = _
    simp only [Act.put, lA_, lZ_, lS_, i64_w, i32_w]
    rfl
  refine pure_ (i := 6) (N := some 5) (v := ?_) (a' := ?_) #[true, true, true, true, true, true, true] rfl rfl (by kernel_rfl) (fun _ _ _ h => h) (Or.inl ⟨by rfl, ?_⟩) ?_ ?_
  rotate_left
  · intro w'
    go_simp
    with_reducible rfl
  rotate_left
  · simp only [Act.put, lA_, lZ_, lS_, i64_w, i32_w]
    rfl
  refine done_ (by kernel_rfl) ?_
  by_cases h0 : 0 ≤ i
  · have h1 : decide (i ≥ 0) = true := decide_eq_true h0
    have h2 : decide (0 ≤ i) = true := decide_eq_true h0
    have HE := Aside0.mk (show putP l full (⟨t0, t1, t2, t3⟩ : S26) i = (i, l, full) by unfold putP; rw [if_pos h0])
    go_wp2
    go_ret
    rw [HE.out]
    exact ⟨rfl, ⟨_, BS.out, HNS.out, HO.out⟩, HB.out⟩
  · have h1 : decide (i ≥ 0) = false := decide_eq_false h0
    have h2 : decide (0 ≤ i) = false := decide_eq_false h0
    have p0_ : w4.cell? ⟨S, 0, none⟩ = some (.slice A l.length c) := (blk_cell BS.out 0).trans rfl; have p1_ : w4.cell? ⟨S, 1, none⟩ = some (.bool full) := (blk_cell BS.out 1).trans rfl
    have q1_ := blk_frozen BS.out 1
    by_cases h4 : 400 ≤ l.length
    · have h5 : decide ((l.length : Int) ≥ 400) = true := decide_eq_true (by omega)
      have h6 : decide ((400 : Int) ≤ (l.length : Int)) = true := decide_eq_true (by omega)
      have HE := Aside0.mk (show putP l full (⟨t0, t1, t2, t3⟩ : S26) i = (0, l, true) by unfold putP; rw [if_neg h0, if_pos h4])
      go_wp2
      go_ret
      rw [HE.out]
      exact ⟨rfl, ⟨_, blk_put BS.out 1 _ rfl, HNS.out, Kd.R_far HO.out (p := ⟨S, 1, none⟩) (fun k hk => hk) _⟩, HB.out.setCell (p := ⟨S, 1, none⟩) HNS.out _⟩
    · have h5 : decide ((l.length : Int) ≥ 400) = false := decide_eq_false (by omega)
      have h6 : decide ((400 : Int) ≤ (l.length : Int)) = false := decide_eq_false (by omega)
      cases full with
      | true =>
        have HE := Aside0.mk (show putP l true (⟨t0, t1, t2, t3⟩ : S26) i = (0, l, true) by unfold putP; rw [if_neg h0, if_neg h4, if_pos rfl])
        go_wp2
        go_ret
        rw [HE.out]
        exact ⟨rfl, ⟨_, blk_put BS.out 1 _ rfl, HNS.out, Kd.R_far HO.out (p := ⟨S, 1, none⟩) (fun k hk => hk) _⟩, HB.out.setCell (p := ⟨S, 1, none⟩) HNS.out _⟩
      | false =>
        have HE := Aside0.mk (show putP l false (⟨t0, t1, t2, t3⟩ : S26) i = ((l.length : Int), l ++ [(⟨t0, t1, t2, t3⟩ : S26)], false) by unfold putP; rw [if_neg h0, if_neg h4, if_neg (by decide)])
        have HLL := Aside0.mk (show l.length < 400 by omega)
        go_wp2_with fail
        clear p0_ p1_ q1_
        have n0_ := Aside0.mk (blk_drew BS.out)
        have n1_ := Aside0.mk (blk_drew B3.out)
        have n2_ := Aside0.mk (HB.out.drew)
        have n3_ := Aside0.mk (Kd.R_drew HO.out)
        clear BS B3 HB HO
        have BS := n0_; have B3 := n1_; have HB := n2_; have HO := n3_
        clear n0_ n1_ n2_ n3_
        refine start_ (n := 11) (S := fun w' => w'.cell? ⟨S, 0, none⟩ = some (.slice A l.length c) ∧ w'.cell? ⟨g3, 0, none⟩ = some (.int .i64 t0) ∧ w'.cell? ⟨g3, 1, none⟩ = some (.int .i64 t1) ∧ w'.cell? ⟨g3, 2, none⟩ = some (.int .i64 t2) ∧ w'.cell? ⟨g3, 3, none⟩ = some (.int .i64 t3)) (ds := [10]) #[false, false, false, false, false, false, false, false, false, false, false] (by kernel_rfl) rfl rfl ⟨(blk_cell BS.out 0).trans rfl, (blk_cell B3.out 0).trans rfl, (blk_cell B3.out 1).trans rfl, (blk_cell B3.out 2).trans rfl, (blk_cell B3.out 3).trans rfl⟩ (fun hHeld => ?_)
        generalize w4.drew = w5 at BS B3 HB HO hHeld ⊢
        refine pure_ (i := 0) (N := some 30) (v := ?_) (a' := ?_) #[true, false, false, false, false, false, false, false, false, false, false] rfl rfl (by kernel_rfl) (fun _ _ _ h => h) (Or.inl ⟨by rfl, ?_⟩) ?_ ?_
        rotate_left
        · intro w'
          go_simp
          with_reducible rfl
        rotate_left
        · simp only [Act.put, lA_, lZ_, lS_, i64_w, i32_w]
          rfl
        refine pure_ (i := 1) (N := some 31) (v := ?_) (a' := ?_) #[true, true, false, false, false, false, false, false, false, false, false] rfl rfl (by kernel_rfl) (fun _ _ _ h => h) (Or.inl ⟨by rfl, ?_⟩) ?_ ?_
        rotate_left
        · intro w'
          go_simp
          with_reducible rfl
        rotate_left
        · simp only [Act.put, lA_, lZ_, lS_, i64_w, i32_w]
          rfl
        refine pure_ (i := 2) (N := some 32) (v := ?_) (a' := ?_) #[true, true, true, false, false, false, false, false, false, false, false] rfl rfl (by kernel_rfl) (fun _ _ _ h => h) (Or.inl ⟨by rfl, ?_⟩) ?_ ?_
        rotate_left
        · intro w'
          go_simp
          with_reducible rfl
        rotate_left
        · simp only [Act.put, lA_, lZ_, lS_, i64_w, i32_w]
          rfl
        refine pure_ (i := 3) (N := some 33) (v := ?_) (a' := ?_) #[true, true, true, true, false, false, false, false, false, false, false] rfl rfl (by kernel_rfl) (fun _ _ _ h => h) (Or.inl ⟨by rfl, ?_⟩) ?_ ?_
        rotate_left
        · intro w'
          go_simp
          with_reducible rfl
        rotate_left
        · simp only [Act.put, lA_, lZ_, lS_, i64_w, i32_w]
          rfl
        refine take_ (i := 4) (N := some 34) (v := ?_) (a' := ?_) #[true, true, true, true, true, false, false, false, false, false, false] rfl rfl (by kernel_rfl) (fun _ _ _ h => h) (Or.inl ⟨by rfl, ?_⟩) hHeld ?_ ?_
        rotate_left
        · rintro w' ⟨s0, s1, s2, s3, s4⟩
          go_simp
          with_reducible rfl
        rotate_left
        · simp only [Act.put, lA_, lZ_, lS_, i64_w, i32_w]
          rfl
        refine take_ (i := 5) (N := some 35) (v := ?_) (a' := ?_) #[true, true, true, true, true, true, false, false, false, false, false] rfl rfl (by kernel_rfl) (fun _ _ _ h => h) (Or.inl ⟨by rfl, ?_⟩) hHeld ?_ ?_
        rotate_left
        · rintro w' ⟨s0, s1, s2, s3, s4⟩
          go_simp
          with_reducible rfl
        rotate_left
        · simp only [Act.put, lA_, lZ_, lS_, i64_w, i32_w]
          rfl
        refine one_ (i := 6) (N := some 36) #[true, true, true, true, true, true, true, false, false, false, false] rfl rfl (by kernel_rfl) (by decide) (fun K hK => ?_)
        refine value_ (w1 := ?_) (v := ?_) (by rfl) rfl ?_ ?_
        rotate_left 2
        · go_simp
          constructor
          · rfl
          · rfl
        refine hK.out _ _ ⟨(blk_cell (blk_alloc BS.out _) 0).trans rfl, (blk_cell (blk_alloc B3.out _) 0).trans rfl, (blk_cell (blk_alloc B3.out _) 1).trans rfl, (blk_cell (blk_alloc B3.out _) 2).trans rfl, (blk_cell (blk_alloc B3.out _) 3).trans rfl⟩ (fun hHeld => ?_)
        clear hK K
        refine norm_ (a' := ?_) ?_ ?_
        rotate_left
        · show Act.put _ (some 36) _ = _
          simp only [Act.put, lA_, lZ_, lS_, i64_w, i32_w]
          rfl
        refine one_ (i := 7) (N := some 37) #[true, true, true, true, true, true, true, true, false, false, false] rfl rfl (by kernel_rfl) (by decide) (fun K hK => ?_)
        refine Kd.R_append_step k26 (w0 := w) N (by rfl) (.tmp 34) (.tmp 36) 24 26 (.agg #[(.int .i64 0), (.int .i64 0), (.int .i64 0), (.int .i64 0)]) 32 rfl Try.underlying24 info26 rfl (by decide) (by omega) (.slice A l.length c) l (⟨t0, t1, t2, t3⟩ : S26) [.int .i64 t0, .int .i64 t1, .int .i64 t2, .int .i64 t3] (fun k => k ≠ S) (fun _ => False) rfl rfl ?aP (fun _ hk => hk.elim) ?aF ?aO ?aB ?aS ?aL ?_
        (case aP => exact k26_mkM _ _ _ (⟨t0, t1, t2, t3⟩ : S26))
        (case aB => exact HB.out)
        (case aF => exact fun k hk => Nat.ne_of_gt (Nat.lt_of_lt_of_le (blk_lt BS.out) hk))
        (case aO => exact HO.out)
        (case aS => exact Nat.le_trans HN.out HB.out.size)
        (case aL => have := HLL.out; omega)
        intro v7 w6 ho hb hg hat
        have n0_ := Aside0.mk (blk_grown BS.out hg (fun e => (HO.out.1 S e.symm) rfl))
        have n1_ := Aside0.mk (blk_grown B3.out hg (fun e => OW3.out g3 e.symm rfl))
        clear BS B3 HB HO
        have BS := n0_; have B3 := n1_; have HB := Aside0.mk hb; have HO := Aside0.mk ho
        clear n0_ n1_ ho hb hg hat
        obtain ⟨A7, c7, e7⟩ := Kd.R_slice HO.out
        rw [show (l ++ [(⟨t0, t1, t2, t3⟩ : S26)]).length = l.length + 1 by simp] at e7
        subst e7
        refine hK.out _ _ ⟨(blk_cell BS.out 0).trans rfl, (blk_cell B3.out 0).trans rfl, (blk_cell B3.out 1).trans rfl, (blk_cell B3.out 2).trans rfl, (blk_cell B3.out 3).trans rfl⟩ (fun hHeld => ?_)
        clear hK K
        refine norm_ (a' := ?_) ?_ ?_
        rotate_left
        · show Act.put _ (some 37) _ = _
          simp only [Act.put, lA_, lZ_, lS_, i64_w, i32_w]
          rfl
        refine pure_ (i := 8) (N := some 38) (v := ?_) (a' := ?_) #[true, true, true, true, true, true, true, true, true, false, false] rfl rfl (by kernel_rfl) (fun _ _ _ h => h) (Or.inl ⟨by rfl, ?_⟩) ?_ ?_
        rotate_left
        · intro w'
          go_simp
          with_reducible rfl
        rotate_left
        · simp only [Act.put, lA_, lZ_, lS_, i64_w, i32_w]
          rfl
        refine pure_ (i := 9) (N := some 39) (v := ?_) (a' := ?_) #[true, true, true, true, true, true, true, true, true, true, false] rfl rfl (by kernel_rfl) (fun _ _ _ h => h) (Or.inl ⟨by rfl, ?_⟩) ?_ ?_
        rotate_left
        · intro w'
          go_simp
          with_reducible rfl
        rotate_left
        · simp only [Act.put, lA_, lZ_, lS_, i64_w, i32_w]
          rfl
        refine last_ (i := 10) (N := none) #[true, true, true, true, true, true, true, true, true, true, true] rfl rfl (by kernel_rfl) (by decide) (fun K hK => ?_)
        have hs_ : w6.cell? ⟨S, 0, none⟩ = some (.slice A l.length c) := (blk_cell BS.out 0).trans rfl
        have hf_ := blk_frozen BS.out 0
        refine skip_ (w1 := ?_) (by rfl) rfl ?_ ?_
        rotate_left
        · go_simp
          rfl
        refine hK.out _ _ ?_
        clear hK K
        refine done_ (by kernel_rfl) ?_
        have n0_ : Aside0 ((w6.setCell ⟨S, 0, none⟩ (.slice A7 (l.length + 1) c7)).heap[S]? = some (.cells #[.slice A7 (l.length + 1) c7, .bool false] 107 (0, 0))) := Aside0.mk (blk_put BS.out 0 (.slice A7 (l.length + 1) c7) rfl)
        have n2_ := Aside0.mk (HB.out.setCell (p := ⟨S, 0, none⟩) HNS.out (.slice A7 (l.length + 1) c7))
        have n3_ := Aside0.mk (Kd.R_far HO.out (p := ⟨S, 0, none⟩) (fun k hk => hk) (.slice A7 (l.length + 1) c7))
        clear BS HB HO B3 hs_ hf_
        have BS := n0_; have HB := n2_; have HO := n3_
        clear n0_ n2_ n3_
        generalize w6.setCell ⟨S, 0, none⟩ (.slice A7 (l.length + 1) c7) = w7 at BS HB HO ⊢
        have p0_ : w7.cell? ⟨S, 0, none⟩ = some (.slice A7 (l.length + 1) c7) := (blk_cell BS.out 0).trans rfl
        go_wp2
        go_ret
        rw [HE.out]
        exact ⟨by simp, ⟨_, BS.out, HNS.out, HO.out⟩, HB.out⟩
def SheetV (W : World) (N S : Nat) (v : Value) (l : List S26) (full : Bool) : Prop := W.heap[S]? = some (.cells #[v, .bool full] 107 (0, 0)) ∧ N ≤ S ∧ k26.R 26 W N (fun k => k ≠ S) v l
def KeepV (w W : World) (S : Nat) (v : Value) : Prop := ∀ b, b < w.heap.size → b ≠ S → v.ownBlock ≠ some b → W.heap[b]? = w.heap[b]?
theorem keepV_below {w W W' : World} {S : Nat} {v : Value} (h : KeepV w W S v) (hs : w.heap.size ≤ W.heap.size) (hb : Below W.heap.size W W') : KeepV w W' S v := fun b h1 h2 h3 => (hb.block b (Nat.lt_of_lt_of_le h1 hs)).trans (h b h1 h2 h3)
theorem keepV_drew {w W : World} {S : Nat} {v : Value} (h : KeepV w W S v) : KeepV w W.drew S v := h
theorem keepV_set {w W : World} {S : Nat} {v : Value} (h : KeepV w W S v) (j : Nat) (u : Value) : KeepV w (W.setCell ⟨S, j, none⟩ u) S v := fun b h1 h2 h3 => (Below.heap_setCell W ⟨S, j, none⟩ u b h2).trans (h b h1 h2 h3)
theorem keepV_grown {w W W' : World} {S : Nat} {v : Value} (h : KeepV w W S v) (hs : w.heap.size ≤ W.heap.size) (hg : W.grownBy W' v.ownBlock) : KeepV w W' S v := fun b h1 h2 h3 => (hg.block b (Nat.lt_of_lt_of_le h1 hs) (fun e => h3 e.symm)).trans (h b h1 h2 h3)
set_option maxHeartbeats 8000000 in
set_option maxRecDepth 100000 in
theorem impl_sheet_put.callsV (k : Nat) (S N : Nat) (v : Value) (l : List S26) (full : Bool) (t0 t1 t2 t3 i : Int) (w : World) (hS : SheetV w N S v l full) (hN : N ≤ w.heap.size) (hi : impl_Term_91.f k l t0 t1 t2 t3 = some i) :
    Calls Try.prog 56 #[.pointer (some ⟨S, 0, none⟩), .agg #[.int .i64 t0, .int .i64 t1, .int .i64 t2, .int .i64 t3]] w fun e w' => e = .returned (.int .i64 (putP l full ⟨t0, t1, t2, t3⟩ i).1) ∧ (∃ v', SheetV w' N S v' (putP l full ⟨t0, t1, t2, t3⟩ i).2.1 (putP l full ⟨t0, t1, t2, t3⟩ i).2.2 ∧ ∀ k, v'.ownBlock = some k → v.ownBlock = some k ∨ w.heap.size ≤ k) ∧ KeepV w w' S v ∧ Below N w w' := by
  obtain ⟨hb, hns, hr⟩ := hS
  obtain ⟨A, c, rfl⟩ := Kd.R_slice hr
  have BS := Aside0.mk hb
  have HNS := Aside0.mk hns
  have HO := Aside0.mk hr
  have HN := Aside0.mk hN
  have HI := Aside0.mk hi
  have HB := Aside0.mk (Below.refl N w)
  have HV : Aside0 (KeepV w w S (.slice A l.length c)) := Aside0.mk (fun _ _ _ _ => rfl)
  clear hb hns hr hN hi
  go_enter Try.func56, Try.ntmps56
  go_wp2_with (first | ((with_reducible refine gate_dst (N := 3) rfl ?_); refine box_event ?hg (N := 3) ?hd (cs := #[.int .i64 t0, .int .i64 t1, .int .i64 t2, .int .i64 t3]) (t := 26) ?hr ?_; (case hd => rfl); (case hg => rfl); (case hr => first | (go_simp; done) | (go_simp; rfl)); intro g3 hg w2 hbox hb; have n0_ := Aside0.mk (below_stepN HB.out (Nat.le_trans HN.out HB.out.size) hb); have n1_ := Aside0.mk hbox; have n2_ := Aside0.mk (blk_below BS.out hb); have n3_ := Aside0.mk (Kd.R_below HO.out hb); have n4_ := Aside0.mk (show S ≠ g3 by rw [hg]; exact Nat.ne_of_lt (blk_lt BS.out)); have n5_ := Aside0.mk (show N ≤ g3 by rw [hg]; exact Nat.le_trans HN.out HB.out.size); have n6_ := Aside0.mk (show ∀ k, (.slice A l.length c : Value).ownBlock = some k → k ≠ g3 from fun k hk => by obtain ⟨_, hi⟩ := Kd.R_own HO.out; rw [hg]; exact Nat.ne_of_lt (own_lt hi k hk)); have v0_ := Aside0.mk (keepV_below HV.out HB.out.size hb); clear HB BS HO HV; have HV := v0_; clear v0_; have HB := n0_; have B3 := n1_; have BS := n2_; have HO := n3_; have NE3 := n4_; have GE3 := n5_; have OW3 := n6_; clear n0_ n1_ n2_ n3_ n4_ n5_ n6_ hb hbox hg))
  have n0_ := Aside0.mk (blk_drew BS.out)
  have n1_ := Aside0.mk (blk_drew B3.out)
  have n2_ := Aside0.mk (HB.out.drew)
  have n3_ := Aside0.mk (Kd.R_drew HO.out)
  clear BS B3 HB HO
  have v0_ := Aside0.mk (keepV_drew HV.out)
  clear HV
  have HV := v0_
  clear v0_
  have BS := n0_; have B3 := n1_; have HB := n2_; have HO := n3_
  clear n0_ n1_ n2_ n3_
  refine start_ (n := 7) (S := fun w' => w'.cell? ⟨S, 0, none⟩ = some (.slice A l.length c) ∧ w'.cell? ⟨g3, 0, none⟩ = some (.int .i64 t0) ∧ w'.cell? ⟨g3, 1, none⟩ = some (.int .i64 t1) ∧ w'.cell? ⟨g3, 2, none⟩ = some (.int .i64 t2) ∧ w'.cell? ⟨g3, 3, none⟩ = some (.int .i64 t3)) (ds := []) #[false, false, false, false, false, false, false] (by kernel_rfl) rfl rfl ⟨(blk_cell BS.out 0).trans rfl, (blk_cell B3.out 0).trans rfl, (blk_cell B3.out 1).trans rfl, (blk_cell B3.out 2).trans rfl, (blk_cell B3.out 3).trans rfl⟩ (fun hHeld => ?_)
  generalize w2.drew = w3 at BS B3 HB HO HV hHeld ⊢
  refine pure_ (i := 0) (N := some 6) (v := ?_) (a' := ?_) #[true, false, false, false, false, false, false] rfl rfl (by kernel_rfl) (fun _ _ _ h => h) (Or.inl ⟨by rfl, ?_⟩) ?_ ?_
  rotate_left
  · intro w'
    go_simp
    with_reducible rfl
  rotate_left
  · simp only [Act.put, lA_, lZ_, lS_, i64_w, i32_w]
    rfl
  refine pure_ (i := 1) (N := some 7) (v := ?_) (a' := ?_) #[true, true, false, false, false, false, false] rfl rfl (by kernel_rfl) (fun _ _ _ h => h) (Or.inl ⟨by rfl, ?_⟩) ?_ ?_
  rotate_left
  · intro w'
    go_simp
    with_reducible rfl
  rotate_left
  · simp only [Act.put, lA_, lZ_, lS_, i64_w, i32_w]
    rfl
  refine pure_ (i := 2) (N := some 8) (v := ?_) (a' := ?_) #[true, true, true, false, false, false, false] rfl rfl (by kernel_rfl) (fun _ _ _ h => h) (Or.inl ⟨by rfl, ?_⟩) ?_ ?_
  rotate_left
  · intro w'
    go_simp
    with_reducible rfl
  rotate_left
  · simp only [Act.put, lA_, lZ_, lS_, i64_w, i32_w]
    rfl
  refine take_ (i := 3) (N := some 9) (v := ?_) (a' := ?_) #[true, true, true, true, false, false, false] rfl rfl (by kernel_rfl) (fun _ _ _ h => h) (Or.inl ⟨by rfl, ?_⟩) hHeld ?_ ?_
  rotate_left
  · rintro w' ⟨s0, s1, s2, s3, s4⟩
    go_simp
    with_reducible rfl
  rotate_left
  · simp only [Act.put, lA_, lZ_, lS_, i64_w, i32_w]
    rfl
  refine take_ (i := 4) (N := some 10) (v := ?_) (a' := ?_) #[true, true, true, true, true, false, false] rfl rfl (by kernel_rfl) (fun _ _ _ h => h) (Or.inl ⟨by rfl, ?_⟩) hHeld ?_ ?_
  rotate_left
  · rintro w' ⟨s0, s1, s2, s3, s4⟩
    go_simp
    with_reducible rfl
  rotate_left
  · simp only [Act.put, lA_, lZ_, lS_, i64_w, i32_w]
    rfl
  refine one_ (i := 5) (N := some 11) #[true, true, true, true, true, true, false] rfl rfl (by kernel_rfl) (by decide) (fun K hK => ?_)
  refine goes_ Try.func91 (by kernel_rfl) rfl #[.slice A l.length c, .agg #[.int .i64 t0, .int .i64 t1, .int .i64 t2, .int .i64 t3]] (by rfl) rfl rfl (by (try simp only [List.map_toArray, List.map_cons, List.map_nil]); first | done | rfl) ?_
  with_reducible refine (impl_Term_91.calls k A c l t0 t1 t2 t3 i _ (Kd.R_reads' HO.out).2.2 (Kd.R_reads' HO.out).2.1 HI.out).mono ?_
  rintro e w4 ⟨rfl, hb⟩
  refine ⟨_, rfl, ?_⟩
  have n0_ := Aside0.mk (blk_below BS.out hb)
  have n1_ := Aside0.mk (blk_below B3.out hb)
  have n2_ := Aside0.mk (below_stepN HB.out (Nat.le_trans HN.out HB.out.size) hb)
  have n3_ := Aside0.mk (Kd.R_below HO.out hb)
  have v0_ := Aside0.mk (keepV_below HV.out HB.out.size hb)
  clear BS B3 HB HO HV hb
  have HV := v0_
  clear v0_
  have BS := n0_; have B3 := n1_; have HB := n2_; have HO := n3_
  clear n0_ n1_ n2_ n3_
  refine hK.out _ _ ⟨(blk_cell BS.out 0).trans rfl, (blk_cell B3.out 0).trans rfl, (blk_cell B3.out 1).trans rfl, (blk_cell B3.out 2).trans rfl, (blk_cell B3.out 3).trans rfl⟩ (fun hHeld => ?_)
  clear hK K
  refine norm_ (a' := ?_) ?_ ?_
  rotate_left
  · show Act.put _ (some 11) _ = _
    simp only [Act.put, lA_, lZ_, lS_, i64_w, i32_w]
    rfl
  refine pure_ (i := 6) (N := some 5) (v := ?_) (a' := ?_) #[true, true, true, true, true, true, true] rfl rfl (by kernel_rfl) (fun _ _ _ h => h) (Or.inl ⟨by rfl, ?_⟩) ?_ ?_
  rotate_left
  · intro w'
    go_simp
    with_reducible rfl
  rotate_left
  · simp only [Act.put, lA_, lZ_, lS_, i64_w, i32_w]
    rfl
  refine done_ (by kernel_rfl) ?_
  by_cases h0 : 0 ≤ i
  · have h1 : decide (i ≥ 0) = true := decide_eq_true h0
    have h2 : decide (0 ≤ i) = true := decide_eq_true h0
    have HE := Aside0.mk (show putP l full (⟨t0, t1, t2, t3⟩ : S26) i = (i, l, full) by unfold putP; rw [if_pos h0])
    go_wp2
    go_ret
    rw [HE.out]
    exact ⟨rfl, ⟨_, ⟨BS.out, HNS.out, HO.out⟩, fun k hk => .inl hk⟩, HV.out, HB.out⟩
  · have h1 : decide (i ≥ 0) = false := decide_eq_false h0
    have h2 : decide (0 ≤ i) = false := decide_eq_false h0
    have p0_ : w4.cell? ⟨S, 0, none⟩ = some (.slice A l.length c) := (blk_cell BS.out 0).trans rfl; have p1_ : w4.cell? ⟨S, 1, none⟩ = some (.bool full) := (blk_cell BS.out 1).trans rfl
    have q1_ := blk_frozen BS.out 1
    by_cases h4 : 400 ≤ l.length
    · have h5 : decide ((l.length : Int) ≥ 400) = true := decide_eq_true (by omega)
      have h6 : decide ((400 : Int) ≤ (l.length : Int)) = true := decide_eq_true (by omega)
      have HE := Aside0.mk (show putP l full (⟨t0, t1, t2, t3⟩ : S26) i = (0, l, true) by unfold putP; rw [if_neg h0, if_pos h4])
      go_wp2
      go_ret
      rw [HE.out]
      exact ⟨rfl, ⟨_, ⟨blk_put BS.out 1 _ rfl, HNS.out, Kd.R_far HO.out (p := ⟨S, 1, none⟩) (fun k hk => hk) _⟩, fun k hk => .inl hk⟩, keepV_set HV.out 1 _, HB.out.setCell (p := ⟨S, 1, none⟩) HNS.out _⟩
    · have h5 : decide ((l.length : Int) ≥ 400) = false := decide_eq_false (by omega)
      have h6 : decide ((400 : Int) ≤ (l.length : Int)) = false := decide_eq_false (by omega)
      cases full with
      | true =>
        have HE := Aside0.mk (show putP l true (⟨t0, t1, t2, t3⟩ : S26) i = (0, l, true) by unfold putP; rw [if_neg h0, if_neg h4, if_pos rfl])
        go_wp2
        go_ret
        rw [HE.out]
        exact ⟨rfl, ⟨_, ⟨blk_put BS.out 1 _ rfl, HNS.out, Kd.R_far HO.out (p := ⟨S, 1, none⟩) (fun k hk => hk) _⟩, fun k hk => .inl hk⟩, keepV_set HV.out 1 _, HB.out.setCell (p := ⟨S, 1, none⟩) HNS.out _⟩
      | false =>
        have HE := Aside0.mk (show putP l false (⟨t0, t1, t2, t3⟩ : S26) i = ((l.length : Int), l ++ [(⟨t0, t1, t2, t3⟩ : S26)], false) by unfold putP; rw [if_neg h0, if_neg h4, if_neg (by decide)])
        have HLL := Aside0.mk (show l.length < 400 by omega)
        go_wp2_with fail
        clear p0_ p1_ q1_
        have n0_ := Aside0.mk (blk_drew BS.out)
        have n1_ := Aside0.mk (blk_drew B3.out)
        have n2_ := Aside0.mk (HB.out.drew)
        have n3_ := Aside0.mk (Kd.R_drew HO.out)
        clear BS B3 HB HO
        have v0_ := Aside0.mk (keepV_drew HV.out)
        clear HV
        have HV := v0_
        clear v0_
        have BS := n0_; have B3 := n1_; have HB := n2_; have HO := n3_
        clear n0_ n1_ n2_ n3_
        refine start_ (n := 11) (S := fun w' => w'.cell? ⟨S, 0, none⟩ = some (.slice A l.length c) ∧ w'.cell? ⟨g3, 0, none⟩ = some (.int .i64 t0) ∧ w'.cell? ⟨g3, 1, none⟩ = some (.int .i64 t1) ∧ w'.cell? ⟨g3, 2, none⟩ = some (.int .i64 t2) ∧ w'.cell? ⟨g3, 3, none⟩ = some (.int .i64 t3)) (ds := [10]) #[false, false, false, false, false, false, false, false, false, false, false] (by kernel_rfl) rfl rfl ⟨(blk_cell BS.out 0).trans rfl, (blk_cell B3.out 0).trans rfl, (blk_cell B3.out 1).trans rfl, (blk_cell B3.out 2).trans rfl, (blk_cell B3.out 3).trans rfl⟩ (fun hHeld => ?_)
        generalize w4.drew = w5 at BS B3 HB HO HV hHeld ⊢
        refine pure_ (i := 0) (N := some 30) (v := ?_) (a' := ?_) #[true, false, false, false, false, false, false, false, false, false, false] rfl rfl (by kernel_rfl) (fun _ _ _ h => h) (Or.inl ⟨by rfl, ?_⟩) ?_ ?_
        rotate_left
        · intro w'
          go_simp
          with_reducible rfl
        rotate_left
        · simp only [Act.put, lA_, lZ_, lS_, i64_w, i32_w]
          rfl
        refine pure_ (i := 1) (N := some 31) (v := ?_) (a' := ?_) #[true, true, false, false, false, false, false, false, false, false, false] rfl rfl (by kernel_rfl) (fun _ _ _ h => h) (Or.inl ⟨by rfl, ?_⟩) ?_ ?_
        rotate_left
        · intro w'
          go_simp
          with_reducible rfl
        rotate_left
        · simp only [Act.put, lA_, lZ_, lS_, i64_w, i32_w]
          rfl
        refine pure_ (i := 2) (N := some 32) (v := ?_) (a' := ?_) #[true, true, true, false, false, false, false, false, false, false, false] rfl rfl (by kernel_rfl) (fun _ _ _ h => h) (Or.inl ⟨by rfl, ?_⟩) ?_ ?_
        rotate_left
        · intro w'
          go_simp
          with_reducible rfl
        rotate_left
        · simp only [Act.put, lA_, lZ_, lS_, i64_w, i32_w]
          rfl
        refine pure_ (i := 3) (N := some 33) (v := ?_) (a' := ?_) #[true, true, true, true, false, false, false, false, false, false, false] rfl rfl (by kernel_rfl) (fun _ _ _ h => h) (Or.inl ⟨by rfl, ?_⟩) ?_ ?_
        rotate_left
        · intro w'
          go_simp
          with_reducible rfl
        rotate_left
        · simp only [Act.put, lA_, lZ_, lS_, i64_w, i32_w]
          rfl
        refine take_ (i := 4) (N := some 34) (v := ?_) (a' := ?_) #[true, true, true, true, true, false, false, false, false, false, false] rfl rfl (by kernel_rfl) (fun _ _ _ h => h) (Or.inl ⟨by rfl, ?_⟩) hHeld ?_ ?_
        rotate_left
        · rintro w' ⟨s0, s1, s2, s3, s4⟩
          go_simp
          with_reducible rfl
        rotate_left
        · simp only [Act.put, lA_, lZ_, lS_, i64_w, i32_w]
          rfl
        refine take_ (i := 5) (N := some 35) (v := ?_) (a' := ?_) #[true, true, true, true, true, true, false, false, false, false, false] rfl rfl (by kernel_rfl) (fun _ _ _ h => h) (Or.inl ⟨by rfl, ?_⟩) hHeld ?_ ?_
        rotate_left
        · rintro w' ⟨s0, s1, s2, s3, s4⟩
          go_simp
          with_reducible rfl
        rotate_left
        · simp only [Act.put, lA_, lZ_, lS_, i64_w, i32_w]
          rfl
        refine one_ (i := 6) (N := some 36) #[true, true, true, true, true, true, true, false, false, false, false] rfl rfl (by kernel_rfl) (by decide) (fun K hK => ?_)
        refine value_ (w1 := ?_) (v := ?_) (by rfl) rfl ?_ ?_
        rotate_left 2
        · go_simp
          constructor
          · rfl
          · rfl
        refine hK.out _ _ ⟨(blk_cell (blk_alloc BS.out _) 0).trans rfl, (blk_cell (blk_alloc B3.out _) 0).trans rfl, (blk_cell (blk_alloc B3.out _) 1).trans rfl, (blk_cell (blk_alloc B3.out _) 2).trans rfl, (blk_cell (blk_alloc B3.out _) 3).trans rfl⟩ (fun hHeld => ?_)
        clear hK K
        refine norm_ (a' := ?_) ?_ ?_
        rotate_left
        · show Act.put _ (some 36) _ = _
          simp only [Act.put, lA_, lZ_, lS_, i64_w, i32_w]
          rfl
        refine one_ (i := 7) (N := some 37) #[true, true, true, true, true, true, true, true, false, false, false] rfl rfl (by kernel_rfl) (by decide) (fun K hK => ?_)
        refine Kd.R_append_step k26 (w0 := w) N (by rfl) (.tmp 34) (.tmp 36) 24 26 (.agg #[(.int .i64 0), (.int .i64 0), (.int .i64 0), (.int .i64 0)]) 32 rfl Try.underlying24 info26 rfl (by decide) (by omega) (.slice A l.length c) l (⟨t0, t1, t2, t3⟩ : S26) [.int .i64 t0, .int .i64 t1, .int .i64 t2, .int .i64 t3] (fun k => k ≠ S) (fun _ => False) rfl rfl ?aP (fun _ hk => hk.elim) ?aF ?aO ?aB ?aS ?aL ?_
        (case aP => exact k26_mkM _ _ _ (⟨t0, t1, t2, t3⟩ : S26))
        (case aB => exact HB.out)
        (case aF => exact fun k hk => Nat.ne_of_gt (Nat.lt_of_lt_of_le (blk_lt BS.out) hk))
        (case aO => exact HO.out)
        (case aS => exact Nat.le_trans HN.out HB.out.size)
        (case aL => have := HLL.out; omega)
        intro v7 w6 ho hb hg hat
        have n0_ := Aside0.mk (blk_grown BS.out hg (fun e => (HO.out.1 S e.symm) rfl))
        have n1_ := Aside0.mk (blk_grown B3.out hg (fun e => OW3.out g3 e.symm rfl))
        have v0_ := Aside0.mk (keepV_grown HV.out HB.out.size hg)
        have HAT : Aside0 (∀ k, v7.ownBlock = some k → (.slice A l.length c : Value).ownBlock = some k ∨ w.heap.size ≤ k) := Aside0.mk (fun k hk => by
          rcases hat with e | ⟨b, e, hle⟩
          · exact .inl (e ▸ hk)
          · rw [e] at hk; injection hk with hk; rw [← hk]; exact .inr (Nat.le_trans HB.out.size hle))
        clear BS B3 HB HO HV
        have HV := v0_
        clear v0_
        have BS := n0_; have B3 := n1_; have HB := Aside0.mk hb; have HO := Aside0.mk ho
        clear n0_ n1_ ho hb hg hat
        obtain ⟨A7, c7, e7⟩ := Kd.R_slice HO.out
        rw [show (l ++ [(⟨t0, t1, t2, t3⟩ : S26)]).length = l.length + 1 by simp] at e7
        subst e7
        refine hK.out _ _ ⟨(blk_cell BS.out 0).trans rfl, (blk_cell B3.out 0).trans rfl, (blk_cell B3.out 1).trans rfl, (blk_cell B3.out 2).trans rfl, (blk_cell B3.out 3).trans rfl⟩ (fun hHeld => ?_)
        clear hK K
        refine norm_ (a' := ?_) ?_ ?_
        rotate_left
        · show Act.put _ (some 37) _ = _
          simp only [Act.put, lA_, lZ_, lS_, i64_w, i32_w]
          rfl
        refine pure_ (i := 8) (N := some 38) (v := ?_) (a' := ?_) #[true, true, true, true, true, true, true, true, true, false, false] rfl rfl (by kernel_rfl) (fun _ _ _ h => h) (Or.inl ⟨by rfl, ?_⟩) ?_ ?_
        rotate_left
        · intro w'
          go_simp
          with_reducible rfl
        rotate_left
        · simp only [Act.put, lA_, lZ_, lS_, i64_w, i32_w]
          rfl
        refine pure_ (i := 9) (N := some 39) (v := ?_) (a' := ?_) #[true, true, true, true, true, true, true, true, true, true, false] rfl rfl (by kernel_rfl) (fun _ _ _ h => h) (Or.inl ⟨by rfl, ?_⟩) ?_ ?_
        rotate_left
        · intro w'
          go_simp
          with_reducible rfl
        rotate_left
        · simp only [Act.put, lA_, lZ_, lS_, i64_w, i32_w]
          rfl
        refine last_ (i := 10) (N := none) #[true, true, true, true, true, true, true, true, true, true, true] rfl rfl (by kernel_rfl) (by decide) (fun K hK => ?_)
        have hs_ : w6.cell? ⟨S, 0, none⟩ = some (.slice A l.length c) := (blk_cell BS.out 0).trans rfl
        have hf_ := blk_frozen BS.out 0
        refine skip_ (w1 := ?_) (by rfl) rfl ?_ ?_
        rotate_left
        · go_simp
          rfl
        refine hK.out _ _ ?_
        clear hK K
        refine done_ (by kernel_rfl) ?_
        have n0_ : Aside0 ((w6.setCell ⟨S, 0, none⟩ (.slice A7 (l.length + 1) c7)).heap[S]? = some (.cells #[.slice A7 (l.length + 1) c7, .bool false] 107 (0, 0))) := Aside0.mk (blk_put BS.out 0 (.slice A7 (l.length + 1) c7) rfl)
        have n2_ := Aside0.mk (HB.out.setCell (p := ⟨S, 0, none⟩) HNS.out (.slice A7 (l.length + 1) c7))
        have n3_ := Aside0.mk (Kd.R_far HO.out (p := ⟨S, 0, none⟩) (fun k hk => hk) (.slice A7 (l.length + 1) c7))
        have v0_ := Aside0.mk (keepV_set HV.out 0 (.slice A7 (l.length + 1) c7))
        clear BS HB HO HV B3 hs_ hf_
        have HV := v0_
        clear v0_
        have BS := n0_; have HB := n2_; have HO := n3_
        clear n0_ n2_ n3_
        generalize w6.setCell ⟨S, 0, none⟩ (.slice A7 (l.length + 1) c7) = w7 at BS HB HO HV ⊢
        have p0_ : w7.cell? ⟨S, 0, none⟩ = some (.slice A7 (l.length + 1) c7) := (blk_cell BS.out 0).trans rfl
        go_wp2
        go_ret
        rw [HE.out]
        exact ⟨by simp, ⟨_, ⟨BS.out, HNS.out, HO.out⟩, HAT.out⟩, HV.out, HB.out⟩
end Go.Proofs.Ytomaeijhljpgdaa.G
namespace Go.Proofs.Ytomaeijhljpgdaa.G
open Go.RowKit Go.Proofs.YtomaeijhljpgdaaW.PrintWords Go.Proofs.YtomaeijhljpgdaaW.PrintLast Go.Proofs.YtomaeijhljpgdaaW.PrintMore
attribute [local go_sem] max2_int min2_int max_two min_two max_three min_three max_four min_four   -- for this text's walks alone
set_option linter.unusedVariables false
set_option linter.unusedSimpArgs false
set_option maxHeartbeats 4000000 in
set_option maxRecDepth 100000 in
theorem impl_sheet_told.calls (S N : Nat) (l : List S26) (full : Bool) (at_ : Int) (w : World) (hS : Sheet w N S l full) (hN : N ≤ w.heap.size) :
    Calls Try.prog 55 #[.pointer (some ⟨S, 0, none⟩), .int .i64 at_] w fun e w' => ∃ v, e = .returned (.agg #[.int .i64 (if full = true then 2 else 0), .int .i64 (if full = true then 0 else at_), v]) ∧ k26.R 26 w' N (fun _ => True) v (if full = true then [] else l) ∧ Below N w w' := by
  obtain ⟨v, hb, hns, hr⟩ := hS
  obtain ⟨A, c, rfl⟩ := Kd.R_slice hr
  have BS := Aside0.mk hb
  have HNS := Aside0.mk hns
  have HO := Aside0.mk hr
  have HN := Aside0.mk hN
  have HB := Aside0.mk (Below.refl N w)
  clear hb hns hr hN
  cases full with
  | true =>
    go_enter Try.func55, Try.ntmps55
    go_wp2_with (first | ((with_reducible refine gate_dst (N := 4) rfl ?_); refine box_event ?hg (N := 4) ?hd (cs := #[.int .i64 0, .int .i64 0, .slice none 0 0]) (t := 30) ?hr ?_; (case hd => rfl); (case hg => rfl); (case hr => first | (go_simp; done) | (go_simp; rfl)); intro g4 hg w2 hbox hb; have n0_ := Aside0.mk (below_stepN HB.out (Nat.le_trans HN.out HB.out.size) hb); have n1_ := Aside0.mk hbox; have n2_ := Aside0.mk (blk_below BS.out hb); have n3_ := Aside0.mk (Kd.R_below HO.out hb); have n4_ := Aside0.mk (show S ≠ g4 by rw [hg]; exact Nat.ne_of_lt (blk_lt BS.out)); have n5_ := Aside0.mk (show N ≤ g4 by rw [hg]; exact Nat.le_trans HN.out HB.out.size); have n6_ := Aside0.mk (show ∀ k, (.slice A l.length c : Value).ownBlock = some k → k ≠ g4 from fun k hk => by obtain ⟨_, hi⟩ := Kd.R_own HO.out; rw [hg]; exact Nat.ne_of_lt (own_lt hi k hk)); clear HB BS HO; have HB := n0_; have B4 := n1_; have BS := n2_; have HO := n3_; have NE4 := n4_; have GE4 := n5_; have OW4 := n6_; clear n0_ n1_ n2_ n3_ n4_ n5_ n6_ hb hbox hg; have p0_ : w2.cell? ⟨S, 0, none⟩ = some (.slice A l.length c) := (blk_cell BS.out 0).trans rfl; have p1_ : w2.cell? ⟨S, 1, none⟩ = some (.bool true) := (blk_cell BS.out 1).trans rfl; have q0_ : w2.cell? ⟨g4, 0, none⟩ = some (.int .i64 0) := (blk_cell B4.out 0).trans rfl; have q1_ : w2.cell? ⟨g4, 1, none⟩ = some (.int .i64 0) := (blk_cell B4.out 1).trans rfl; have q2_ : w2.cell? ⟨g4, 2, none⟩ = some (.slice none 0 0) := (blk_cell B4.out 2).trans rfl; have f0_ := blk_frozen B4.out 0; have f1_ := blk_frozen B4.out 1; have f2_ := blk_frozen B4.out 2; have hne_ := NE4.out; have hne2_ := NE4.out.symm))
    refine bodyPost_ret (results_cell_row rfl _ _ g4 30 #[.int .i64 2, .int .i64 0, .slice none 0 0] (0, 0) _ rfl (blk_put (blk_put (blk_put B4.out 0 _ rfl) 1 _ rfl) 2 _ rfl) Try.underlying30 rfl (by kernel_rfl)) rfl ?_
    exact ⟨_, rfl, Kd.R_nil _ _ _ _ _, ((HB.out.setCell (p := ⟨g4, 0, none⟩) GE4.out _).setCell (p := ⟨g4, 1, none⟩) GE4.out _).setCell (p := ⟨g4, 2, none⟩) GE4.out _⟩
  | false =>
    go_enter Try.func55, Try.ntmps55
    go_wp2_with (first | ((with_reducible refine gate_dst (N := 4) rfl ?_); refine box_event ?hg (N := 4) ?hd (cs := #[.int .i64 0, .int .i64 0, .slice none 0 0]) (t := 30) ?hr ?_; (case hd => rfl); (case hg => rfl); (case hr => first | (go_simp; done) | (go_simp; rfl)); intro g4 hg w2 hbox hb; have n0_ := Aside0.mk (below_stepN HB.out (Nat.le_trans HN.out HB.out.size) hb); have n1_ := Aside0.mk hbox; have n2_ := Aside0.mk (blk_below BS.out hb); have n3_ := Aside0.mk (Kd.R_below HO.out hb); have n4_ := Aside0.mk (show S ≠ g4 by rw [hg]; exact Nat.ne_of_lt (blk_lt BS.out)); have n5_ := Aside0.mk (show N ≤ g4 by rw [hg]; exact Nat.le_trans HN.out HB.out.size); have n6_ := Aside0.mk (show ∀ k, (.slice A l.length c : Value).ownBlock = some k → k ≠ g4 from fun k hk => by obtain ⟨_, hi⟩ := Kd.R_own HO.out; rw [hg]; exact Nat.ne_of_lt (own_lt hi k hk)); clear HB BS HO; have HB := n0_; have B4 := n1_; have BS := n2_; have HO := n3_; have NE4 := n4_; have GE4 := n5_; have OW4 := n6_; clear n0_ n1_ n2_ n3_ n4_ n5_ n6_ hb hbox hg; have p0_ : w2.cell? ⟨S, 0, none⟩ = some (.slice A l.length c) := (blk_cell BS.out 0).trans rfl; have p1_ : w2.cell? ⟨S, 1, none⟩ = some (.bool false) := (blk_cell BS.out 1).trans rfl; have q0_ : w2.cell? ⟨g4, 0, none⟩ = some (.int .i64 0) := (blk_cell B4.out 0).trans rfl; have q1_ : w2.cell? ⟨g4, 1, none⟩ = some (.int .i64 0) := (blk_cell B4.out 1).trans rfl; have q2_ : w2.cell? ⟨g4, 2, none⟩ = some (.slice none 0 0) := (blk_cell B4.out 2).trans rfl; have f0_ := blk_frozen B4.out 0; have f1_ := blk_frozen B4.out 1; have f2_ := blk_frozen B4.out 2; have hne_ := NE4.out; have hne2_ := NE4.out.symm))
    refine bodyPost_ret (results_cell_row rfl _ _ g4 30 #[.int .i64 0, .int .i64 at_, .slice A l.length c] (0, 0) _ rfl (blk_put (blk_put (blk_put B4.out 0 _ rfl) 1 _ rfl) 2 _ rfl) Try.underlying30 rfl (by kernel_rfl)) rfl ?_
    refine ⟨_, rfl, ?_, ((HB.out.setCell (p := ⟨g4, 0, none⟩) GE4.out _).setCell (p := ⟨g4, 1, none⟩) GE4.out _).setCell (p := ⟨g4, 2, none⟩) GE4.out _⟩
    exact Kd.R_mono (Kd.R_far (Kd.R_far (Kd.R_far (R_not HO.out OW4.out) (p := ⟨g4, 0, none⟩) (fun k hk => hk) _) (p := ⟨g4, 1, none⟩) (fun k hk => hk) _) (p := ⟨g4, 2, none⟩) (fun k hk => hk) _) (fun _ _ => trivial)
end Go.Proofs.Ytomaeijhljpgdaa.G
namespace Go.Proofs.Ytomaeijhljpgdaa.G
open Go.RowKit Go.Proofs.YtomaeijhljpgdaaW.PrintWords Go.Proofs.YtomaeijhljpgdaaW.PrintLast Go.Proofs.YtomaeijhljpgdaaW.PrintMore
attribute [local go_sem] max2_int min2_int max_two min_two max_three min_three max_four min_four   -- for this text's walks alone
set_option linter.unusedVariables false
set_option linter.unusedSimpArgs false
theorem termsFault_len {l : List S26} (h : impl_TermsFault.f l = some 0) : l.length ≤ 400 := by
  unfold impl_TermsFault.f at h
  split at h
  · injection h with h
    split at h
    · cases h
    · omega
  · cases h
def toldP (r : Int × List S26 × Bool) : Int × Int × List S26 := if r.2.2 = true then (2, 0, []) else (0, r.1, r.2.1)
theorem impl_sheet_told.calls' (S N : Nat) (l : List S26) (full : Bool) (at_ : Int) (r1 r2 : Int) (r3 : List S26) (w : World) (hS : Sheet w N S l full) (hN : N ≤ w.heap.size) (h : toldP (at_, l, full) = (r1, r2, r3)) :
    Calls Try.prog 55 #[.pointer (some ⟨S, 0, none⟩), .int .i64 at_] w fun e w' => ∃ v, e = .returned (.agg #[.int .i64 r1, .int .i64 r2, v]) ∧ k26.R 26 w' N (fun _ => True) v r3 ∧ Below N w w' := by
  refine (impl_sheet_told.calls S N l full at_ w hS hN).mono ?_
  rintro e w' ⟨v, he, ho, hb⟩
  unfold toldP at h
  cases full with
  | true =>
    simp only [if_true, Prod.mk.injEq] at h he ho
    obtain ⟨rfl, rfl, rfl⟩ := h
    exact ⟨v, he, ho, hb⟩
  | false =>
    simp only [Bool.false_eq_true, if_false, Prod.mk.injEq] at h he ho
    obtain ⟨rfl, rfl, rfl⟩ := h
    exact ⟨v, he, ho, hb⟩
def impl_PutTerm.f (k : Nat) (l0 : List S26) (a1_0 a1_1 a1_2 a1_3 : Int) : Option (Int × Int × List S26) := (impl_TermsFault.f l0).bind fun c => (if c = 0 then ((impl_Term_fault.f a1_0 a1_1 a1_2 a1_3 l0).bind fun d => (if d = 0 then ((impl_Term_91.f k l0 a1_0 a1_1 a1_2 a1_3).bind fun i => (some (toldP (putP l0 false ⟨a1_0, a1_1, a1_2, a1_3⟩ i)))) else (some (d, 0, [])))) else (some (c, 0, [])))
set_option maxHeartbeats 4000000 in
set_option maxRecDepth 100000 in
theorem impl_PutTerm.calls (k : Nat) (A0 : Option Addr) (c0 : Nat) (l0 : List (S26)) (a1_0 : Int) (a1_1 : Int) (a1_2 : Int) (a1_3 : Int) (r1 : Int) (r2 : Int) (r3 : List (S26)) (w : World) (hr0 : Kd.C k26 w A0 l0.length l0) (hc0 : l0.length ≤ c0) (h : impl_PutTerm.f k l0 a1_0 a1_1 a1_2 a1_3 = some (r1, r2, r3)) :
    Calls Try.prog 12 #[.slice A0 l0.length c0, .agg #[.int .i64 a1_0, .int .i64 a1_1, .int .i64 a1_2, .int .i64 a1_3]] w fun e w' => ∃ v2_ : Value, e = .returned (.agg #[.int .i64 r1, .int .i64 r2, v2_]) ∧ Kd.R k26 26 w' w.heap.size (fun _ => True) v2_ r3 ∧ Below w.heap.size w w' := by
  unfold impl_PutTerm.f at h
  obtain ⟨c, ht, h⟩ := Option.bind_eq_some_iff.mp h
  have HR := Aside0.mk hr0
  have HC := Aside0.mk hc0
  have HT := Aside0.mk ht
  have HB := Aside0.mk (Below.refl w.heap.size w)
  clear hr0 hc0
  by_cases hz : c = 0
  · rw [if_pos hz] at h
    subst hz
    have hlen := termsFault_len ht
    clear ht
    obtain ⟨d, hf, h⟩ := Option.bind_eq_some_iff.mp h
    have HF := Aside0.mk hf
    clear hf
    by_cases hd : d = 0
    · rw [if_pos hd] at h
      subst hd
      obtain ⟨i, hi, h⟩ := Option.bind_eq_some_iff.mp h
      have HI := Aside0.mk hi
      have HL := Aside0.mk (show l0.length * 32 ≤ 140737488355328 by omega)
      have HTP := Aside0.mk (Option.some.inj h)
      clear hi hlen h
      go_enter Try.func12, Try.ntmps12
      go_wp2_with (first | ((with_reducible refine gate_dst (N := 3) rfl ?_); refine box_event ?hg (N := 3) ?hd (cs := #[.int .i64 a1_0, .int .i64 a1_1, .int .i64 a1_2, .int .i64 a1_3]) (t := 26) ?hr ?_; (case hd => rfl); (case hg => rfl); (case hr => first | (go_simp; done) | (go_simp; rfl)); intro g3 hg w2 hbox hb; have n0_ := Aside0.mk (below_step HB.out hb); have n1_ := Aside0.mk hbox; have n2_ := Aside0.mk (show w.heap.size ≤ g3 by rw [hg]; exact below_size HB.out); clear HB ; have HB := n0_; have BK3 := n1_; have GE3 := n2_; clear n0_ n1_ n2_ ; clear hb hbox hg; skip) | ((with_reducible refine gate_dst (N := 4) rfl ?_); refine box_event ?hg (N := 4) ?hd (cs := #[.int .i64 0, .int .i64 0, .slice none 0 0]) (t := 30) ?hr ?_; (case hd => rfl); (case hg => rfl); (case hr => first | (go_simp; done) | (go_simp; rfl)); intro g4 hg w3 hbox hb; have n0_ := Aside0.mk (below_step HB.out hb); have n1_ := Aside0.mk hbox; have n2_ := Aside0.mk (show w.heap.size ≤ g4 by rw [hg]; exact below_size HB.out); have m0_ := Aside0.mk (blk_below BK3.out hb); have k0_ := Aside0.mk (show g3 ≠ g4 by rw [hg]; exact Nat.ne_of_lt (blk_lt BK3.out)); clear HB BK3; have HB := n0_; have BK4 := n1_; have GE4 := n2_; have BK3 := m0_; have NE4 := k0_; clear n0_ n1_ n2_ m0_ k0_; clear hb hbox hg; have p0_ : w3.cell? ⟨g3, 0, none⟩ = some (.int .i64 a1_0) := (blk_cell BK3.out 0).trans rfl; have p1_ : w3.cell? ⟨g3, 1, none⟩ = some (.int .i64 a1_1) := (blk_cell BK3.out 1).trans rfl; have p2_ : w3.cell? ⟨g3, 2, none⟩ = some (.int .i64 a1_2) := (blk_cell BK3.out 2).trans rfl; have p3_ : w3.cell? ⟨g3, 3, none⟩ = some (.int .i64 a1_3) := (blk_cell BK3.out 3).trans rfl; have q0_ : w3.cell? ⟨g4, 0, none⟩ = some (.int .i64 0) := (blk_cell BK4.out 0).trans rfl; have q1_ : w3.cell? ⟨g4, 1, none⟩ = some (.int .i64 0) := (blk_cell BK4.out 1).trans rfl; have q2_ : w3.cell? ⟨g4, 2, none⟩ = some (.slice none 0 0) := (blk_cell BK4.out 2).trans rfl; have f0_ := blk_frozen BK4.out 0; have f1_ := blk_frozen BK4.out 1; have f2_ := blk_frozen BK4.out 2) | (go_at_call 14; with_reducible refine (impl_TermsFault.calls A0 c0 l0 _ _ (Kd.C_below HR.out HB.out) HC.out HT.out).mono ?_; rintro e w4 ⟨rfl, hb⟩; have n0_ := Aside0.mk (below_step HB.out hb); have m0_ := Aside0.mk (blk_below BK3.out hb); have m1_ := Aside0.mk (blk_below BK4.out hb); clear HB BK3 BK4 hb; have HB := n0_; have BK3 := m0_; have BK4 := m1_; clear n0_ m0_ m1_; (try clear p0_ p1_ p2_ p3_); (try clear q0_ q1_ q2_ f0_ f1_ f2_); have p0_ : w4.cell? ⟨g3, 0, none⟩ = some (.int .i64 a1_0) := (blk_cell BK3.out 0).trans rfl; have p1_ : w4.cell? ⟨g3, 1, none⟩ = some (.int .i64 a1_1) := (blk_cell BK3.out 1).trans rfl; have p2_ : w4.cell? ⟨g3, 2, none⟩ = some (.int .i64 a1_2) := (blk_cell BK3.out 2).trans rfl; have p3_ : w4.cell? ⟨g3, 3, none⟩ = some (.int .i64 a1_3) := (blk_cell BK3.out 3).trans rfl; have q0_ : w4.cell? ⟨g4, 0, none⟩ = some (.int .i64 0) := (blk_cell BK4.out 0).trans rfl; have q1_ : w4.cell? ⟨g4, 1, none⟩ = some (.int .i64 0) := (blk_cell BK4.out 1).trans rfl; have q2_ : w4.cell? ⟨g4, 2, none⟩ = some (.slice none 0 0) := (blk_cell BK4.out 2).trans rfl; have f0_ := blk_frozen BK4.out 0; have f1_ := blk_frozen BK4.out 1; have f2_ := blk_frozen BK4.out 2) | (go_at_call 53; with_reducible refine (impl_Term_fault.calls a1_0 a1_1 a1_2 a1_3 A0 c0 l0 _ _ (Kd.C_below HR.out HB.out) HC.out HF.out).mono ?_; rintro e w5 ⟨rfl, hb⟩; have n0_ := Aside0.mk (below_step HB.out hb); have m0_ := Aside0.mk (blk_below BK3.out hb); have m1_ := Aside0.mk (blk_below BK4.out hb); clear HB BK3 BK4 hb; have HB := n0_; have BK3 := m0_; have BK4 := m1_; clear n0_ m0_ m1_; (try clear p0_ p1_ p2_ p3_); (try clear q0_ q1_ q2_ f0_ f1_ f2_); have p0_ : w5.cell? ⟨g3, 0, none⟩ = some (.int .i64 a1_0) := (blk_cell BK3.out 0).trans rfl; have p1_ : w5.cell? ⟨g3, 1, none⟩ = some (.int .i64 a1_1) := (blk_cell BK3.out 1).trans rfl; have p2_ : w5.cell? ⟨g3, 2, none⟩ = some (.int .i64 a1_2) := (blk_cell BK3.out 2).trans rfl; have p3_ : w5.cell? ⟨g3, 3, none⟩ = some (.int .i64 a1_3) := (blk_cell BK3.out 3).trans rfl; have q0_ : w5.cell? ⟨g4, 0, none⟩ = some (.int .i64 0) := (blk_cell BK4.out 0).trans rfl; have q1_ : w5.cell? ⟨g4, 1, none⟩ = some (.int .i64 0) := (blk_cell BK4.out 1).trans rfl; have q2_ : w5.cell? ⟨g4, 2, none⟩ = some (.slice none 0 0) := (blk_cell BK4.out 2).trans rfl; have f0_ := blk_frozen BK4.out 0; have f1_ := blk_frozen BK4.out 1; have f2_ := blk_frozen BK4.out 2) | (go_at_call 54; with_reducible refine (impl_sheetOf.calls A0 c0 l0 _ (Kd.C_below HR.out HB.out) HC.out HL.out).mono ?_; rintro e w6 ⟨S, rfl, hs, hb⟩; have HS := Aside0.mk hs; have HN := Aside0.mk hb.size; have N3 := Aside0.mk (blk_lt BK3.out); have N4 := Aside0.mk (blk_lt BK4.out); have NW := Aside0.mk HB.out.size; have n0_ := Aside0.mk (below_step HB.out hb); have m0_ := Aside0.mk (blk_below BK3.out hb); have m1_ := Aside0.mk (blk_below BK4.out hb); clear HB BK3 BK4 hb hs; have HB := n0_; have BK3 := m0_; have BK4 := m1_; clear n0_ m0_ m1_; (try clear p0_ p1_ p2_ p3_); (try clear q0_ q1_ q2_ f0_ f1_ f2_); have p0_ : w6.cell? ⟨g3, 0, none⟩ = some (.int .i64 a1_0) := (blk_cell BK3.out 0).trans rfl; have p1_ : w6.cell? ⟨g3, 1, none⟩ = some (.int .i64 a1_1) := (blk_cell BK3.out 1).trans rfl; have p2_ : w6.cell? ⟨g3, 2, none⟩ = some (.int .i64 a1_2) := (blk_cell BK3.out 2).trans rfl; have p3_ : w6.cell? ⟨g3, 3, none⟩ = some (.int .i64 a1_3) := (blk_cell BK3.out 3).trans rfl; have q0_ : w6.cell? ⟨g4, 0, none⟩ = some (.int .i64 0) := (blk_cell BK4.out 0).trans rfl; have q1_ : w6.cell? ⟨g4, 1, none⟩ = some (.int .i64 0) := (blk_cell BK4.out 1).trans rfl; have q2_ : w6.cell? ⟨g4, 2, none⟩ = some (.slice none 0 0) := (blk_cell BK4.out 2).trans rfl; have f0_ := blk_frozen BK4.out 0; have f1_ := blk_frozen BK4.out 1; have f2_ := blk_frozen BK4.out 2) | (go_at_call 56; refine (impl_sheet_put.calls k S _ l0 false a1_0 a1_1 a1_2 a1_3 i _ HS.out HN.out HI.out).mono ?_; rintro e w7 ⟨rfl, hs, hb⟩; clear HS; have HS := Aside0.mk hs; clear hs; have n0_ := Aside0.mk (HB.out.trans (hb.mono NW.out)); have m0_ : Aside0 (w7.heap[g3]? = _) := Aside0.mk ((hb.block g3 N3.out).trans BK3.out); have m1_ : Aside0 (w7.heap[g4]? = _) := Aside0.mk ((hb.block g4 N4.out).trans BK4.out); have n1_ := Aside0.mk (Nat.le_trans HN.out hb.size); clear HB BK3 BK4 hb HN; have HB := n0_; have BK3 := m0_; have BK4 := m1_; have HN := n1_; clear n0_ m0_ m1_ n1_; (try clear p0_ p1_ p2_ p3_); (try clear q0_ q1_ q2_ f0_ f1_ f2_); have p0_ : w7.cell? ⟨g3, 0, none⟩ = some (.int .i64 a1_0) := (blk_cell BK3.out 0).trans rfl; have p1_ : w7.cell? ⟨g3, 1, none⟩ = some (.int .i64 a1_1) := (blk_cell BK3.out 1).trans rfl; have p2_ : w7.cell? ⟨g3, 2, none⟩ = some (.int .i64 a1_2) := (blk_cell BK3.out 2).trans rfl; have p3_ : w7.cell? ⟨g3, 3, none⟩ = some (.int .i64 a1_3) := (blk_cell BK3.out 3).trans rfl; have q0_ : w7.cell? ⟨g4, 0, none⟩ = some (.int .i64 0) := (blk_cell BK4.out 0).trans rfl; have q1_ : w7.cell? ⟨g4, 1, none⟩ = some (.int .i64 0) := (blk_cell BK4.out 1).trans rfl; have q2_ : w7.cell? ⟨g4, 2, none⟩ = some (.slice none 0 0) := (blk_cell BK4.out 2).trans rfl; have f0_ := blk_frozen BK4.out 0; have f1_ := blk_frozen BK4.out 1; have f2_ := blk_frozen BK4.out 2) | (go_at_call 55; refine (impl_sheet_told.calls' S _ _ _ _ r1 r2 r3 _ HS.out HN.out HTP.out).mono ?_; rintro e w8 ⟨v8, rfl, ho, hb⟩; have HO := Aside0.mk ho; clear ho HS; obtain ⟨A8, c8, e8⟩ := Kd.R_slice HO.out; subst e8; have n0_ := Aside0.mk (HB.out.trans (hb.mono NW.out)); have m0_ : Aside0 (w8.heap[g3]? = _) := Aside0.mk ((hb.block g3 N3.out).trans BK3.out); have m1_ : Aside0 (w8.heap[g4]? = _) := Aside0.mk ((hb.block g4 N4.out).trans BK4.out); have n1_ := Aside0.mk (Nat.le_trans HN.out hb.size); clear HB BK3 BK4 hb HN; have HB := n0_; have BK3 := m0_; have BK4 := m1_; have HN := n1_; clear n0_ m0_ m1_ n1_; (try clear p0_ p1_ p2_ p3_); (try clear q0_ q1_ q2_ f0_ f1_ f2_); have p0_ : w8.cell? ⟨g3, 0, none⟩ = some (.int .i64 a1_0) := (blk_cell BK3.out 0).trans rfl; have p1_ : w8.cell? ⟨g3, 1, none⟩ = some (.int .i64 a1_1) := (blk_cell BK3.out 1).trans rfl; have p2_ : w8.cell? ⟨g3, 2, none⟩ = some (.int .i64 a1_2) := (blk_cell BK3.out 2).trans rfl; have p3_ : w8.cell? ⟨g3, 3, none⟩ = some (.int .i64 a1_3) := (blk_cell BK3.out 3).trans rfl; have q0_ : w8.cell? ⟨g4, 0, none⟩ = some (.int .i64 0) := (blk_cell BK4.out 0).trans rfl; have q1_ : w8.cell? ⟨g4, 1, none⟩ = some (.int .i64 0) := (blk_cell BK4.out 1).trans rfl; have q2_ : w8.cell? ⟨g4, 2, none⟩ = some (.slice none 0 0) := (blk_cell BK4.out 2).trans rfl; have f0_ := blk_frozen BK4.out 0; have f1_ := blk_frozen BK4.out 1; have f2_ := blk_frozen BK4.out 2))
      have HOA := Aside0.mk (show ∀ k, (.slice A8 r3.length c8 : Value).ownBlock = some k → k ≠ g4 from fun k hk => Nat.ne_of_gt (Nat.lt_of_lt_of_le N4.out (Kd.R_base HO.out k hk)))
      refine bodyPost_ret (results_cell_row rfl _ _ g4 30 #[.int .i64 r1, .int .i64 r2, .slice A8 r3.length c8] (0, 0) _ rfl (blk_put (blk_put (blk_put BK4.out 0 _ rfl) 1 _ rfl) 2 _ rfl) Try.underlying30 rfl (by kernel_rfl)) rfl ?_
      refine ⟨_, rfl, ?_, below_set (below_set (below_set HB.out GE4.out) GE4.out) GE4.out⟩
      exact Kd.R_mono (Kd.R_lower (Kd.R_far (Kd.R_far (Kd.R_far (R_not HO.out HOA.out) (p := ⟨g4, 0, none⟩) (fun k hk => hk) _) (p := ⟨g4, 1, none⟩) (fun k hk => hk) _) (p := ⟨g4, 2, none⟩) (fun k hk => hk) _) NW.out) (fun _ _ => trivial)
    · rw [if_neg hd] at h
      have hd0 : (d == 0) = false := by simpa using hd
      have hd1 : (d != 0) = true := by simpa using hd
      simp only [Option.some.injEq, Prod.mk.injEq] at h
      obtain ⟨rfl, rfl, rfl⟩ := h
      go_enter Try.func12, Try.ntmps12
      go_wp2_with (first | ((with_reducible refine gate_dst (N := 3) rfl ?_); refine box_event ?hg (N := 3) ?hd (cs := #[.int .i64 a1_0, .int .i64 a1_1, .int .i64 a1_2, .int .i64 a1_3]) (t := 26) ?hr ?_; (case hd => rfl); (case hg => rfl); (case hr => first | (go_simp; done) | (go_simp; rfl)); intro g3 hg w2 hbox hb; have n0_ := Aside0.mk (below_step HB.out hb); have n1_ := Aside0.mk hbox; have n2_ := Aside0.mk (show w.heap.size ≤ g3 by rw [hg]; exact below_size HB.out); clear HB ; have HB := n0_; have BK3 := n1_; have GE3 := n2_; clear n0_ n1_ n2_ ; clear hb hbox hg; skip) | ((with_reducible refine gate_dst (N := 4) rfl ?_); refine box_event ?hg (N := 4) ?hd (cs := #[.int .i64 0, .int .i64 0, .slice none 0 0]) (t := 30) ?hr ?_; (case hd => rfl); (case hg => rfl); (case hr => first | (go_simp; done) | (go_simp; rfl)); intro g4 hg w3 hbox hb; have n0_ := Aside0.mk (below_step HB.out hb); have n1_ := Aside0.mk hbox; have n2_ := Aside0.mk (show w.heap.size ≤ g4 by rw [hg]; exact below_size HB.out); have m0_ := Aside0.mk (blk_below BK3.out hb); have k0_ := Aside0.mk (show g3 ≠ g4 by rw [hg]; exact Nat.ne_of_lt (blk_lt BK3.out)); clear HB BK3; have HB := n0_; have BK4 := n1_; have GE4 := n2_; have BK3 := m0_; have NE4 := k0_; clear n0_ n1_ n2_ m0_ k0_; clear hb hbox hg; have p0_ : w3.cell? ⟨g3, 0, none⟩ = some (.int .i64 a1_0) := (blk_cell BK3.out 0).trans rfl; have p1_ : w3.cell? ⟨g3, 1, none⟩ = some (.int .i64 a1_1) := (blk_cell BK3.out 1).trans rfl; have p2_ : w3.cell? ⟨g3, 2, none⟩ = some (.int .i64 a1_2) := (blk_cell BK3.out 2).trans rfl; have p3_ : w3.cell? ⟨g3, 3, none⟩ = some (.int .i64 a1_3) := (blk_cell BK3.out 3).trans rfl; have q0_ : w3.cell? ⟨g4, 0, none⟩ = some (.int .i64 0) := (blk_cell BK4.out 0).trans rfl; have q1_ : w3.cell? ⟨g4, 1, none⟩ = some (.int .i64 0) := (blk_cell BK4.out 1).trans rfl; have q2_ : w3.cell? ⟨g4, 2, none⟩ = some (.slice none 0 0) := (blk_cell BK4.out 2).trans rfl; have f0_ := blk_frozen BK4.out 0; have f1_ := blk_frozen BK4.out 1; have f2_ := blk_frozen BK4.out 2) | (go_at_call 14; with_reducible refine (impl_TermsFault.calls A0 c0 l0 _ _ (Kd.C_below HR.out HB.out) HC.out HT.out).mono ?_; rintro e w4 ⟨rfl, hb⟩; have n0_ := Aside0.mk (below_step HB.out hb); have m0_ := Aside0.mk (blk_below BK3.out hb); have m1_ := Aside0.mk (blk_below BK4.out hb); clear HB BK3 BK4 hb; have HB := n0_; have BK3 := m0_; have BK4 := m1_; clear n0_ m0_ m1_; (try clear p0_ p1_ p2_ p3_); (try clear q0_ q1_ q2_ f0_ f1_ f2_); have p0_ : w4.cell? ⟨g3, 0, none⟩ = some (.int .i64 a1_0) := (blk_cell BK3.out 0).trans rfl; have p1_ : w4.cell? ⟨g3, 1, none⟩ = some (.int .i64 a1_1) := (blk_cell BK3.out 1).trans rfl; have p2_ : w4.cell? ⟨g3, 2, none⟩ = some (.int .i64 a1_2) := (blk_cell BK3.out 2).trans rfl; have p3_ : w4.cell? ⟨g3, 3, none⟩ = some (.int .i64 a1_3) := (blk_cell BK3.out 3).trans rfl; have q0_ : w4.cell? ⟨g4, 0, none⟩ = some (.int .i64 0) := (blk_cell BK4.out 0).trans rfl; have q1_ : w4.cell? ⟨g4, 1, none⟩ = some (.int .i64 0) := (blk_cell BK4.out 1).trans rfl; have q2_ : w4.cell? ⟨g4, 2, none⟩ = some (.slice none 0 0) := (blk_cell BK4.out 2).trans rfl; have f0_ := blk_frozen BK4.out 0; have f1_ := blk_frozen BK4.out 1; have f2_ := blk_frozen BK4.out 2) | (go_at_call 53; with_reducible refine (impl_Term_fault.calls a1_0 a1_1 a1_2 a1_3 A0 c0 l0 _ _ (Kd.C_below HR.out HB.out) HC.out HF.out).mono ?_; rintro e w5 ⟨rfl, hb⟩; have n0_ := Aside0.mk (below_step HB.out hb); have m0_ := Aside0.mk (blk_below BK3.out hb); have m1_ := Aside0.mk (blk_below BK4.out hb); clear HB BK3 BK4 hb; have HB := n0_; have BK3 := m0_; have BK4 := m1_; clear n0_ m0_ m1_; (try clear p0_ p1_ p2_ p3_); (try clear q0_ q1_ q2_ f0_ f1_ f2_); have p0_ : w5.cell? ⟨g3, 0, none⟩ = some (.int .i64 a1_0) := (blk_cell BK3.out 0).trans rfl; have p1_ : w5.cell? ⟨g3, 1, none⟩ = some (.int .i64 a1_1) := (blk_cell BK3.out 1).trans rfl; have p2_ : w5.cell? ⟨g3, 2, none⟩ = some (.int .i64 a1_2) := (blk_cell BK3.out 2).trans rfl; have p3_ : w5.cell? ⟨g3, 3, none⟩ = some (.int .i64 a1_3) := (blk_cell BK3.out 3).trans rfl; have q0_ : w5.cell? ⟨g4, 0, none⟩ = some (.int .i64 0) := (blk_cell BK4.out 0).trans rfl; have q1_ : w5.cell? ⟨g4, 1, none⟩ = some (.int .i64 0) := (blk_cell BK4.out 1).trans rfl; have q2_ : w5.cell? ⟨g4, 2, none⟩ = some (.slice none 0 0) := (blk_cell BK4.out 2).trans rfl; have f0_ := blk_frozen BK4.out 0; have f1_ := blk_frozen BK4.out 1; have f2_ := blk_frozen BK4.out 2))
      refine bodyPost_ret (results_cell_row rfl _ _ g4 30 #[.int .i64 d, .int .i64 0, .slice none 0 0] (0, 0) _ rfl (blk_put (blk_put (blk_put BK4.out 0 _ rfl) 1 _ rfl) 2 _ rfl) Try.underlying30 rfl (by kernel_rfl)) rfl ?_
      exact ⟨_, rfl, Kd.R_nil _ _ _ _ _, below_set (below_set (below_set HB.out GE4.out) GE4.out) GE4.out⟩
  · rw [if_neg hz] at h
    have hz0 : (c == 0) = false := by simpa using hz
    have hz1 : (c != 0) = true := by simpa using hz
    simp only [Option.some.injEq, Prod.mk.injEq] at h
    obtain ⟨rfl, rfl, rfl⟩ := h
    go_enter Try.func12, Try.ntmps12
    go_wp2_with (first | ((with_reducible refine gate_dst (N := 3) rfl ?_); refine box_event ?hg (N := 3) ?hd (cs := #[.int .i64 a1_0, .int .i64 a1_1, .int .i64 a1_2, .int .i64 a1_3]) (t := 26) ?hr ?_; (case hd => rfl); (case hg => rfl); (case hr => first | (go_simp; done) | (go_simp; rfl)); intro g3 hg w2 hbox hb; have n0_ := Aside0.mk (below_step HB.out hb); have n1_ := Aside0.mk hbox; have n2_ := Aside0.mk (show w.heap.size ≤ g3 by rw [hg]; exact below_size HB.out); clear HB ; have HB := n0_; have BK3 := n1_; have GE3 := n2_; clear n0_ n1_ n2_ ; clear hb hbox hg; skip) | ((with_reducible refine gate_dst (N := 4) rfl ?_); refine box_event ?hg (N := 4) ?hd (cs := #[.int .i64 0, .int .i64 0, .slice none 0 0]) (t := 30) ?hr ?_; (case hd => rfl); (case hg => rfl); (case hr => first | (go_simp; done) | (go_simp; rfl)); intro g4 hg w3 hbox hb; have n0_ := Aside0.mk (below_step HB.out hb); have n1_ := Aside0.mk hbox; have n2_ := Aside0.mk (show w.heap.size ≤ g4 by rw [hg]; exact below_size HB.out); have m0_ := Aside0.mk (blk_below BK3.out hb); have k0_ := Aside0.mk (show g3 ≠ g4 by rw [hg]; exact Nat.ne_of_lt (blk_lt BK3.out)); clear HB BK3; have HB := n0_; have BK4 := n1_; have GE4 := n2_; have BK3 := m0_; have NE4 := k0_; clear n0_ n1_ n2_ m0_ k0_; clear hb hbox hg; have p0_ : w3.cell? ⟨g3, 0, none⟩ = some (.int .i64 a1_0) := (blk_cell BK3.out 0).trans rfl; have p1_ : w3.cell? ⟨g3, 1, none⟩ = some (.int .i64 a1_1) := (blk_cell BK3.out 1).trans rfl; have p2_ : w3.cell? ⟨g3, 2, none⟩ = some (.int .i64 a1_2) := (blk_cell BK3.out 2).trans rfl; have p3_ : w3.cell? ⟨g3, 3, none⟩ = some (.int .i64 a1_3) := (blk_cell BK3.out 3).trans rfl; have q0_ : w3.cell? ⟨g4, 0, none⟩ = some (.int .i64 0) := (blk_cell BK4.out 0).trans rfl; have q1_ : w3.cell? ⟨g4, 1, none⟩ = some (.int .i64 0) := (blk_cell BK4.out 1).trans rfl; have q2_ : w3.cell? ⟨g4, 2, none⟩ = some (.slice none 0 0) := (blk_cell BK4.out 2).trans rfl; have f0_ := blk_frozen BK4.out 0; have f1_ := blk_frozen BK4.out 1; have f2_ := blk_frozen BK4.out 2) | (go_at_call 14; with_reducible refine (impl_TermsFault.calls A0 c0 l0 _ _ (Kd.C_below HR.out HB.out) HC.out HT.out).mono ?_; rintro e w4 ⟨rfl, hb⟩; have n0_ := Aside0.mk (below_step HB.out hb); have m0_ := Aside0.mk (blk_below BK3.out hb); have m1_ := Aside0.mk (blk_below BK4.out hb); clear HB BK3 BK4 hb; have HB := n0_; have BK3 := m0_; have BK4 := m1_; clear n0_ m0_ m1_; (try clear p0_ p1_ p2_ p3_); (try clear q0_ q1_ q2_ f0_ f1_ f2_); have p0_ : w4.cell? ⟨g3, 0, none⟩ = some (.int .i64 a1_0) := (blk_cell BK3.out 0).trans rfl; have p1_ : w4.cell? ⟨g3, 1, none⟩ = some (.int .i64 a1_1) := (blk_cell BK3.out 1).trans rfl; have p2_ : w4.cell? ⟨g3, 2, none⟩ = some (.int .i64 a1_2) := (blk_cell BK3.out 2).trans rfl; have p3_ : w4.cell? ⟨g3, 3, none⟩ = some (.int .i64 a1_3) := (blk_cell BK3.out 3).trans rfl; have q0_ : w4.cell? ⟨g4, 0, none⟩ = some (.int .i64 0) := (blk_cell BK4.out 0).trans rfl; have q1_ : w4.cell? ⟨g4, 1, none⟩ = some (.int .i64 0) := (blk_cell BK4.out 1).trans rfl; have q2_ : w4.cell? ⟨g4, 2, none⟩ = some (.slice none 0 0) := (blk_cell BK4.out 2).trans rfl; have f0_ := blk_frozen BK4.out 0; have f1_ := blk_frozen BK4.out 1; have f2_ := blk_frozen BK4.out 2))
    refine bodyPost_ret (results_cell_row rfl _ _ g4 30 #[.int .i64 c, .int .i64 0, .slice none 0 0] (0, 0) _ rfl (blk_put (blk_put (blk_put BK4.out 0 _ rfl) 1 _ rfl) 2 _ rfl) Try.underlying30 rfl (by kernel_rfl)) rfl ?_
    exact ⟨_, rfl, Kd.R_nil _ _ _ _ _, below_set (below_set (below_set HB.out GE4.out) GE4.out) GE4.out⟩
end Go.Proofs.Ytomaeijhljpgdaa.G
namespace Go.Proofs.Ytomaeijhljpgdaa.G
open Go.RowKit Go.Proofs.YtomaeijhljpgdaaW.PrintWords Go.Proofs.YtomaeijhljpgdaaW.PrintLast Go.Proofs.YtomaeijhljpgdaaW.PrintMore
attribute [local go_sem] max2_int min2_int max_two min_two max_three min_three max_four min_four   -- for this text's walks alone
set_option linter.unusedVariables false
set_option linter.unusedSimpArgs false
set_option maxHeartbeats 4000000 in
set_option maxRecDepth 100000 in
theorem impl_placesFault_1.calls (A0 : Option Addr) (n c0 B : Nat) (x : Int) (hn : n ≤ 9223372036854775807) (W : World) (hc : W.cell? ⟨B, 0, none⟩ = some (.slice A0 n c0)) :
    Calls Try.prog 94 (#[.int .i64 x] ++ #[.pointer (some ⟨B, 0, none⟩)]) W fun e w' => e = .returned (.bool (!decide (0 ≤ x ∧ x ≤ (n : Int) - 1))) ∧ Below W.heap.size W w' := by
  have hC := fun W' => impl_isPlace.calls A0 n c0 x hn W'
  generalize decide (0 ≤ x ∧ x ≤ (n : Int) - 1) = r at hC ⊢
  go_enter Try.func94, Try.ntmps94
  go_wp2_with (go_at_call 88; refine (hC _).mono ?_; rintro e w' ⟨rfl, hb⟩)
  go_ret
  exact ⟨rfl, hb⟩
def impl_placesFault.f (l0 : List S26) (l1 : List Int) : Option Int := (impl_TermsFault.f l0).bind fun c => (if c = 0 then (if l1.any (notIn l0) = true then some 3 else some 0) else some c)
set_option maxHeartbeats 4000000 in
set_option maxRecDepth 100000 in
theorem impl_placesFault.calls (A0 : Option Addr) (c0 : Nat) (l0 : List S26) (A1 : Option Addr) (c1 : Nat) (l1 : List Int) (r : Int) (w : World) (hr0 : Kd.C k26 w A0 l0.length l0) (hc0 : l0.length ≤ c0) (hr1 : Kd.C (Kd.int .i64) w A1 l1.length l1) (hc1 : l1.length ≤ c1) (h : impl_placesFault.f l0 l1 = some r) :
    Calls Try.prog 60 #[.slice A0 l0.length c0, .slice A1 l1.length c1] w fun e w' => e = .returned (.int .i64 r) ∧ Below w.heap.size w w' := by
  unfold impl_placesFault.f at h
  have hmf : ∀ (fn : Fn) (first cap : Array Value) (w : World), (Instr.makeFunc fn first cap).run Try.prog w = .ok (.func fn first cap) w := fun _ _ _ _ => rfl
  obtain ⟨c, hc, h⟩ := Option.bind_eq_some_iff.mp h
  have HF := Aside0.mk hc
  have HR0 := Aside0.mk hr0
  have HC0 := Aside0.mk hc0
  have HR1 := Aside0.mk hr1
  have HN0 := Aside0.mk hr0.2.1
  have HN1 := Aside0.mk hr1.2.1
  have HB := Aside0.mk (Below.refl w.heap.size w)
  clear hc hr0 hc0 hr1
  by_cases hz : c = 0
  · rw [if_pos hz] at h
    have hz0 : (c == 0) = true := by simpa using hz
    have hz1 : (c != 0) = false := by simpa using hz
    clear hz
    obtain ⟨b, hb⟩ : ∃ b, b = l1.any (notIn l0) := ⟨_, rfl⟩
    rw [← hb] at h
    have HBE := Aside0.mk hb.symm
    clear hb
    cases b with
    | true =>
      rw [if_pos rfl] at h
      obtain rfl := Option.some.inj h
      go_enter Try.func60, Try.ntmps60
      go_wp2_with (first | ((with_reducible refine gate_dst (N := 2) rfl ?_); refine box_event ?hg (N := 2) ?hd (cs := #[.slice A0 l0.length c0]) (t := 24) ?hr ?_; (case hd => rfl); (case hg => rfl); (case hr => first | (go_simp; done) | (go_simp; rfl)); intro g2 hg w2 hbox hb; have n0_ := Aside0.mk (below_step HB.out hb); have n1_ := Aside0.mk hbox; clear HB; have HB := n0_; have BK2 := n1_; clear n0_ n1_ hb hbox hg; have p0_ : w2.cell? ⟨g2, 0, none⟩ = some (.slice A0 l0.length c0) := (blk_cell BK2.out 0).trans rfl) | (go_at_call 14; with_reducible refine (impl_TermsFault.calls A0 c0 l0 c _ (Kd.C_below HR0.out HB.out) HC0.out HF.out).mono ?_; rintro e w3 ⟨rfl, hb⟩; have n0_ := Aside0.mk (below_step HB.out hb); have n1_ := Aside0.mk (blk_below BK2.out hb); clear HB BK2 hb p0_; have HB := n0_; have BK2 := n1_; clear n0_ n1_) | (go_at_call 85; refine (slices_ContainsFunc_int64_int64.calls 94 #[.pointer (some ⟨g2, 0, none⟩)] (notIn l0) A1 c1 l1 _ (enters_of Try.func94 (by kernel_rfl) rfl) (fun W x _ hB => (impl_placesFault_1.calls A0 l0.length c0 g2 x HN0.out W ((hB.cell (p := ⟨g2, 0, none⟩) (blk_lt BK2.out)).trans ((blk_cell BK2.out 0).trans rfl))).mono (fun _ _ h => ⟨h.1, below_step hB h.2⟩)) (Kd.C_below HR1.out HB.out) HN1.out).mono ?_; rintro e w4 ⟨he, hb⟩; rw [HBE.out] at he; subst he; have n0_ := Aside0.mk (below_step HB.out hb); clear HB hb; have HB := n0_; clear n0_))
      go_ret
      exact ⟨rfl, HB.out⟩
    | false =>
      rw [if_neg (by decide)] at h
      obtain rfl := Option.some.inj h
      go_enter Try.func60, Try.ntmps60
      go_wp2_with (first | ((with_reducible refine gate_dst (N := 2) rfl ?_); refine box_event ?hg (N := 2) ?hd (cs := #[.slice A0 l0.length c0]) (t := 24) ?hr ?_; (case hd => rfl); (case hg => rfl); (case hr => first | (go_simp; done) | (go_simp; rfl)); intro g2 hg w2 hbox hb; have n0_ := Aside0.mk (below_step HB.out hb); have n1_ := Aside0.mk hbox; clear HB; have HB := n0_; have BK2 := n1_; clear n0_ n1_ hb hbox hg; have p0_ : w2.cell? ⟨g2, 0, none⟩ = some (.slice A0 l0.length c0) := (blk_cell BK2.out 0).trans rfl) | (go_at_call 14; with_reducible refine (impl_TermsFault.calls A0 c0 l0 c _ (Kd.C_below HR0.out HB.out) HC0.out HF.out).mono ?_; rintro e w3 ⟨rfl, hb⟩; have n0_ := Aside0.mk (below_step HB.out hb); have n1_ := Aside0.mk (blk_below BK2.out hb); clear HB BK2 hb p0_; have HB := n0_; have BK2 := n1_; clear n0_ n1_) | (go_at_call 85; refine (slices_ContainsFunc_int64_int64.calls 94 #[.pointer (some ⟨g2, 0, none⟩)] (notIn l0) A1 c1 l1 _ (enters_of Try.func94 (by kernel_rfl) rfl) (fun W x _ hB => (impl_placesFault_1.calls A0 l0.length c0 g2 x HN0.out W ((hB.cell (p := ⟨g2, 0, none⟩) (blk_lt BK2.out)).trans ((blk_cell BK2.out 0).trans rfl))).mono (fun _ _ h => ⟨h.1, below_step hB h.2⟩)) (Kd.C_below HR1.out HB.out) HN1.out).mono ?_; rintro e w4 ⟨he, hb⟩; rw [HBE.out] at he; subst he; have n0_ := Aside0.mk (below_step HB.out hb); clear HB hb; have HB := n0_; clear n0_))
      go_ret
      exact ⟨rfl, HB.out⟩
  · rw [if_neg hz] at h
    obtain rfl := Option.some.inj h
    have hz0 : (c == 0) = false := by simpa using hz
    have hz1 : (c != 0) = true := by simpa using hz
    go_enter Try.func60, Try.ntmps60
    go_wp2_with (first | ((with_reducible refine gate_dst (N := 2) rfl ?_); refine box_event ?hg (N := 2) ?hd (cs := #[.slice A0 l0.length c0]) (t := 24) ?hr ?_; (case hd => rfl); (case hg => rfl); (case hr => first | (go_simp; done) | (go_simp; rfl)); intro g2 hg w2 hbox hb; have n0_ := Aside0.mk (below_step HB.out hb); have n1_ := Aside0.mk hbox; clear HB; have HB := n0_; have BK2 := n1_; clear n0_ n1_ hb hbox hg; have p0_ : w2.cell? ⟨g2, 0, none⟩ = some (.slice A0 l0.length c0) := (blk_cell BK2.out 0).trans rfl) | (go_at_call 14; with_reducible refine (impl_TermsFault.calls A0 c0 l0 c _ (Kd.C_below HR0.out HB.out) HC0.out HF.out).mono ?_; rintro e w3 ⟨rfl, hb⟩; have n0_ := Aside0.mk (below_step HB.out hb); have n1_ := Aside0.mk (blk_below BK2.out hb); clear HB BK2 hb p0_; have HB := n0_; have BK2 := n1_; clear n0_ n1_))
    go_ret
    exact ⟨rfl, HB.out⟩
end Go.Proofs.Ytomaeijhljpgdaa.G
namespace Go.Proofs.Ytomaeijhljpgdaa.G
open Go.RowKit Go.Proofs.YtomaeijhljpgdaaW.PrintWords Go.Proofs.YtomaeijhljpgdaaW.PrintLast Go.Proofs.YtomaeijhljpgdaaW.PrintMore
attribute [local go_sem] max2_int min2_int max_two min_two max_three min_three max_four min_four   -- for this text's walks alone
set_option linter.unusedVariables false
set_option linter.unusedSimpArgs false
section
open Go.Shelf
attribute [local go_sem] Oper.semAt_some
def backTo (zs : List Int) (k : Nat) : List (Int × Int) := (List.range k).map fun j => (((zs.length - 1 - j : Nat) : Int), zs[zs.length - 1 - j]?.getD 0)
theorem backTo_succ (zs : List Int) (k : Nat) : backTo zs (k + 1) = backTo zs k ++ [(((zs.length - 1 - k : Nat) : Int), zs[zs.length - 1 - k]?.getD 0)] := by simp [backTo, List.range_succ]
theorem backTo_length (zs : List Int) (k : Nat) : (backTo zs k).length = k := by simp [backTo]
theorem add_block_ (a : Addr) (j : Nat) : (a.add j).block = a.block := by unfold Addr.add; split <;> rfl
theorem cell_block_ {A B : World} {p : Addr} (h : B.heap[p.block]? = A.heap[p.block]?) : B.cell? p = A.cell? p := by simp only [World.cell?, h]
set_option maxRecDepth 100000 in
set_option maxHeartbeats 2000000 in
theorem backward1_in (n : Nat) (hn : 1 ≤ n) (l Bs cap : Nat) (ad : Addr) (zs : List Int) (hz : zs.length ≤ 9223372036854775807) (J Jx : List (Int × Int) → World → Prop)
    (hY : ∀ pre x W, J pre W → pre.length < zs.length → YieldAt Fence.wide (n - 1) Try.prog l #[.int .i64 x.1, .int .i64 x.2] W fun e W' =>
      (e = .returned (.bool true) ∧ J (pre ++ [x]) W' ∧ (W'.heap[Bs]? = W.heap[Bs]? ∧ W'.heap[ad.block]? = W.heap[ad.block]?)) ∨ (e = .returned (.bool false) ∧ Jx (pre ++ [x]) W'))
    (W : World) (hBs : W.cell? ⟨Bs, 0, none⟩ = some (.slice (some ad) zs.length cap)) (hc : ∀ j, j < zs.length → W.cell? (ad.add j) = some (.int .i64 (zs[j]?.getD 0))) (h0 : J [] W) :
    CallsIn Fence.wide n Try.prog 108 #[.func (.yield l) #[] #[], .pointer (some ⟨Bs, 0, none⟩)] W fun e W' => (∃ v, e = .returned v) ∧
      ((∃ ys, ys = backTo zs zs.length ∧ J ys W') ∨ (∃ pre, True ∧ Jx pre W')) := by
  refine callsIn_of_wp Try.func108 rfl trivial ?_ rfl
  simp only [Try.ntmps108, List.size_toArray, List.length_cons, List.length_nil, Nat.reduceAdd, Nat.reduceSub, Array.replicate_succ, Array.replicate_zero, List.push_toArray, List.append_toArray, List.nil_append, List.cons_append]
  gi_wp2
  gi_loopw [3] (fun i wr => ∃ k : Nat, k ≤ zs.length ∧ i = .int .i64 ((zs.length : Int) - 1 - k) ∧ J (backTo zs k) wr ∧ (wr.heap[Bs]? = W.heap[Bs]? ∧ wr.heap[ad.block]? = W.heap[ad.block]?))
    (fun i _ => (intOf i + 1).toNat)
  case atStart => exact ⟨0, Nat.zero_le _, by first | (simp; done) | (congr 1; unfold wrap64; omega), h0, rfl, rfl⟩
  case round =>
    obtain ⟨k, hk, rfl, hJs, hnx1, hnx2⟩ := hrel
    have hBr : wr.cell? ⟨Bs, 0, none⟩ = some (.slice (some ad) zs.length cap) := by rw [← hBs]; simp only [World.cell?, hnx1]
    by_cases hlt : k < zs.length
    · obtain ⟨fn, tmps, assign, body, hy, hR⟩ := hY _ (((zs.length - 1 - k : Nat) : Int), zs[zs.length - 1 - k]?.getD 0) wr hJs (by rw [backTo_length]; exact hlt)
      dsimp only at hy
      have hcx : wr.cell? (ad.add (zs.length - 1 - k)) = some (.int .i64 (zs[zs.length - 1 - k]?.getD 0)) := (cell_block_ (by rw [add_block_]; exact hnx2)).trans (hc _ (by omega))
      have hi : (zs.length : Int) - 1 - k = ((zs.length - 1 - k : Nat) : Int) := by omega
      rw [hi]
      have hge : decide (((zs.length - 1 - k : Nat) : Int) ≥ 0) = true := decide_eq_true (by omega)
      have hlt2 : ((zs.length - 1 - k : Nat) : Int) < (zs.length : Int) := by omega
      gi_wp2
      refine hR.mono ?_
      rintro e W3 (⟨rfl, hJ3, hk3, hk4⟩ | ⟨rfl, hJx3⟩)
      · gi_wp2
        go_roundw
        case rel => exact ⟨k + 1, by omega, by first | (congr 1; first | omega | (unfold wrap64; omega)) | (simp; omega), by rw [backTo_succ]; exact hJ3, hk3.trans hnx1, hk4.trans hnx2⟩
        case measure => first | (simp [intOf]; done) | (simp [intOf]; omega)
      · gi_wp2
        refine bodyPost_ret (results_none rfl _ _ _) rfl ?_
        exact ⟨⟨_, rfl⟩, .inr ⟨_, trivial, hJx3⟩⟩
    · obtain rfl : k = zs.length := by omega
      have hi : (zs.length : Int) - 1 - (zs.length : Int) = -1 := by omega
      rw [hi]
      gi_wp2
      go_end0
      exact ⟨⟨_, rfl⟩, .inl ⟨_, rfl, hJs⟩⟩
set_option maxHeartbeats 1000000 in
theorem backward_in (a : Option Addr) (len cap : Nat) (w : World) :
    Calls Try.prog 96 #[.slice a len cap] w fun e w' => e = .returned (.func (.func 108) #[] #[.pointer (some ⟨w.heap.size, 0, none⟩)]) ∧ w' = w.alloc (.cells #[.slice a len cap] 33) := by
  have hmf : ∀ (fn : Fn) (first cap : Array Value) (w : World), (Instr.makeFunc fn first cap).run Try.prog w = .ok (.func fn first cap) w := fun _ _ _ _ => rfl
  go_enter Try.func96, Try.ntmps96
  go_wp2
  go_ret
  exact ⟨rfl, rfl⟩
theorem backward_stops (n : Nat) (hn : 1 ≤ n) (Bs cap : Nat) (ad : Addr) (zs : List Int) (hz : zs.length ≤ 9223372036854775807) (w : World) (hBs : w.cell? ⟨Bs, 0, none⟩ = some (.slice (some ad) zs.length cap)) (hb : ad.block < w.heap.size) (hc : ∀ j, j < zs.length → w.cell? (ad.add j) = some (.int .i64 (zs[j]?.getD 0))) :
    SeqStopsK Fence.wide n Try.prog 108 #[.pointer (some ⟨Bs, 0, none⟩)] (fun x : Int × Int => #[Value.int .i64 x.1, Value.int .i64 x.2]) (fun A B => B.heap[Bs]? = A.heap[Bs]? ∧ B.heap[ad.block]? = A.heap[ad.block]?) (fun ys => ys = backTo zs zs.length) (fun _ => True) zs.length w := fun l J Jx W hW _ _ hY h0 => by
  have hBs' := (hW.cell (p := ⟨Bs, 0, none⟩) (World.block_lt_of_cell? w _ hBs)).trans hBs
  refine (backward1_in n hn l Bs cap ad zs hz J Jx hY W hBs' (fun j hj => (hW.cell (p := ad.add j) (by rw [add_block_]; exact hb)).trans (hc j hj)) h0).mono ?_
  rintro e W' ⟨he, ⟨ys, rfl, hj⟩ | ⟨pre, _, hj⟩⟩
  · exact ⟨he, .inl ⟨_, rfl, hj⟩⟩
  · exact ⟨he, .inr ⟨_, trivial, hj⟩⟩
end
end Go.Proofs.Ytomaeijhljpgdaa.G
namespace Go.Proofs.Ytomaeijhljpgdaa.G
open Go.RowKit Go.Proofs.YtomaeijhljpgdaaW.PrintWords Go.Proofs.YtomaeijhljpgdaaW.PrintLast Go.Proofs.YtomaeijhljpgdaaW.PrintMore
attribute [local go_sem] max2_int min2_int max_two min_two max_three min_three max_four min_four   -- for this text's walks alone
set_option linter.unusedVariables false
set_option linter.unusedSimpArgs false
def tix (l : List S26) (x : S26) (i : Nat) : Int :=
  match (l.drop i).findIdx? fun y => eq4 x y with
  | some j => ((i + j : Nat) : Int)
  | none => -1
theorem tix_l0 (l : List S26) (hl : l.length ≤ 400) (x : S26) (d : Nat) : ∀ (k i : Nat), i + d = l.length → d < k → impl_Term_91.l0 k l (l.length : Int) i x.f0 x.f1 x.f2 x.f3 = some (tix l x i) := by
  induction d with
  | zero =>
    intro k i hi hk
    obtain ⟨k, rfl⟩ : ∃ m, k = m + 1 := ⟨k - 1, by omega⟩
    simp only [impl_Term_91.l0]; rw [if_neg (by omega)]; unfold tix; rw [List.drop_of_length_le (by omega)]; rfl
  | succ d ih =>
    intro k i hi hk
    obtain ⟨k, rfl⟩ : ∃ m, k = m + 1 := ⟨k - 1, by omega⟩
    simp only [impl_Term_91.l0]
    have hw : wrap64 ((i : Int) + 1) = (i : Int) + 1 := by unfold wrap64; omega
    rw [if_pos (by omega), if_pos (by omega), if_pos (by omega), hw]
    have e := ih k (i + 1) (by omega) (by omega)
    have e' : impl_Term_91.l0 k l (l.length : Int) ((i : Int) + 1) x.f0 x.f1 x.f2 x.f3 = some (tix l x (i + 1)) := by simpa using e
    rw [e']
    have hd : l.drop i = rd_T26 l (i : Int) :: l.drop (i + 1) := by
      rw [List.drop_eq_getElem_cons (by omega)]
      simp [rd_T26, List.getD, List.getElem?_eq_getElem (show i < l.length by omega)]
    have sw : (x.f0 == (rd_T26 l i).f0 && (x.f1 == (rd_T26 l i).f1 && (x.f2 == (rd_T26 l i).f2 && (x.f3 == (rd_T26 l i).f3)))) = eq4 x (rd_T26 l i) := rfl
    rw [sw]
    unfold tix
    rw [hd, List.findIdx?_cons]
    cases h : eq4 x (rd_T26 l i)
    · simp only [Bool.false_eq_true, if_false]
      cases (l.drop (i + 1)).findIdx? fun y => eq4 x y with
      | none => rfl
      | some j => simp; omega
    · simp
theorem tix_f (l : List S26) (hl : l.length ≤ 400) (x : S26) : impl_Term_91.f 402 l x.f0 x.f1 x.f2 x.f3 = some (tix l x 0) := by
  have h := tix_l0 l hl x l.length 402 0 (by omega) (by omega)
  have h' : impl_Term_91.l0 402 l (l.length : Int) 0 x.f0 x.f1 x.f2 x.f3 = some (tix l x 0) := by simpa using h
  exact h'
def putT (l : List S26) (full : Bool) (t : S26) : Int × List S26 × Bool := putP l full t (tix l t 0)
theorem putT_len {l : List S26} {full : Bool} {t : S26} (hl : l.length ≤ 400) : (putT l full t).2.1.length ≤ 400 := by
  unfold putT putP
  split
  · exact hl
  · split
    · exact hl
    · split
      · exact hl
      · simp; omega
set_option maxHeartbeats 4000000 in
set_option maxRecDepth 100000 in
theorem impl_sheet_name.callsV (S N : Nat) (v : Value) (l : List S26) (full : Bool) (n : Int) (w : World) (hS : SheetV w N S v l full) (hN : N ≤ w.heap.size) (hl : l.length ≤ 400) :
    Calls Try.prog 95 #[.pointer (some ⟨S, 0, none⟩), .int .i64 n] w fun e w' => e = .returned (.int .i64 (putT l full ⟨1, 0, 0, n⟩).1) ∧ (∃ v', SheetV w' N S v' (putT l full ⟨1, 0, 0, n⟩).2.1 (putT l full ⟨1, 0, 0, n⟩).2.2 ∧ ∀ k, v'.ownBlock = some k → v.ownBlock = some k ∨ w.heap.size ≤ k) ∧ KeepV w w' S v ∧ Below N w w' := by
  have HC := Aside0.mk (impl_sheet_put.callsV 402 S N v l full 1 0 0 n _ w hS hN (tix_f l hl ⟨1, 0, 0, n⟩))
  unfold putT
  clear hS hN
  generalize putP l full ⟨1, 0, 0, n⟩ (tix l ⟨1, 0, 0, n⟩ 0) = r at HC ⊢
  go_enter Try.func95, Try.ntmps95
  go_wp2_with (go_at_call 56; refine HC.out.mono ?_; rintro e w' ⟨rfl, hs, hk, hb⟩)
  go_ret
  exact ⟨rfl, hs, hk, hb⟩
end Go.Proofs.Ytomaeijhljpgdaa.G
namespace Go.Proofs.Ytomaeijhljpgdaa.G
open Go.RowKit Go.Proofs.YtomaeijhljpgdaaW.PrintWords Go.Proofs.YtomaeijhljpgdaaW.PrintLast Go.Proofs.YtomaeijhljpgdaaW.PrintMore
attribute [local go_sem] max2_int min2_int max_two min_two max_three min_three max_four min_four   -- for this text's walks alone
set_option linter.unusedVariables false
set_option linter.unusedSimpArgs false
set_option maxHeartbeats 4000000 in
set_option maxRecDepth 100000 in
theorem impl_sheet_pair.callsV (S N : Nat) (v : Value) (l : List S26) (full : Bool) (a b : Int) (w : World) (hS : SheetV w N S v l full) (hN : N ≤ w.heap.size) (hl : l.length ≤ 400) :
    Calls Try.prog 97 #[.pointer (some ⟨S, 0, none⟩), .int .i64 a, .int .i64 b] w fun e w' => e = .returned (.int .i64 (putT l full ⟨3, a, b, 0⟩).1) ∧ (∃ v', SheetV w' N S v' (putT l full ⟨3, a, b, 0⟩).2.1 (putT l full ⟨3, a, b, 0⟩).2.2 ∧ ∀ k, v'.ownBlock = some k → v.ownBlock = some k ∨ w.heap.size ≤ k) ∧ KeepV w w' S v ∧ Below N w w' := by
  have HC := Aside0.mk (impl_sheet_put.callsV 402 S N v l full 3 a b 0 _ w hS hN (tix_f l hl ⟨3, a, b, 0⟩))
  unfold putT
  clear hS hN
  generalize putP l full ⟨3, a, b, 0⟩ (tix l ⟨3, a, b, 0⟩ 0) = r at HC ⊢
  go_enter Try.func97, Try.ntmps97
  go_wp2_with (go_at_call 56; refine HC.out.mono ?_; rintro e w' ⟨rfl, hs, hk, hb⟩)
  go_ret
  exact ⟨rfl, hs, hk, hb⟩
end Go.Proofs.Ytomaeijhljpgdaa.G
namespace Go.Proofs.Ytomaeijhljpgdaa.G
open Go.RowKit Go.Proofs.YtomaeijhljpgdaaW.PrintWords Go.Proofs.YtomaeijhljpgdaaW.PrintLast Go.Proofs.YtomaeijhljpgdaaW.PrintMore
attribute [local go_sem] max2_int min2_int max_two min_two max_three min_three max_four min_four   -- for this text's walks alone
set_option linter.unusedVariables false
set_option linter.unusedSimpArgs false
section
open Go.Shelf
attribute [local go_sem] Oper.semAt_some
def pairT (st : Int × List S26 × Bool) (x : Int) : Int × List S26 × Bool := putT st.2.1 st.2.2 ⟨3, x, st.1, 0⟩
def listP (l : List S26) (full : Bool) (xs : List Int) : Int × List S26 × Bool :=
  if xs.length = 0 then putT l full ⟨1, 0, 0, 0⟩ else ((backTo (xs.take (xs.length - 1)) (xs.length - 1)).map Prod.snd).foldl pairT (xs[xs.length - 1]?.getD 0, l, full)
theorem sheetV_below {W W' : World} {N S : Nat} {v : Value} {l : List S26} {full : Bool} (h : SheetV W N S v l full) (hb : Below W.heap.size W W') : SheetV W' N S v l full := ⟨blk_below h.1 hb, h.2.1, Kd.R_below h.2.2 hb⟩
theorem sheetV_alloc {W : World} {N S : Nat} {v : Value} {l : List S26} {full : Bool} (h : SheetV W N S v l full) (o : Obj) : SheetV (W.alloc o) N S v l full := sheetV_below h (below_alloc (Below.refl _ _) o)
def ListI (N S z b : Nat) (v0 : Value) (st : Int × List S26 × Bool) (w W : World) : Prop := ∃ v, W.heap[z]? = some (.cells #[.pointer (some ⟨S, 0, none⟩)] 79 (0, 0)) ∧ W.heap[z + 1]? = some (.cells #[.int .i64 st.1] 2 (0, 0)) ∧ SheetV W N S v st.2.1 st.2.2 ∧ st.2.1.length ≤ 400 ∧ (∀ k, v.ownBlock = some k → k ≠ z ∧ k ≠ z + 1 ∧ k ≠ z + 1 + 1 ∧ k ≠ b) ∧ z + 3 ≤ W.heap.size ∧ KeepV w W S v0 ∧ (∀ k, v.ownBlock = some k → v0.ownBlock = some k ∨ w.heap.size ≤ k) ∧ Below N w W
theorem R_and {W : World} {N : Nat} {ok : Nat → Prop} {q : Nat → Prop} {v : Value} {l : List S26} (h : k26.R 26 W N ok v l) (hq : ∀ k, v.ownBlock = some k → q k) : k26.R 26 W N (fun k => ok k ∧ q k) v l := by
  obtain ⟨h0, inner, hown, hr⟩ := h
  exact ⟨fun k hk => ⟨h0 k hk, hq k hk⟩, inner, hown, hr.imp_ (fun x cs hm => by obtain rfl := k26_openM hm; exact k26_mkM _ _ _ _)⟩
theorem R_cellsRow {W : World} {N : Nat} {ok : Nat → Prop} {v : Value} {l : List S26} (h : k26.R 26 W N ok v l) (k : Nat) (hk : v.ownBlock = some k) : ∃ cells, W.heap[k]? = some (.cells cells 26 (0, 0)) := by
  obtain ⟨_, hi⟩ := Kd.R_own h
  exact own_typed hi k hk
theorem R_heap {W W' : World} {N : Nat} {ok : Nat → Prop} {v : Value} {l : List S26} (h : k26.R 26 W N ok v l) (hm : ∀ k, v.ownBlock = some k → W'.heap[k]? = W.heap[k]?) : k26.R 26 W' N ok v l := by
  obtain ⟨h0, inner, hown, hr⟩ := h
  exact ⟨h0, inner, own_move hown hm, hr.imp_ (fun x cs hm => by obtain rfl := k26_openM hm; exact k26_mkM _ _ _ _)⟩
theorem R_putObj {W : World} {N D : Nat} {ok : Nat → Prop} {v : Value} {l : List S26} {o o' : Obj} (h : k26.R 26 W N ok v l) (hD : W.heap[D]? = some o) (ho : o.isCells = false) : k26.R 26 (W.putObj D o') N ok v l :=
  R_heap h (fun k hk => World.putObj_heap_other (fun e => by
    obtain ⟨cells, hc⟩ := R_cellsRow h k hk
    rw [e, hD] at hc
    injection hc with hc
    rw [hc] at ho
    cases ho))
theorem listI_own {α : Type} (N S z b B : Nat) (v0 : Value) (hN : N ≤ B) (hS : S < B) (hz : z + 3 ≤ B) (f : α → Int × List S26 × Bool) (w : World) (hw : w.heap.size ≤ B) : OwnFrom B (fun s W => ListI N S z b v0 (f s) w W) := by
  rintro s W W' row ⟨v, q2, q6, ⟨h1, h2, h3⟩, hl, ho, hs, hkp, hov, hb⟩ hg hr
  have far : ∀ k, k < B → some k ≠ row := fun k hk e => by have := (hr k e.symm).1; omega
  have blk : ∀ k, k < W.heap.size → k < B → W'.heap[k]? = W.heap[k]? := fun k h1 h2 => hg.block k h1 (far k h2)
  have hNW : N ≤ W.heap.size := Nat.le_trans h2 (Nat.le_of_lt (blk_lt h1))
  refine ⟨v, (blk _ (by omega) (by omega)).trans q2, (blk _ (by omega) (by omega)).trans q6, ⟨(blk _ (blk_lt h1) hS).trans h1, h2, R_heap h3 (fun k hk => ?_)⟩, hl, ho, by have := hg.size; omega, fun k h1 h2 h3 => (blk k (Nat.lt_of_lt_of_le h1 hb.size) (by omega)).trans (hkp k h1 h2 h3), hov, ?_⟩
  · obtain ⟨cells, hc⟩ := R_cellsRow h3 k hk
    refine hg.block k (blk_lt hc) (fun e => ?_)
    obtain ⟨_, o, ho1, ho2⟩ := hr k e.symm
    rw [hc] at ho1
    injection ho1 with ho1
    rw [← ho1] at ho2
    cases ho2
  · exact pw_below_grown hb row (by omega) hg (fun k e => by have := (hr k e).1; omega)
theorem keepsOthers_put {W W' : World} {N S : Nat} {v : Value} {l : List S26} {full : Bool} (h : SheetV W N S v l full) (hk : KeepV W W' S v) (hs : W.heap.size ≤ W'.heap.size) : KeepsOthers W W' :=
  ⟨hs, fun k o ho hc => by
    refine (hk k (blk_lt ho) (fun e => ?_) (fun e => ?_)).trans ho
    · rw [e, h.1] at ho
      injection ho with ho
      rw [← ho] at hc
      cases hc
    · obtain ⟨cells, hcc⟩ := R_cellsRow h.2.2 k e
      rw [hcc] at ho
      injection ho with ho
      rw [← ho] at hc
      cases hc⟩
set_option maxRecDepth 100000 in
set_option maxHeartbeats 4000000 in
theorem impl_sheet_list.callsV (S N : Nat) (v : Value) (l : List S26) (full : Bool) (A1 : Option Addr) (c1 : Nat) (xs : List Int) (w : World) (hS : SheetV w N S v l full) (hN : N ≤ w.heap.size) (hl : l.length ≤ 400) (hr1 : Kd.C (Kd.int .i64) w A1 xs.length xs) (hc1 : xs.length ≤ c1) (hfar : 0 < xs.length → ∀ ad, A1 = some ad → ad.block ≠ S ∧ v.ownBlock ≠ some ad.block) :
    Calls Try.prog 61 #[.pointer (some ⟨S, 0, none⟩), .slice A1 xs.length c1] w fun e w' => e = .returned (.int .i64 (listP l full xs).1) ∧ (∃ v', SheetV w' N S v' (listP l full xs).2.1 (listP l full xs).2.2 ∧ ∀ k, v'.ownBlock = some k → v.ownBlock = some k ∨ w.heap.size ≤ k) ∧ KeepV w w' S v ∧ Below N w w' := by
  have hF_a : Fence.wide.fn 95 := trivial
  have hF_b : Fence.wide.fn 96 := trivial
  have hF_c : Fence.wide.fn 97 := trivial
  have hF_d : Fence.wide.fn 108 := trivial
  by_cases h0 : xs.length = 0
  · have hnm := fun (W : World) (h : SheetV W N S v l full) (h2 : N ≤ W.heap.size) => impl_sheet_name.callsV S N v l full 0 W h h2 hl
    have hP : listP l full xs = putT l full ⟨1, 0, 0, 0⟩ := by unfold listP; rw [if_pos h0]
    rw [hP, h0]
    generalize putT l full ⟨1, 0, 0, 0⟩ = r at hnm ⊢
    go_enter Try.func61, Try.ntmps61
    go_wp2_with (go_at_call 95; refine (hnm _ (sheetV_alloc hS _) (Nat.le_trans hN (by simp))).mono ?_; rintro e w' ⟨rfl, hs, hk, hb⟩)
    go_ret
    refine ⟨rfl, ?_, ?_, ((Below.refl N w).alloc hN _).trans hb⟩
    · obtain ⟨v', hv, ho⟩ := hs
      exact ⟨v', hv, fun k hk => (ho k hk).imp id (fun h => by simp at h; omega)⟩
    · exact fun b h1 h2 h3 => (hk b (by simp; omega) h2 h3).trans ((below_alloc (Below.refl _ _) _).block b h1)
  · obtain ⟨m, hm⟩ : ∃ m, xs.length = m + 1 := ⟨xs.length - 1, by omega⟩
    obtain ⟨ad, e, hx0⟩ := Kd.at_int hr1 (m : Int) (by omega) (by omega)
    subst e
    rw [Int.toNat_natCast] at hx0
    have hmx : m ≤ 9223372036854775807 := by have := hr1.2.1; omega
    generalize hx : rd xs (m : Int) = x at hx0
    rw [hm]
    refine (callsIn_wide (n := 6)).1 ?_
    refine callsIn_of_wp_marks Try.func61 rfl trivial ?_ rfl
    simp only [Try.ntmps61, List.size_toArray, List.length_cons, List.length_nil, Nat.reduceAdd, Nat.reduceSub, Array.replicate_succ, Array.replicate_zero, List.push_toArray, List.append_toArray, List.nil_append, List.cons_append]
    have hw1 : wrap64 (((m + 1 : Nat) : Int) - 1) = (m : Int) := by unfold wrap64; omega
    have hadl := World.block_lt_of_cell? w _ hx0
    gi_wp2_with (gi_at_call 96; refine (callsIn_wide.2 (backward_in _ _ _ _)).mono ?_; rintro e w' ⟨rfl, rfl⟩)
    obtain ⟨hadS, hadV⟩ := hfar (by omega) ad rfl
    have hSl := blk_lt hS.1
    obtain ⟨W0, hW0⟩ : ∃ W0, ((w.alloc (.cells #[.pointer (some ⟨S, 0, none⟩)] 79)).alloc (.cells #[.int .i64 x] 2)).alloc (.cells #[.slice (some ad) m c1] 33) = W0 := ⟨_, rfl⟩
    have hb0 : Below w.heap.size w W0 := by rw [← hW0]; exact below_alloc (below_alloc (below_alloc (Below.refl _ _) _) _) _
    have hz0 : W0.heap.size = w.heap.size + 3 := by rw [← hW0]; simp
    have k2 : W0.heap[w.heap.size]? = some (.cells #[.pointer (some ⟨S, 0, none⟩)] 79 (0, 0)) := by
      rw [← hW0]; exact blk_alloc (blk_alloc Array.getElem?_push_size _) _
    have k6 : W0.heap[w.heap.size + 1]? = some (.cells #[.int .i64 x] 2 (0, 0)) := by
      have h : ((w.alloc (.cells #[.pointer (some ⟨S, 0, none⟩)] 79)).alloc (.cells #[.int .i64 x] 2)).heap[w.heap.size + 1]? = some (.cells #[.int .i64 x] 2 (0, 0)) := by
        have := Array.getElem?_push_size (xs := (w.alloc (.cells #[.pointer (some ⟨S, 0, none⟩)] 79)).heap) (x := Obj.cells #[.int .i64 x] 2 (0, 0))
        rw [show (w.alloc (.cells #[.pointer (some ⟨S, 0, none⟩)] 79)).heap.size = w.heap.size + 1 by simp] at this
        exact this
      rw [← hW0]; exact blk_alloc h _
    have kB : W0.cell? ⟨w.heap.size + 1 + 1, 0, none⟩ = some (.slice (some ad) m c1) := by
      have h : W0.heap[w.heap.size + 1 + 1]? = some (.cells #[.slice (some ad) m c1] 33 (0, 0)) := by
        have := Array.getElem?_push_size (xs := ((w.alloc (.cells #[.pointer (some ⟨S, 0, none⟩)] 79)).alloc (.cells #[.int .i64 x] 2)).heap) (x := Obj.cells #[.slice (some ad) m c1] 33 (0, 0))
        rw [show ((w.alloc (.cells #[.pointer (some ⟨S, 0, none⟩)] 79)).alloc (.cells #[.int .i64 x] 2)).heap.size = w.heap.size + 1 + 1 by simp] at this
        rw [← hW0]; exact this
      exact (blk_cell h 0).trans rfl
    obtain ⟨zs, hzs⟩ : ∃ zs, zs = xs.take m := ⟨_, rfl⟩
    have hzl : zs.length = m := by rw [hzs, List.length_take]; omega
    have hcz : ∀ j, j < zs.length → W0.cell? (ad.add j) = some (.int .i64 (zs[j]?.getD 0)) := by
      intro j hj
      obtain ⟨ad2, e2, hx2⟩ := Kd.at_int hr1 (j : Int) (by omega) (by omega)
      obtain rfl : ad = ad2 := by injection e2
      rw [Int.toNat_natCast] at hx2
      have e3 : zs[j]?.getD 0 = rd xs (j : Int) := by rw [hzs, List.getElem?_take, if_pos (by omega)]; simp [rd, List.getD]
      rw [e3]
      exact (hb0.cell (World.block_lt_of_cell? w _ hx2)).trans hx2
    rw [hW0]
    have kB' : W0.cell? ⟨w.heap.size + 1 + 1, 0, none⟩ = some (.slice (some ad) zs.length c1) := by rw [hzl]; exact kB
    have hadw : ad.block < w.heap.size := by rw [add_block_] at hadl; exact hadl
    refine wpIn_rangeFunc_ownG (F := Fence.wide) (n := 6) rfl (by omega) (gf := 108) (lb := #[.pointer (some ⟨w.heap.size + 1 + 1, 0, none⟩)]) rfl trivial (enters_of Try.func108 (by kernel_rfl) rfl)
      (backward_stops 5 (by omega) (w.heap.size + 1 + 1) c1 ad zs (by omega) W0 kB' (by omega) hcz)
      (fun h1 h2 => ⟨h2.1.trans h1.1, h2.2.trans h1.2⟩) (fun W l' o o' hl' _ _ _ => ⟨World.putObj_heap_other (by omega), World.putObj_heap_other (by omega)⟩) (Below.refl _ _) (fun _ => rfl)
      (fun (pre : List (Int × Int)) W => ListI N S w.heap.size ad.block v ((pre.map Prod.snd).foldl pairT (x, l, full)) w W)
      (fun _ _ _ => False)
      (listI_own N S w.heap.size ad.block W0.heap.size v (by omega) (by omega) (by omega) (fun (pre : List (Int × Int)) => (pre.map Prod.snd).foldl pairT (x, l, full)) w (by omega))
      (fun _ _ _ _ _ hs _ _ => hs)
      ⟨v, k2, k6, sheetV_below hS hb0, hl, fun k hk => by obtain ⟨_, hi⟩ := Kd.R_own hS.2.2; have hlt := own_lt hi k hk; exact ⟨by omega, by omega, by omega, fun e => hadV (e ▸ hk)⟩, by omega, fun b h1 _ _ => hb0.block b h1, fun k hk => .inl hk, hb0.mono hN⟩
      (fun x' => { tmps := #[.pointer (some ⟨S, 0, none⟩), .slice (some ad) (m + 1) c1, .pointer (some ⟨w.heap.size, 0, none⟩), undef, .int .i64 0, .int .i64 m, .pointer (some ⟨w.heap.size + 1, 0, none⟩), undef, .int .i64 x'.2, .slice (some ad) (m + 1) c1, .int .i64 ((m : Int) + 1), .bool false, undef, undef, .slice (some ad) (m + 1) c1, .int .i64 ((m : Int) + 1), .int .i64 m, .slice (some ad) (m + 1) c1, .int .i64 m, .pointer (some (ad.add m)), .int .i64 x, .slice (some ad) (m + 1) c1, .int .i64 m, .slice (some ad) m c1, .func (.func 108) #[] #[.pointer (some ⟨w.heap.size + 1 + 1, 0, none⟩)], .int .i64 x'.1, .int .i64 x'.2, undef, undef, undef, undef, undef], defers := [] }) ?assign ?body ?done ?stop
    case assign =>
      intro l' x' W K hK
      gi_wp2
      exact hK
    case body =>
      rintro l' pre x' W ⟨v', q2, q6, hSV, hlen, hown, hsz, hkp, hov, hB⟩ hlt
      have hst : ((pre ++ [x']).map Prod.snd).foldl pairT (x, l, full) = pairT ((pre.map Prod.snd).foldl pairT (x, l, full)) x'.2 := by simp
      generalize (pre.map Prod.snd).foldl pairT (x, l, full) = st at q2 q6 hSV hlen hst
      have c2 : W.cell? ⟨w.heap.size, 0, none⟩ = some (.pointer (some ⟨S, 0, none⟩)) := (blk_cell q2 0).trans rfl
      have c6 : W.cell? ⟨w.heap.size + 1, 0, none⟩ = some (.int .i64 st.1) := (blk_cell q6 0).trans rfl
      have hpr := impl_sheet_pair.callsV S N v' st.2.1 st.2.2 x'.2 st.1 W hSV (by omega) hlen
      have hpT : putT st.2.1 st.2.2 ⟨3, x'.2, st.1, 0⟩ = pairT st x'.2 := rfl
      rw [hpT] at hpr
      have hlen2 : (pairT st x'.2).2.1.length ≤ 400 := putT_len hlen
      generalize pairT st x'.2 = st2 at hpr hlen2 hst
      gi_wp2_with (gi_at_call 97; refine (CallsIn.inRound l' (callsIn_wide.2 hpr)).mono ?_; rintro e W2 ⟨rfl, hs2, hk2, hb2⟩; have d6 : W2.cell? ⟨w.heap.size + 1, 0, none⟩ = some (.int .i64 st.1) := (cell_block_ (hk2 (w.heap.size + 1) (by omega) (by omega) (fun e => (hown _ e).2.1 rfl))).trans c6; have d6f : W2.frozen? ⟨w.heap.size + 1, 0, none⟩ = false := blk_frozen ((hk2 (w.heap.size + 1) (by omega) (by omega) (fun e => (hown _ e).2.1 rfl)).trans q6) 0)
      obtain ⟨v2, hSV2, hown2⟩ := hs2
      have e2 := (hk2 w.heap.size (by omega) (by omega) (fun e => (hown _ e).1 rfl)).trans q2
      have e6 := (hk2 (w.heap.size + 1) (by omega) (by omega) (fun e => (hown _ e).2.1 rfl)).trans q6
      refine ⟨?_, ?_, ?_⟩
      rotate_left 2
      · show ListI N S w.heap.size ad.block v (((pre ++ [x']).map Prod.snd).foldl pairT (x, l, full)) w _
        rw [hst]
        refine ⟨v2, ?_, ?_, ?_, hlen2, ?_, ?_, ?_, ?_, ?_⟩
        · exact (Below.heap_setCell W2 ⟨w.heap.size + 1, 0, none⟩ _ _ (by simp)).trans e2
        · exact blk_put e6 0 _ rfl
        · exact ⟨(Below.heap_setCell W2 ⟨w.heap.size + 1, 0, none⟩ _ _ (by simp; omega)).trans hSV2.1, hSV2.2.1, Kd.R_mono (Kd.R_far (Kd.R_mono (R_and hSV2.2.2 (fun k hk => show k ≠ w.heap.size + 1 by rcases hown2 k hk with h | h; exact (hown k h).2.1; omega)) (fun k hk => hk)) (p := ⟨w.heap.size + 1, 0, none⟩) (fun k hk => hk.2) _) (fun k hk => hk.1)⟩
        · intro k hk
          rcases hown2 k hk with h | h
          · exact hown k h
          · exact ⟨by omega, by omega, by omega, by omega⟩
        · simp; have := hb2.size; omega
        · intro b h1 h2 h3
          refine (Below.heap_setCell W2 ⟨w.heap.size + 1, 0, none⟩ _ _ (by simp; omega)).trans ((hk2 b (by omega) h2 (fun e => ?_)).trans (hkp b h1 h2 h3))
          rcases hov b e with h | h
          · exact h3 h
          · omega
        · intro k hk
          rcases hown2 k hk with h | h
          · exact hov k h
          · exact .inr (by omega)
        · exact (hB.trans hb2).setCell (p := ⟨w.heap.size + 1, 0, none⟩) (by simp; omega) _
      · exact ((keepsOthers_put hSV hk2 hb2.size).trans (KeepsOthers.setCell _ _ _)).from _
      · exact ⟨(Below.heap_setCell W2 ⟨w.heap.size + 1, 0, none⟩ _ _ (by simp)).trans (hk2 _ (by omega) (by omega) (fun e => (hown _ e).2.2.1 rfl)), (Below.heap_setCell W2 ⟨w.heap.size + 1, 0, none⟩ _ _ (by simp; omega)).trans (hk2 _ (by omega) hadS (fun e => (hown _ e).2.2.2 rfl))⟩
    case done =>
      rintro D ys W hD rfl ⟨v', q2, q6, hSV, hlen, hown, hsz, hkp, hov, hB⟩ hK
      have hlp : listP l full xs = ((backTo zs zs.length).map Prod.snd).foldl pairT (x, l, full) := by
        unfold listP
        rw [if_neg h0, hm, Nat.add_sub_cancel, ← hzs, hzl]
        have : xs[m]?.getD 0 = x := by rw [← hx]; simp [rd, List.getD]
        rw [this]
      obtain ⟨st, hst⟩ : ∃ st, st = ((backTo zs zs.length).map Prod.snd).foldl pairT (x, l, full) := ⟨_, rfl⟩
      rw [← hst] at hlp q6 hSV hlen
      clear hst
      have c6 : W.cell? ⟨w.heap.size + 1, 0, none⟩ = some (.int .i64 st.1) := (blk_cell q6 0).trans rfl
      gi_wp2
      refine ⟨by simp, .inl ⟨_, _, rfl, run_takeDeferred hK, ?_⟩⟩
      rw [hlp]
      refine ⟨_, results_tmp rfl _ _ _, rfl, ⟨v', ?_, hov⟩, ?_, ?_⟩
      · have hDS : S ≠ D := by omega
        exact ⟨(World.putObj_heap_other hDS).trans hSV.1, hSV.2.1, Kd.R_mono (R_putObj hSV.2.2 hK rfl) (fun k hk => hk)⟩
      · exact fun b h1 h2 h3 => (World.putObj_heap_other (by omega)).trans (hkp b h1 h2 h3)
      · exact hB.trans (belowK_b (w := w) hN W D _ _ (by omega) hK rfl rfl)
    case stop =>
      rintro D c pre W _ _ h _
      exact h.elim
end
end Go.Proofs.Ytomaeijhljpgdaa.G
namespace Go.Proofs.Ytomaeijhljpgdaa.G
open Go.RowKit Go.Proofs.YtomaeijhljpgdaaW.PrintWords Go.Proofs.YtomaeijhljpgdaaW.PrintLast Go.Proofs.YtomaeijhljpgdaaW.PrintMore
attribute [local go_sem] max2_int min2_int max_two min_two max_three min_three max_four min_four   -- for this text's walks alone
set_option linter.unusedVariables false
set_option linter.unusedSimpArgs false
def impl_PutList.f (l0 : List S26) (l1 : List Int) : Option (Int × Int × List S26) := (impl_placesFault.f l0 l1).bind fun c => (if c = 0 then (some (toldP (listP l0 false l1))) else (some (c, 0, [])))
set_option maxHeartbeats 4000000 in
set_option maxRecDepth 100000 in
theorem impl_PutList.calls (A0 : Option Addr) (c0 : Nat) (l0 : List (S26)) (A1 : Option Addr) (c1 : Nat) (l1 : List Int) (r1 : Int) (r2 : Int) (r3 : List (S26)) (w : World) (hr0 : Kd.C k26 w A0 l0.length l0) (hc0 : l0.length ≤ c0) (hr1 : Kd.C (Kd.int .i64) w A1 l1.length l1) (hc1 : l1.length ≤ c1) (h : impl_PutList.f l0 l1 = some (r1, r2, r3)) :
    Calls Try.prog 16 #[.slice A0 l0.length c0, .slice A1 l1.length c1] w fun e w' => ∃ v2_ : Value, e = .returned (.agg #[.int .i64 r1, .int .i64 r2, v2_]) ∧ Kd.R k26 26 w' w.heap.size (fun _ => True) v2_ r3 ∧ Below w.heap.size w w' := by
  unfold impl_PutList.f at h
  obtain ⟨c, hf, h⟩ := Option.bind_eq_some_iff.mp h
  have HFAR := Aside0.mk (show 0 < l1.length → ∀ ad, A1 = some ad → ad.block < w.heap.size from fun hp ad e => by
    obtain ⟨ad2, e2, hx⟩ := Kd.at_int hr1 0 (by omega) (by omega)
    obtain rfl : ad = ad2 := by rw [e] at e2; injection e2
    have := World.block_lt_of_cell? w _ hx
    rwa [add_block_] at this)
  have HR := Aside0.mk hr0
  have HC := Aside0.mk hc0
  have HR1 := Aside0.mk hr1
  have HC1 := Aside0.mk hc1
  have HF := Aside0.mk hf
  have HB := Aside0.mk (Below.refl w.heap.size w)
  clear hr0 hc0 hr1 hc1
  by_cases hz : c = 0
  · rw [if_pos hz] at h
    subst hz
    have hlen : l0.length ≤ 400 := by
      unfold impl_placesFault.f at hf
      obtain ⟨d, hd, hf⟩ := Option.bind_eq_some_iff.mp hf
      by_cases hd0 : d = 0
      · exact termsFault_len (hd0 ▸ hd)
      · rw [if_neg hd0] at hf
        injection hf with hf
        exact absurd hf hd0
    have HL := Aside0.mk (show l0.length * 32 ≤ 140737488355328 by omega)
    have HLN := Aside0.mk hlen
    have HTP := Aside0.mk (Option.some.inj h)
    clear hf hlen h
    go_enter Try.func16, Try.ntmps16
    go_wp2_with (first | ((with_reducible refine gate_dst (N := 4) rfl ?_); refine box_event ?hg (N := 4) ?hd (cs := #[.int .i64 0, .int .i64 0, .slice none 0 0]) (t := 30) ?hr ?_; (case hd => rfl); (case hg => rfl); (case hr => first | (go_simp; done) | (go_simp; rfl)); intro g4 hg w2 hbox hb; have n0_ := Aside0.mk (below_step HB.out hb); have n1_ := Aside0.mk hbox; have n2_ := Aside0.mk (show w.heap.size ≤ g4 by rw [hg]; exact below_size HB.out); clear HB; have HB := n0_; have BK4 := n1_; have GE4 := n2_; clear n0_ n1_ n2_ hb hbox hg; (try clear q0_ q1_ q2_ f0_ f1_ f2_); have q0_ : w2.cell? ⟨g4, 0, none⟩ = some (.int .i64 0) := (blk_cell BK4.out 0).trans rfl; have q1_ : w2.cell? ⟨g4, 1, none⟩ = some (.int .i64 0) := (blk_cell BK4.out 1).trans rfl; have q2_ : w2.cell? ⟨g4, 2, none⟩ = some (.slice none 0 0) := (blk_cell BK4.out 2).trans rfl; have f0_ := blk_frozen BK4.out 0; have f1_ := blk_frozen BK4.out 1; have f2_ := blk_frozen BK4.out 2) | (go_at_call 60; (with_reducible refine (impl_placesFault.calls A0 c0 l0 A1 c1 l1 _ _ (Kd.C_below HR.out HB.out) HC.out (Kd.C_below HR1.out HB.out) HC1.out HF.out).mono ?_); rintro e w3 ⟨rfl, hb⟩; have n0_ := Aside0.mk (below_step HB.out hb); have n1_ := Aside0.mk (blk_below BK4.out hb); clear HB BK4 hb; have HB := n0_; have BK4 := n1_; clear n0_ n1_; (try clear q0_ q1_ q2_ f0_ f1_ f2_); have q0_ : w3.cell? ⟨g4, 0, none⟩ = some (.int .i64 0) := (blk_cell BK4.out 0).trans rfl; have q1_ : w3.cell? ⟨g4, 1, none⟩ = some (.int .i64 0) := (blk_cell BK4.out 1).trans rfl; have q2_ : w3.cell? ⟨g4, 2, none⟩ = some (.slice none 0 0) := (blk_cell BK4.out 2).trans rfl; have f0_ := blk_frozen BK4.out 0; have f1_ := blk_frozen BK4.out 1; have f2_ := blk_frozen BK4.out 2) | (go_at_call 54; (with_reducible refine (impl_sheetOf.calls A0 c0 l0 _ (Kd.C_below HR.out HB.out) HC.out HL.out).mono ?_); rintro e w4 ⟨S, rfl, ⟨v, hv⟩, hb⟩; have HS := Aside0.mk (show SheetV w4 w3.heap.size S v l0 false from hv); have HN := Aside0.mk hb.size; have N4 := Aside0.mk (blk_lt BK4.out); have NW := Aside0.mk HB.out.size; have n0_ := Aside0.mk (below_step HB.out hb); have m1_ := Aside0.mk (blk_below BK4.out hb); clear HB BK4 hb hv; have HB := n0_; have BK4 := m1_; clear n0_ m1_; (try clear q0_ q1_ q2_ f0_ f1_ f2_); have q0_ : w4.cell? ⟨g4, 0, none⟩ = some (.int .i64 0) := (blk_cell BK4.out 0).trans rfl; have q1_ : w4.cell? ⟨g4, 1, none⟩ = some (.int .i64 0) := (blk_cell BK4.out 1).trans rfl; have q2_ : w4.cell? ⟨g4, 2, none⟩ = some (.slice none 0 0) := (blk_cell BK4.out 2).trans rfl; have f0_ := blk_frozen BK4.out 0; have f1_ := blk_frozen BK4.out 1; have f2_ := blk_frozen BK4.out 2) | (go_at_call 61; refine (impl_sheet_list.callsV S _ v l0 false A1 c1 l1 _ HS.out HN.out HLN.out (Kd.C_below HR1.out HB.out) HC1.out (fun hp ad e => ⟨Nat.ne_of_lt (Nat.lt_of_lt_of_le (Nat.lt_of_lt_of_le (HFAR.out hp ad e) NW.out) HS.out.2.1), fun e2 => Nat.lt_irrefl _ (Nat.lt_of_lt_of_le (Nat.lt_of_lt_of_le (HFAR.out hp ad e) NW.out) (Kd.R_base HS.out.2.2 _ e2))⟩)).mono ?_; rintro e w5 ⟨rfl, ⟨v5, hs, _⟩, _, hb⟩; clear HS; have HS := Aside0.mk (show Sheet w5 _ S _ _ from ⟨v5, hs⟩); clear hs; have n0_ := Aside0.mk (HB.out.trans (hb.mono NW.out)); have m1_ : Aside0 (w5.heap[g4]? = _) := Aside0.mk ((hb.block g4 N4.out).trans BK4.out); have n1_ := Aside0.mk (Nat.le_trans HN.out hb.size); clear HB BK4 hb HN; have HB := n0_; have BK4 := m1_; have HN := n1_; clear n0_ m1_ n1_; (try clear q0_ q1_ q2_ f0_ f1_ f2_); have q0_ : w5.cell? ⟨g4, 0, none⟩ = some (.int .i64 0) := (blk_cell BK4.out 0).trans rfl; have q1_ : w5.cell? ⟨g4, 1, none⟩ = some (.int .i64 0) := (blk_cell BK4.out 1).trans rfl; have q2_ : w5.cell? ⟨g4, 2, none⟩ = some (.slice none 0 0) := (blk_cell BK4.out 2).trans rfl; have f0_ := blk_frozen BK4.out 0; have f1_ := blk_frozen BK4.out 1; have f2_ := blk_frozen BK4.out 2) | (go_at_call 55; refine (impl_sheet_told.calls' S _ _ _ _ r1 r2 r3 _ HS.out HN.out HTP.out).mono ?_; rintro e w6 ⟨v8, rfl, ho, hb⟩; have HO := Aside0.mk ho; clear ho HS; obtain ⟨A8, c8, e8⟩ := Kd.R_slice HO.out; subst e8; have n0_ := Aside0.mk (HB.out.trans (hb.mono NW.out)); have m1_ : Aside0 (w6.heap[g4]? = _) := Aside0.mk ((hb.block g4 N4.out).trans BK4.out); have n1_ := Aside0.mk (Nat.le_trans HN.out hb.size); clear HB BK4 hb HN; have HB := n0_; have BK4 := m1_; have HN := n1_; clear n0_ m1_ n1_; (try clear q0_ q1_ q2_ f0_ f1_ f2_); have q0_ : w6.cell? ⟨g4, 0, none⟩ = some (.int .i64 0) := (blk_cell BK4.out 0).trans rfl; have q1_ : w6.cell? ⟨g4, 1, none⟩ = some (.int .i64 0) := (blk_cell BK4.out 1).trans rfl; have q2_ : w6.cell? ⟨g4, 2, none⟩ = some (.slice none 0 0) := (blk_cell BK4.out 2).trans rfl; have f0_ := blk_frozen BK4.out 0; have f1_ := blk_frozen BK4.out 1; have f2_ := blk_frozen BK4.out 2))
    have HOA := Aside0.mk (show ∀ k, (.slice A8 r3.length c8 : Value).ownBlock = some k → k ≠ g4 from fun k hk => Nat.ne_of_gt (Nat.lt_of_lt_of_le N4.out (Kd.R_base HO.out k hk)))
    refine bodyPost_ret (results_cell_row rfl _ _ g4 30 #[.int .i64 r1, .int .i64 r2, .slice A8 r3.length c8] (0, 0) _ rfl (blk_put (blk_put (blk_put BK4.out 0 _ rfl) 1 _ rfl) 2 _ rfl) Try.underlying30 rfl (by kernel_rfl)) rfl ?_
    refine ⟨_, rfl, ?_, below_set (below_set (below_set HB.out GE4.out) GE4.out) GE4.out⟩
    exact Kd.R_mono (Kd.R_lower (Kd.R_far (Kd.R_far (Kd.R_far (R_not HO.out HOA.out) (p := ⟨g4, 0, none⟩) (fun k hk => hk) _) (p := ⟨g4, 1, none⟩) (fun k hk => hk) _) (p := ⟨g4, 2, none⟩) (fun k hk => hk) _) NW.out) (fun _ _ => trivial)
  · rw [if_neg hz] at h
    have hz0 : (c == 0) = false := by simpa using hz
    have hz1 : (c != 0) = true := by simpa using hz
    simp only [Option.some.injEq, Prod.mk.injEq] at h
    obtain ⟨rfl, rfl, rfl⟩ := h
    go_enter Try.func16, Try.ntmps16
    go_wp2_with (first | ((with_reducible refine gate_dst (N := 4) rfl ?_); refine box_event ?hg (N := 4) ?hd (cs := #[.int .i64 0, .int .i64 0, .slice none 0 0]) (t := 30) ?hr ?_; (case hd => rfl); (case hg => rfl); (case hr => first | (go_simp; done) | (go_simp; rfl)); intro g4 hg w2 hbox hb; have n0_ := Aside0.mk (below_step HB.out hb); have n1_ := Aside0.mk hbox; have n2_ := Aside0.mk (show w.heap.size ≤ g4 by rw [hg]; exact below_size HB.out); clear HB; have HB := n0_; have BK4 := n1_; have GE4 := n2_; clear n0_ n1_ n2_ hb hbox hg; (try clear q0_ q1_ q2_ f0_ f1_ f2_); have q0_ : w2.cell? ⟨g4, 0, none⟩ = some (.int .i64 0) := (blk_cell BK4.out 0).trans rfl; have q1_ : w2.cell? ⟨g4, 1, none⟩ = some (.int .i64 0) := (blk_cell BK4.out 1).trans rfl; have q2_ : w2.cell? ⟨g4, 2, none⟩ = some (.slice none 0 0) := (blk_cell BK4.out 2).trans rfl; have f0_ := blk_frozen BK4.out 0; have f1_ := blk_frozen BK4.out 1; have f2_ := blk_frozen BK4.out 2) | (go_at_call 60; (with_reducible refine (impl_placesFault.calls A0 c0 l0 A1 c1 l1 _ _ (Kd.C_below HR.out HB.out) HC.out (Kd.C_below HR1.out HB.out) HC1.out HF.out).mono ?_); rintro e w3 ⟨rfl, hb⟩; have n0_ := Aside0.mk (below_step HB.out hb); have n1_ := Aside0.mk (blk_below BK4.out hb); clear HB BK4 hb; have HB := n0_; have BK4 := n1_; clear n0_ n1_; (try clear q0_ q1_ q2_ f0_ f1_ f2_); have q0_ : w3.cell? ⟨g4, 0, none⟩ = some (.int .i64 0) := (blk_cell BK4.out 0).trans rfl; have q1_ : w3.cell? ⟨g4, 1, none⟩ = some (.int .i64 0) := (blk_cell BK4.out 1).trans rfl; have q2_ : w3.cell? ⟨g4, 2, none⟩ = some (.slice none 0 0) := (blk_cell BK4.out 2).trans rfl; have f0_ := blk_frozen BK4.out 0; have f1_ := blk_frozen BK4.out 1; have f2_ := blk_frozen BK4.out 2))
    refine bodyPost_ret (results_cell_row rfl _ _ g4 30 #[.int .i64 c, .int .i64 0, .slice none 0 0] (0, 0) _ rfl (blk_put (blk_put (blk_put BK4.out 0 _ rfl) 1 _ rfl) 2 _ rfl) Try.underlying30 rfl (by kernel_rfl)) rfl ?_
    exact ⟨_, rfl, Kd.R_nil _ _ _ _ _, below_set (below_set (below_set HB.out GE4.out) GE4.out) GE4.out⟩
end Go.Proofs.Ytomaeijhljpgdaa.G
namespace Go.Proofs.Ytomaeijhljpgdaa.G
open Go.RowKit Go.Proofs.YtomaeijhljpgdaaW.PrintWords Go.Proofs.YtomaeijhljpgdaaW.PrintLast Go.Proofs.YtomaeijhljpgdaaW.PrintMore
attribute [local go_sem] max2_int min2_int max_two min_two max_three min_three max_four min_four   -- for this text's walks alone
set_option linter.unusedVariables false
set_option linter.unusedSimpArgs false
def spec_TermsFault.l0 : Nat → List (S26) → Int → Option (Int)
 | 0, _, _ => none
 | k + 1, x0, x3 => if x3 < (x0.length : Int) then (if 0 ≤ x3 then (if x3 ≤ (x0.length : Int) then ((spec_l5Term.f k (x0.take (x3 : Int).toNat) ((rd_T26 x0 x3).f0) ((rd_T26 x0 x3).f1) ((rd_T26 x0 x3).f2) ((rd_T26 x0 x3).f3)).bind fun t285 => (if t285 = 0 then ((spec_l5Find.f k (x0.take (x3 : Int).toNat) ((rd_T26 x0 x3).f0) ((rd_T26 x0 x3).f1) ((rd_T26 x0 x3).f2) ((rd_T26 x0 x3).f3)).bind fun t291 => (if t291 ≥ 0 then (some 7) else (spec_TermsFault.l0 k x0 (wrap64 (x3 + 1))))) else (some t285))) else (none)) else (none)) else (some 0)
def spec_TermsFault.f (k : Nat) (l0 : List (S26)) : Option (Int) := if (l0.length : Int) > 400 then (some 2) else (spec_TermsFault.l0 k l0 0)
def spec_TermsFault.T6 : Bool × List (List Nat × List Nat) := (true, [([], []), ([], []), ([0, 1], [0, 1]), ([], []), ([], []), ([3, 4], [3, 4]), ([5], [5]), ([2, 6], [2, 6]), ([7, 7, 0, 1, 2, 3, 4, 5, 6, 7], [7])])
def spec_TermsFault.B6 : List Nat := [0, 0, 3, 0, 0, 24, 56, 127, 255]
theorem spec_TermsFault.tab6 : rtab .any (opsOf Try.f57 6) = spec_TermsFault.T6 := by kernel_rfl
theorem spec_TermsFault.bits6 : waitsOk spec_TermsFault.T6.2 spec_TermsFault.B6 = true := by kernel_rfl
def spec_TermsFault.T9 : Bool × List (List Nat × List Nat) := (true, [([], []), ([], []), ([0, 1], [0, 1]), ([], []), ([], []), ([3, 4], [3, 4]), ([5], [5]), ([2, 6], [2, 6]), ([7], [7])])
def spec_TermsFault.B9 : List Nat := [0, 0, 3, 0, 0, 24, 56, 127, 255]
theorem spec_TermsFault.tab9 : rtab .any (opsOf Try.f57 9) = spec_TermsFault.T9 := by kernel_rfl
theorem spec_TermsFault.bits9 : waitsOk spec_TermsFault.T9.2 spec_TermsFault.B9 = true := by kernel_rfl
set_option maxHeartbeats 8000000 in
set_option maxRecDepth 100000 in
theorem spec_TermsFault.calls (k : Nat) (A0 : Option Addr) (c0 : Nat) (l0 : List (S26)) (r : Int) (w : World) (hr0 : Kd.C k26 w A0 l0.length l0) (hc0 : l0.length ≤ c0) (h : spec_TermsFault.f k l0 = some r) :
  Calls Try.prog 57 #[.slice A0 l0.length c0] w fun e w' => e = .returned (.int .i64 r) ∧ Below w.heap.size w w' := by
 have hu26 := Try.underlying26
 have HR0 := Aside0.mk hr0
 have HC0 := Aside0.mk hc0
 clear hr0 hc0
 have HB := Aside0.mk (Below.refl w.heap.size w)
 have H : (if (l0.length : Int) > 400 then (some 2) else (spec_TermsFault.l0 k l0 0)) = some r := h
 clear h
 by_cases c2 : (l0.length : Int) > 400
 ·rw [if_pos c2] at H
  have c2b0 : decide (400 < (l0.length : Int)) = true := decide_eq_true c2
  have c2b1 : decide (400 < l0.length) = true := decide_eq_true (by omega)
  clear c2
  obtain rfl := Option.some.inj H
  go_enter Try.func57, Try.ntmps57
  go_wp2
  go_ret
  exact ⟨by first | rfl | (simp [errW_none, errW_some] <;> rfl) | (simp [*, errW_none, errW_some] <;> rfl), by repeat (first | (with_reducible first | exact HB.out | apply below_alloc | apply pw_below_drewN | apply below_drew1) | exact HB.out)⟩
 ·rw [if_neg c2] at H
  have c2b0 : decide (400 < (l0.length : Int)) = false := decide_eq_false c2
  have c2b1 : decide (400 < l0.length) = false := decide_eq_false (by omega)
  clear c2
  have H' := Aside0.mk H
  clear H
  go_enter Try.func57, Try.ntmps57
  go_wp2
  go_loopg [3] k (fun kq v3 w' => ∃ (x3_1 : Int), v3 = .int .i64 x3_1 ∧ Aside0 (spec_TermsFault.l0 kq l0 x3_1 = some r) ∧ Aside0 (kq ≤ k) ∧ Aside0 (Below w.heap.size w w'))
  case atStart => exact ⟨(0), (by first | rfl | (simp; done) | (simp [*]; done)), H', ⟨Nat.le_refl _⟩, ⟨by repeat (first | (with_reducible first | exact HB.out | apply below_alloc | apply pw_below_drewN | apply below_drew1) | exact HB.out)⟩⟩
  case round =>
   clear H'
   try clear c2
   try clear c2b0
   try clear c2b1
   try clear p2
   obtain ⟨x3_1, rfl, HA, HK1, HB⟩ := hrel
   cases gk with
   | zero => exact absurd HA.out (by simp [spec_TermsFault.l0])
   | succ k1 =>
    have H := HA.out
    clear HA
    simp only [spec_TermsFault.l0] at H
    by_cases c3 : x3_1 < (l0.length : Int)
    ·rw [if_pos c3] at H
     have c3b0 : decide (x3_1 < (l0.length : Int)) = true := decide_eq_true c3
     clear c3
     by_cases c4 : 0 ≤ x3_1
     ·rw [if_pos c4] at H
      have c4b0 := eq_true c4
      have c4b1 : decide (0 ≤ x3_1) = true := decide_eq_true c4
      clear c4
      by_cases c5 : x3_1 ≤ (l0.length : Int)
      ·rw [if_pos c5] at H
       have c5b0 := eq_true c5
       have c5b1 : decide (x3_1 ≤ (l0.length : Int)) = true := decide_eq_true c5
       clear c5
       obtain ⟨y280, hy280⟩ : ∃ y_ : List (S26), y_ = (l0.take (x3_1 : Int).toNat) := ⟨_, rfl⟩
       replace H : ((spec_l5Term.f k1 y280 ((rd_T26 l0 x3_1).f0) ((rd_T26 l0 x3_1).f1) ((rd_T26 l0 x3_1).f2) ((rd_T26 l0 x3_1).f3)).bind fun t285 => (if t285 = 0 then ((spec_l5Find.f k1 (l0.take (x3_1 : Int).toNat) ((rd_T26 l0 x3_1).f0) ((rd_T26 l0 x3_1).f1) ((rd_T26 l0 x3_1).f2) ((rd_T26 l0 x3_1).f3)).bind fun t291 => (if t291 ≥ 0 then (some 7) else (spec_TermsFault.l0 k1 l0 (wrap64 (x3_1 + 1))))) else (some t285))) = some r := by first | (rw [hy280]; with_reducible exact H) | (have H2_ := (Option.bind_some _ _).symm.trans H; rw [hy280]; with_reducible exact H2_) | (have H2_ := (Option.bind_some _ _).symm.trans H; with_reducible exact H2_) | with_reducible exact H | (rw [hy280]; exact H) | exact H
       have Ny280 := Aside0.mk hy280
       clear hy280
       replace H := Option.bind_eq_some_iff.mp H
       obtain ⟨t285, A60, H⟩ := H
       try dsimp only at H
       have A6 := Aside0.mk A60
       clear A60
       by_cases c7 : t285 = 0
       ·rw [if_pos c7] at H
        have c7b0 : (t285 == 0) = true := beq_iff_eq.mpr c7
        have c7b1 : (t285 != 0) = false := bne_eq_false_iff_eq.mpr c7
        clear c7
        have c8b0 := eq_true (of_decide_eq_true (by first | (with_reducible assumption) | assumption) : 0 ≤ x3_1)
        have c9b0 := eq_true (of_decide_eq_true (by first | (with_reducible assumption) | assumption) : x3_1 ≤ (l0.length : Int))
        obtain ⟨y286, hy286⟩ : ∃ y_ : List (S26), y_ = (l0.take (x3_1 : Int).toNat) := ⟨_, rfl⟩
        replace H : ((spec_l5Find.f k1 y286 ((rd_T26 l0 x3_1).f0) ((rd_T26 l0 x3_1).f1) ((rd_T26 l0 x3_1).f2) ((rd_T26 l0 x3_1).f3)).bind fun t291 => (if t291 ≥ 0 then (some 7) else (spec_TermsFault.l0 k1 l0 (wrap64 (x3_1 + 1))))) = some r := by first | (rw [hy286]; with_reducible exact H) | (have H2_ := (Option.bind_some _ _).symm.trans H; rw [hy286]; with_reducible exact H2_) | (have H2_ := (Option.bind_some _ _).symm.trans H; with_reducible exact H2_) | with_reducible exact H | (rw [hy286]; exact H) | exact H
        have Ny286 := Aside0.mk hy286
        clear hy286
        replace H := Option.bind_eq_some_iff.mp H
        obtain ⟨t291, A100, H⟩ := H
        try dsimp only at H
        have A10 := Aside0.mk A100
        clear A100
        by_cases c11 : t291 ≥ 0
        ·rw [if_pos c11] at H
         have c11b0 : decide (0 ≤ t291) = true := decide_eq_true c11
         clear c11
         obtain rfl := Option.some.inj H
         try go_wp2
         have n0_ := Aside0.mk (below_drew1 HB.out)
         clear HB
         have HB := n0_
         clear n0_
         have q13 : (x3_1 : Int) ≤ ((l0.length : Int) : Int) := of_decide_eq_true (by first | (with_reducible assumption) | assumption)
         obtain ⟨i013, hi013, _, hsz13, _⟩ := info_parts info26
         have hroom13 : l0.length ≤ c0 := HC0.out
         have hC13 : Kd.C k26 _ A0 l0.length l0 := HR0.out
         have hcut13 := cut_to (P := Try.prog) 24 26 .i64 Try.underlying24 hi013 A0 l0.length c0 x3_1 (of_decide_eq_true (by first | (with_reducible assumption) | assumption)) q13 hroom13
         have hr13 := Kd.C_take (m := (x3_1 : Int).toNat) hC13 (by omega)
         have hy13 : y280.length = (x3_1 : Int).toNat := (by rw [Ny280.out, List.length_take]; omega)
         rw [← Ny280.out] at hr13
         rw [← hy13] at hcut13
         have HR283 := Aside0.mk hr13
         have HC283 := Aside0.mk (show y280.length ≤ c0 from by omega)
         clear hr13 hC13 hroom13 hi013 hsz13
         have KY13 := Aside0.mk hy13
         clear hy13
         replace q13 := eq_true q13
         have p284 : 0 ≤ (x3_1 : Int) := of_decide_eq_true (by first | (with_reducible assumption) | assumption)
         have q284 : x3_1 < (l0.length : Int) := of_decide_eq_true (by first | (with_reducible assumption) | assumption)
         obtain ⟨ad284, e284, hx284_0, hx284_1, hx284_2, hx284_3⟩ := at_T26 HR0.out x3_1 p284 q284
         have hw284_3 := hx284_3
         have hw284_2 := hx284_2
         have hw284_1 := hx284_1
         have hw284_0 := hx284_0
         cases e284
         replace hx284_0 := (HB.out.cell (World.block_lt_of_cell? w _ hx284_0)).trans hx284_0
         replace hx284_1 := (HB.out.cell (World.block_lt_of_cell? w _ hx284_1)).trans hx284_1
         replace hx284_2 := (HB.out.cell (World.block_lt_of_cell? w _ hx284_2)).trans hx284_2
         replace hx284_3 := (HB.out.cell (World.block_lt_of_cell? w _ hx284_3)).trans hx284_3
         replace p284 := eq_true p284
         replace q284 := eq_true q284
         refine start_ (n := 9) (S := fun w' => w'.cell? (ad284.add ((x3_1).toNat * 4)) = some (.int .i64 ((rd_T26 l0 x3_1).f0)) ∧ w'.cell? ⟨(ad284.add ((x3_1).toNat * 4)).block, (ad284.add ((x3_1).toNat * 4)).off + 1, none⟩ = some (.int .i64 ((rd_T26 l0 x3_1).f1)) ∧ w'.cell? ⟨(ad284.add ((x3_1).toNat * 4)).block, (ad284.add ((x3_1).toNat * 4)).off + 2, none⟩ = some (.int .i64 ((rd_T26 l0 x3_1).f2)) ∧ w'.cell? ⟨(ad284.add ((x3_1).toNat * 4)).block, (ad284.add ((x3_1).toNat * 4)).off + 3, none⟩ = some (.int .i64 ((rd_T26 l0 x3_1).f3))) (ds := []) #[false, false, false, false, false, false, false, false, false] (by kernel_rfl) rfl rfl ⟨((HB.out.cell (World.block_lt_of_cell? w _ hw284_0)).trans hw284_0), ((HB.out.cell (World.block_lt_of_cell? w _ hw284_1)).trans hw284_1), ((HB.out.cell (World.block_lt_of_cell? w _ hw284_2)).trans hw284_2), ((HB.out.cell (World.block_lt_of_cell? w _ hw284_3)).trans hw284_3)⟩ (fun hHeld => ?_); refine with_tabW spec_TermsFault.tab6 spec_TermsFault.bits6 (fun HT_ HW_ => ?_)
         generalize wr.drew = w12 at HB HR283 hx284_0 hx284_1 hx284_2 hx284_3 hHeld ⊢
         refine pure_ (i := 0) (N := some 14) (v := ?_) (a' := ?_) #[true, false, false, false, false, false, false, false, false] rfl rfl (any_of HT_.out (by kernel_rfl)) (fun _ _ _ h => h) (Or.inl ⟨by rfl, ?_⟩) ?_ ?_
         rotate_left
         ·intro w'
          go_simp
          with_reducible rfl
         rotate_left
         ·simp only [Act.put, lA_, lZ_, lS_, i64_w, i32_w]
          rfl
         refine pure_ (i := 1) (N := some 15) (v := ?_) (a' := ?_) #[true, true, false, false, false, false, false, false, false] rfl rfl (any_of HT_.out (by kernel_rfl)) (fun _ _ _ h => h) (Or.inl ⟨by rfl, ?_⟩) ?_ ?_
         rotate_left
         ·intro w'
          go_simp
          with_reducible rfl
         rotate_left
         ·simp only [Act.put, lA_, lZ_, lS_, i64_w, i32_w]
          rfl
         refine pure_ (i := 2) (N := some 16) (v := ?_) (a' := ?_) #[true, true, true, false, false, false, false, false, false] rfl rfl (any_of HT_.out (by kernel_rfl)) (fun _ _ _ h => h) (Or.inl ⟨by rfl, ?_⟩) ?_ ?_
         rotate_left
         ·intro w'
          go_simp
          with_reducible rfl
         rotate_left
         ·simp only [Act.put, lA_, lZ_, lS_, i64_w, i32_w]
          rfl
         refine pure_ (i := 3) (N := some 17) (v := ?_) (a' := ?_) #[true, true, true, true, false, false, false, false, false] rfl rfl (any_of HT_.out (by kernel_rfl)) (fun _ _ _ h => h) (Or.inl ⟨by rfl, ?_⟩) ?_ ?_
         rotate_left
         ·intro w'
          go_simp
          with_reducible rfl
         rotate_left
         ·simp only [Act.put, lA_, lZ_, lS_, i64_w, i32_w]
          rfl
         refine pure_ (i := 4) (N := some 18) (v := ?_) (a' := ?_) #[true, true, true, true, true, false, false, false, false] rfl rfl (any_of HT_.out (by kernel_rfl)) (fun _ _ _ h => h) (Or.inl ⟨by rfl, ?_⟩) ?_ ?_
         rotate_left
         ·intro w'
          go_simp
          with_reducible rfl
         rotate_left
         ·simp only [Act.put, lA_, lZ_, lS_, i64_w, i32_w]
          rfl
         refine pure_ (i := 5) (N := some 19) (v := ?_) (a' := ?_) #[true, true, true, true, true, true, false, false, false] rfl rfl (any_of HT_.out (by kernel_rfl)) (fun _ _ _ h => h) (Or.inl ⟨by rfl, ?_⟩) ?_ ?_
         rotate_left
         ·intro w'
          go_simp
          with_reducible rfl
         rotate_left
         ·simp only [Act.put, lA_, lZ_, lS_, i64_w, i32_w]
          rfl
         refine take_ (i := 6) (N := some 20) (v := ?_) (a' := ?_) #[true, true, true, true, true, true, true, false, false] rfl rfl (take_ofW HT_.out HW_.out (by kernel_rfl)) (fun _ _ _ h => h) (Or.inl ⟨by rfl, ?_⟩) hHeld ?_ ?_
         rotate_left
         ·rintro w' ⟨s0, s1, s2, s3⟩
          go_simp
          with_reducible rfl
         rotate_left
         ·simp only [Act.put, lA_, lZ_, lS_, i64_w, i32_w]
          rfl
         refine one_ (i := 7) (N := some 21) #[true, true, true, true, true, true, true, true, false] rfl rfl (one_of HT_.out (by kernel_rfl)) (by decide) (fun K hK => ?_)
         refine goes_ Try.func92 (by kernel_rfl) rfl #[.slice (some ad284) y280.length c0, .agg #[.int .i64 ((rd_T26 l0 x3_1).f0), .int .i64 ((rd_T26 l0 x3_1).f1), .int .i64 ((rd_T26 l0 x3_1).f2), .int .i64 ((rd_T26 l0 x3_1).f3)]] (by rfl) rfl rfl (by (try simp only [List.map_toArray, List.map_cons, List.map_nil]); first | done | rfl | (simp only [List.length_drop, List.length_take]; rfl)) ?_
         with_reducible refine (spec_l5Term.calls k1 _ _ y280 ((rd_T26 l0 x3_1).f0) ((rd_T26 l0 x3_1).f1) ((rd_T26 l0 x3_1).f2) ((rd_T26 l0 x3_1).f3) t285 _ ?side1 ?side2 A6.out).mono ?_
         (case side1 => repeat (first | exact (Kd.C_below HR283.out HB.out) | (with_reducible refine Kd.C_alloc ?_ _) | (with_reducible refine Kd.C_drewN ?_ _) | (with_reducible refine Kd.C_drew ?_)))
         (case side2 => exact HC283.out)
         rintro e w14 ⟨rfl, hb⟩
         refine ⟨_, rfl, ?_⟩
         have n0_ := Aside0.mk (below_step (by repeat (first | (with_reducible first | exact HB.out | apply below_alloc | apply pw_below_drewN | apply below_drew1) | exact HB.out)) hb)
         clear HB
         have HB := n0_
         clear n0_
         (try clear hb)
         (try clear hb2)
         (try clear hk)
         (try clear hi)
         refine hK.out _ _ ⟨((HB.out.cell (World.block_lt_of_cell? w _ hw284_0)).trans hw284_0), ((HB.out.cell (World.block_lt_of_cell? w _ hw284_1)).trans hw284_1), ((HB.out.cell (World.block_lt_of_cell? w _ hw284_2)).trans hw284_2), ((HB.out.cell (World.block_lt_of_cell? w _ hw284_3)).trans hw284_3)⟩ (fun hHeld => ?_)
         clear hK K
         refine norm_ (a' := ?_) ?_ ?_
         rotate_left
         ·show Act.put _ (some 21) _ = _
          simp only [Act.put, lA_, lZ_, lS_, i64_w, i32_w]
          rfl
         refine pure_ (i := 8) (N := some 4) (v := ?_) (a' := ?_) #[true, true, true, true, true, true, true, true, true] rfl rfl (any_of HT_.out (by kernel_rfl)) (fun _ _ _ h => h) (Or.inl ⟨by rfl, ?_⟩) ?_ ?_
         rotate_left
         ·intro w'
          go_simp
          with_reducible rfl
         rotate_left
         ·simp only [Act.put, lA_, lZ_, lS_, i64_w, i32_w]
          rfl
         refine done_ (done_of HT_.out (by kernel_rfl)) ?_
         try go_wp2
         have n0_ := Aside0.mk (below_drew1 HB.out)
         clear HB
         have HB := n0_
         clear n0_
         have q16 : (x3_1 : Int) ≤ ((l0.length : Int) : Int) := of_decide_eq_true (by first | (with_reducible assumption) | assumption)
         obtain ⟨i016, hi016, _, hsz16, _⟩ := info_parts info26
         have hroom16 : l0.length ≤ c0 := HC0.out
         have hC16 : Kd.C k26 _ (some ad284) l0.length l0 := HR0.out
         try clear hcut13
         have hcut16 := cut_to (P := Try.prog) 24 26 .i64 Try.underlying24 hi016 (some ad284) l0.length c0 x3_1 (of_decide_eq_true (by first | (with_reducible assumption) | assumption)) q16 hroom16
         have hr16 := Kd.C_take (m := (x3_1 : Int).toNat) hC16 (by omega)
         have hy16 : y286.length = (x3_1 : Int).toNat := (by rw [Ny286.out, List.length_take]; omega)
         rw [← Ny286.out] at hr16
         rw [← hy16] at hcut16
         have HR289 := Aside0.mk hr16
         have HC289 := Aside0.mk (show y286.length ≤ c0 from by omega)
         clear hr16 hC16 hroom16 hi016 hsz16
         have KY16 := Aside0.mk hy16
         clear hy16
         replace q16 := eq_true q16
         have p290 : 0 ≤ (x3_1 : Int) := of_decide_eq_true (by first | (with_reducible assumption) | assumption)
         have q290 : x3_1 < (l0.length : Int) := of_decide_eq_true (by first | (with_reducible assumption) | assumption)
         obtain ⟨ad290, e290, hx290_0, hx290_1, hx290_2, hx290_3⟩ := at_T26 HR0.out x3_1 p290 q290
         have hw290_3 := hx290_3
         have hw290_2 := hx290_2
         have hw290_1 := hx290_1
         have hw290_0 := hx290_0
         obtain rfl : ad284 = ad290 := (by injection e290)
         replace hx290_0 := (HB.out.cell (World.block_lt_of_cell? w _ hx290_0)).trans hx290_0
         replace hx290_1 := (HB.out.cell (World.block_lt_of_cell? w _ hx290_1)).trans hx290_1
         replace hx290_2 := (HB.out.cell (World.block_lt_of_cell? w _ hx290_2)).trans hx290_2
         replace hx290_3 := (HB.out.cell (World.block_lt_of_cell? w _ hx290_3)).trans hx290_3
         replace p290 := eq_true p290
         replace q290 := eq_true q290
         refine start_ (n := 9) (S := fun w' => w'.cell? (ad284.add ((x3_1).toNat * 4)) = some (.int .i64 ((rd_T26 l0 x3_1).f0)) ∧ w'.cell? ⟨(ad284.add ((x3_1).toNat * 4)).block, (ad284.add ((x3_1).toNat * 4)).off + 1, none⟩ = some (.int .i64 ((rd_T26 l0 x3_1).f1)) ∧ w'.cell? ⟨(ad284.add ((x3_1).toNat * 4)).block, (ad284.add ((x3_1).toNat * 4)).off + 2, none⟩ = some (.int .i64 ((rd_T26 l0 x3_1).f2)) ∧ w'.cell? ⟨(ad284.add ((x3_1).toNat * 4)).block, (ad284.add ((x3_1).toNat * 4)).off + 3, none⟩ = some (.int .i64 ((rd_T26 l0 x3_1).f3))) (ds := []) #[false, false, false, false, false, false, false, false, false] (by kernel_rfl) rfl rfl ⟨((HB.out.cell (World.block_lt_of_cell? w _ hw290_0)).trans hw290_0), ((HB.out.cell (World.block_lt_of_cell? w _ hw290_1)).trans hw290_1), ((HB.out.cell (World.block_lt_of_cell? w _ hw290_2)).trans hw290_2), ((HB.out.cell (World.block_lt_of_cell? w _ hw290_3)).trans hw290_3)⟩ (fun hHeld => ?_); refine with_tabW spec_TermsFault.tab9 spec_TermsFault.bits9 (fun HT_ HW_ => ?_)
         generalize w14.drew = w15 at HB HR289 hx290_0 hx290_1 hx290_2 hx290_3 hHeld ⊢
         refine pure_ (i := 0) (N := some 25) (v := ?_) (a' := ?_) #[true, false, false, false, false, false, false, false, false] rfl rfl (any_of HT_.out (by kernel_rfl)) (fun _ _ _ h => h) (Or.inl ⟨by rfl, ?_⟩) ?_ ?_
         rotate_left
         ·intro w'
          go_simp
          with_reducible rfl
         rotate_left
         ·simp only [Act.put, lA_, lZ_, lS_, i64_w, i32_w]
          rfl
         refine pure_ (i := 1) (N := some 26) (v := ?_) (a' := ?_) #[true, true, false, false, false, false, false, false, false] rfl rfl (any_of HT_.out (by kernel_rfl)) (fun _ _ _ h => h) (Or.inl ⟨by rfl, ?_⟩) ?_ ?_
         rotate_left
         ·intro w'
          go_simp
          with_reducible rfl
         rotate_left
         ·simp only [Act.put, lA_, lZ_, lS_, i64_w, i32_w]
          rfl
         refine pure_ (i := 2) (N := some 27) (v := ?_) (a' := ?_) #[true, true, true, false, false, false, false, false, false] rfl rfl (any_of HT_.out (by kernel_rfl)) (fun _ _ _ h => h) (Or.inl ⟨by rfl, ?_⟩) ?_ ?_
         rotate_left
         ·intro w'
          go_simp
          with_reducible rfl
         rotate_left
         ·simp only [Act.put, lA_, lZ_, lS_, i64_w, i32_w]
          rfl
         refine pure_ (i := 3) (N := some 28) (v := ?_) (a' := ?_) #[true, true, true, true, false, false, false, false, false] rfl rfl (any_of HT_.out (by kernel_rfl)) (fun _ _ _ h => h) (Or.inl ⟨by rfl, ?_⟩) ?_ ?_
         rotate_left
         ·intro w'
          go_simp
          with_reducible rfl
         rotate_left
         ·simp only [Act.put, lA_, lZ_, lS_, i64_w, i32_w]
          rfl
         refine pure_ (i := 4) (N := some 29) (v := ?_) (a' := ?_) #[true, true, true, true, true, false, false, false, false] rfl rfl (any_of HT_.out (by kernel_rfl)) (fun _ _ _ h => h) (Or.inl ⟨by rfl, ?_⟩) ?_ ?_
         rotate_left
         ·intro w'
          go_simp
          with_reducible rfl
         rotate_left
         ·simp only [Act.put, lA_, lZ_, lS_, i64_w, i32_w]
          rfl
         refine pure_ (i := 5) (N := some 30) (v := ?_) (a' := ?_) #[true, true, true, true, true, true, false, false, false] rfl rfl (any_of HT_.out (by kernel_rfl)) (fun _ _ _ h => h) (Or.inl ⟨by rfl, ?_⟩) ?_ ?_
         rotate_left
         ·intro w'
          go_simp
          with_reducible rfl
         rotate_left
         ·simp only [Act.put, lA_, lZ_, lS_, i64_w, i32_w]
          rfl
         refine take_ (i := 6) (N := some 31) (v := ?_) (a' := ?_) #[true, true, true, true, true, true, true, false, false] rfl rfl (take_ofW HT_.out HW_.out (by kernel_rfl)) (fun _ _ _ h => h) (Or.inl ⟨by rfl, ?_⟩) hHeld ?_ ?_
         rotate_left
         ·rintro w' ⟨s0, s1, s2, s3⟩
          go_simp
          with_reducible rfl
         rotate_left
         ·simp only [Act.put, lA_, lZ_, lS_, i64_w, i32_w]
          rfl
         refine one_ (i := 7) (N := some 32) #[true, true, true, true, true, true, true, true, false] rfl rfl (one_of HT_.out (by kernel_rfl)) (by decide) (fun K hK => ?_)
         refine goes_ Try.func93 (by kernel_rfl) rfl #[.slice (some ad284) y286.length c0, .agg #[.int .i64 ((rd_T26 l0 x3_1).f0), .int .i64 ((rd_T26 l0 x3_1).f1), .int .i64 ((rd_T26 l0 x3_1).f2), .int .i64 ((rd_T26 l0 x3_1).f3)]] (by rfl) rfl rfl (by (try simp only [List.map_toArray, List.map_cons, List.map_nil]); first | done | rfl | (simp only [List.length_drop, List.length_take]; rfl)) ?_
         with_reducible refine (spec_l5Find.calls k1 _ _ y286 ((rd_T26 l0 x3_1).f0) ((rd_T26 l0 x3_1).f1) ((rd_T26 l0 x3_1).f2) ((rd_T26 l0 x3_1).f3) t291 _ ?side1 ?side2 A10.out).mono ?_
         (case side1 => repeat (first | exact (Kd.C_below HR289.out HB.out) | (with_reducible refine Kd.C_alloc ?_ _) | (with_reducible refine Kd.C_drewN ?_ _) | (with_reducible refine Kd.C_drew ?_)))
         (case side2 => exact HC289.out)
         rintro e w17 ⟨rfl, hb⟩
         refine ⟨_, rfl, ?_⟩
         have n0_ := Aside0.mk (below_step (by repeat (first | (with_reducible first | exact HB.out | apply below_alloc | apply pw_below_drewN | apply below_drew1) | exact HB.out)) hb)
         clear HB
         have HB := n0_
         clear n0_
         (try clear hb)
         (try clear hb2)
         (try clear hk)
         (try clear hi)
         refine hK.out _ _ ⟨((HB.out.cell (World.block_lt_of_cell? w _ hw290_0)).trans hw290_0), ((HB.out.cell (World.block_lt_of_cell? w _ hw290_1)).trans hw290_1), ((HB.out.cell (World.block_lt_of_cell? w _ hw290_2)).trans hw290_2), ((HB.out.cell (World.block_lt_of_cell? w _ hw290_3)).trans hw290_3)⟩ (fun hHeld => ?_)
         clear hK K
         refine norm_ (a' := ?_) ?_ ?_
         rotate_left
         ·show Act.put _ (some 32) _ = _
          simp only [Act.put, lA_, lZ_, lS_, i64_w, i32_w]
          rfl
         refine pure_ (i := 8) (N := some 33) (v := ?_) (a' := ?_) #[true, true, true, true, true, true, true, true, true] rfl rfl (any_of HT_.out (by kernel_rfl)) (fun _ _ _ h => h) (Or.inl ⟨by rfl, ?_⟩) ?_ ?_
         rotate_left
         ·intro w'
          go_simp
          with_reducible rfl
         rotate_left
         ·simp only [Act.put, lA_, lZ_, lS_, i64_w, i32_w]
          rfl
         refine done_ (done_of HT_.out (by kernel_rfl)) ?_
         try go_wp2
         go_ret
         exact ⟨by first | rfl | (simp [errW_none, errW_some] <;> rfl) | (simp [*, errW_none, errW_some] <;> rfl), by repeat (first | (with_reducible first | exact HB.out | apply below_alloc | apply pw_below_drewN | apply below_drew1) | exact HB.out)⟩
        ·rw [if_neg c11] at H
         have c11b0 : decide (0 ≤ t291) = false := decide_eq_false c11
         clear c11
         have H' := Aside0.mk H
         clear H
         try go_wp2
         have n0_ := Aside0.mk (below_drew1 HB.out)
         clear HB
         have HB := n0_
         clear n0_
         have q19 : (x3_1 : Int) ≤ ((l0.length : Int) : Int) := of_decide_eq_true (by first | (with_reducible assumption) | assumption)
         obtain ⟨i019, hi019, _, hsz19, _⟩ := info_parts info26
         have hroom19 : l0.length ≤ c0 := HC0.out
         have hC19 : Kd.C k26 _ A0 l0.length l0 := HR0.out
         try clear hcut13
         try clear hcut16
         have hcut19 := cut_to (P := Try.prog) 24 26 .i64 Try.underlying24 hi019 A0 l0.length c0 x3_1 (of_decide_eq_true (by first | (with_reducible assumption) | assumption)) q19 hroom19
         have hr19 := Kd.C_take (m := (x3_1 : Int).toNat) hC19 (by omega)
         have hy19 : y280.length = (x3_1 : Int).toNat := (by rw [Ny280.out, List.length_take]; omega)
         rw [← Ny280.out] at hr19
         rw [← hy19] at hcut19
         have HR283 := Aside0.mk hr19
         have HC283 := Aside0.mk (show y280.length ≤ c0 from by omega)
         clear hr19 hC19 hroom19 hi019 hsz19
         have KY19 := Aside0.mk hy19
         clear hy19
         replace q19 := eq_true q19
         have p284 : 0 ≤ (x3_1 : Int) := of_decide_eq_true (by first | (with_reducible assumption) | assumption)
         have q284 : x3_1 < (l0.length : Int) := of_decide_eq_true (by first | (with_reducible assumption) | assumption)
         obtain ⟨ad284, e284, hx284_0, hx284_1, hx284_2, hx284_3⟩ := at_T26 HR0.out x3_1 p284 q284
         have hw284_3 := hx284_3
         have hw284_2 := hx284_2
         have hw284_1 := hx284_1
         have hw284_0 := hx284_0
         cases e284
         replace hx284_0 := (HB.out.cell (World.block_lt_of_cell? w _ hx284_0)).trans hx284_0
         replace hx284_1 := (HB.out.cell (World.block_lt_of_cell? w _ hx284_1)).trans hx284_1
         replace hx284_2 := (HB.out.cell (World.block_lt_of_cell? w _ hx284_2)).trans hx284_2
         replace hx284_3 := (HB.out.cell (World.block_lt_of_cell? w _ hx284_3)).trans hx284_3
         replace p284 := eq_true p284
         replace q284 := eq_true q284
         refine start_ (n := 9) (S := fun w' => w'.cell? (ad284.add ((x3_1).toNat * 4)) = some (.int .i64 ((rd_T26 l0 x3_1).f0)) ∧ w'.cell? ⟨(ad284.add ((x3_1).toNat * 4)).block, (ad284.add ((x3_1).toNat * 4)).off + 1, none⟩ = some (.int .i64 ((rd_T26 l0 x3_1).f1)) ∧ w'.cell? ⟨(ad284.add ((x3_1).toNat * 4)).block, (ad284.add ((x3_1).toNat * 4)).off + 2, none⟩ = some (.int .i64 ((rd_T26 l0 x3_1).f2)) ∧ w'.cell? ⟨(ad284.add ((x3_1).toNat * 4)).block, (ad284.add ((x3_1).toNat * 4)).off + 3, none⟩ = some (.int .i64 ((rd_T26 l0 x3_1).f3))) (ds := []) #[false, false, false, false, false, false, false, false, false] (by kernel_rfl) rfl rfl ⟨((HB.out.cell (World.block_lt_of_cell? w _ hw284_0)).trans hw284_0), ((HB.out.cell (World.block_lt_of_cell? w _ hw284_1)).trans hw284_1), ((HB.out.cell (World.block_lt_of_cell? w _ hw284_2)).trans hw284_2), ((HB.out.cell (World.block_lt_of_cell? w _ hw284_3)).trans hw284_3)⟩ (fun hHeld => ?_); refine with_tabW spec_TermsFault.tab6 spec_TermsFault.bits6 (fun HT_ HW_ => ?_)
         generalize wr.drew = w18 at HB HR283 hx284_0 hx284_1 hx284_2 hx284_3 hHeld ⊢
         refine pure_ (i := 0) (N := some 14) (v := ?_) (a' := ?_) #[true, false, false, false, false, false, false, false, false] rfl rfl (any_of HT_.out (by kernel_rfl)) (fun _ _ _ h => h) (Or.inl ⟨by rfl, ?_⟩) ?_ ?_
         rotate_left
         ·intro w'
          go_simp
          with_reducible rfl
         rotate_left
         ·simp only [Act.put, lA_, lZ_, lS_, i64_w, i32_w]
          rfl
         refine pure_ (i := 1) (N := some 15) (v := ?_) (a' := ?_) #[true, true, false, false, false, false, false, false, false] rfl rfl (any_of HT_.out (by kernel_rfl)) (fun _ _ _ h => h) (Or.inl ⟨by rfl, ?_⟩) ?_ ?_
         rotate_left
         ·intro w'
          go_simp
          with_reducible rfl
         rotate_left
         ·simp only [Act.put, lA_, lZ_, lS_, i64_w, i32_w]
          rfl
         refine pure_ (i := 2) (N := some 16) (v := ?_) (a' := ?_) #[true, true, true, false, false, false, false, false, false] rfl rfl (any_of HT_.out (by kernel_rfl)) (fun _ _ _ h => h) (Or.inl ⟨by rfl, ?_⟩) ?_ ?_
         rotate_left
         ·intro w'
          go_simp
          with_reducible rfl
         rotate_left
         ·simp only [Act.put, lA_, lZ_, lS_, i64_w, i32_w]
          rfl
         refine pure_ (i := 3) (N := some 17) (v := ?_) (a' := ?_) #[true, true, true, true, false, false, false, false, false] rfl rfl (any_of HT_.out (by kernel_rfl)) (fun _ _ _ h => h) (Or.inl ⟨by rfl, ?_⟩) ?_ ?_
         rotate_left
         ·intro w'
          go_simp
          with_reducible rfl
         rotate_left
         ·simp only [Act.put, lA_, lZ_, lS_, i64_w, i32_w]
          rfl
         refine pure_ (i := 4) (N := some 18) (v := ?_) (a' := ?_) #[true, true, true, true, true, false, false, false, false] rfl rfl (any_of HT_.out (by kernel_rfl)) (fun _ _ _ h => h) (Or.inl ⟨by rfl, ?_⟩) ?_ ?_
         rotate_left
         ·intro w'
          go_simp
          with_reducible rfl
         rotate_left
         ·simp only [Act.put, lA_, lZ_, lS_, i64_w, i32_w]
          rfl
         refine pure_ (i := 5) (N := some 19) (v := ?_) (a' := ?_) #[true, true, true, true, true, true, false, false, false] rfl rfl (any_of HT_.out (by kernel_rfl)) (fun _ _ _ h => h) (Or.inl ⟨by rfl, ?_⟩) ?_ ?_
         rotate_left
         ·intro w'
          go_simp
          with_reducible rfl
         rotate_left
         ·simp only [Act.put, lA_, lZ_, lS_, i64_w, i32_w]
          rfl
         refine take_ (i := 6) (N := some 20) (v := ?_) (a' := ?_) #[true, true, true, true, true, true, true, false, false] rfl rfl (take_ofW HT_.out HW_.out (by kernel_rfl)) (fun _ _ _ h => h) (Or.inl ⟨by rfl, ?_⟩) hHeld ?_ ?_
         rotate_left
         ·rintro w' ⟨s0, s1, s2, s3⟩
          go_simp
          with_reducible rfl
         rotate_left
         ·simp only [Act.put, lA_, lZ_, lS_, i64_w, i32_w]
          rfl
         refine one_ (i := 7) (N := some 21) #[true, true, true, true, true, true, true, true, false] rfl rfl (one_of HT_.out (by kernel_rfl)) (by decide) (fun K hK => ?_)
         refine goes_ Try.func92 (by kernel_rfl) rfl #[.slice (some ad284) y280.length c0, .agg #[.int .i64 ((rd_T26 l0 x3_1).f0), .int .i64 ((rd_T26 l0 x3_1).f1), .int .i64 ((rd_T26 l0 x3_1).f2), .int .i64 ((rd_T26 l0 x3_1).f3)]] (by rfl) rfl rfl (by (try simp only [List.map_toArray, List.map_cons, List.map_nil]); first | done | rfl | (simp only [List.length_drop, List.length_take]; rfl)) ?_
         with_reducible refine (spec_l5Term.calls k1 _ _ y280 ((rd_T26 l0 x3_1).f0) ((rd_T26 l0 x3_1).f1) ((rd_T26 l0 x3_1).f2) ((rd_T26 l0 x3_1).f3) t285 _ ?side1 ?side2 A6.out).mono ?_
         (case side1 => repeat (first | exact (Kd.C_below HR283.out HB.out) | (with_reducible refine Kd.C_alloc ?_ _) | (with_reducible refine Kd.C_drewN ?_ _) | (with_reducible refine Kd.C_drew ?_)))
         (case side2 => exact HC283.out)
         rintro e w20 ⟨rfl, hb⟩
         refine ⟨_, rfl, ?_⟩
         have n0_ := Aside0.mk (below_step (by repeat (first | (with_reducible first | exact HB.out | apply below_alloc | apply pw_below_drewN | apply below_drew1) | exact HB.out)) hb)
         clear HB
         have HB := n0_
         clear n0_
         (try clear hb)
         (try clear hb2)
         (try clear hk)
         (try clear hi)
         refine hK.out _ _ ⟨((HB.out.cell (World.block_lt_of_cell? w _ hw284_0)).trans hw284_0), ((HB.out.cell (World.block_lt_of_cell? w _ hw284_1)).trans hw284_1), ((HB.out.cell (World.block_lt_of_cell? w _ hw284_2)).trans hw284_2), ((HB.out.cell (World.block_lt_of_cell? w _ hw284_3)).trans hw284_3)⟩ (fun hHeld => ?_)
         clear hK K
         refine norm_ (a' := ?_) ?_ ?_
         rotate_left
         ·show Act.put _ (some 21) _ = _
          simp only [Act.put, lA_, lZ_, lS_, i64_w, i32_w]
          rfl
         refine pure_ (i := 8) (N := some 4) (v := ?_) (a' := ?_) #[true, true, true, true, true, true, true, true, true] rfl rfl (any_of HT_.out (by kernel_rfl)) (fun _ _ _ h => h) (Or.inl ⟨by rfl, ?_⟩) ?_ ?_
         rotate_left
         ·intro w'
          go_simp
          with_reducible rfl
         rotate_left
         ·simp only [Act.put, lA_, lZ_, lS_, i64_w, i32_w]
          rfl
         refine done_ (done_of HT_.out (by kernel_rfl)) ?_
         try go_wp2
         have n0_ := Aside0.mk (below_drew1 HB.out)
         clear HB
         have HB := n0_
         clear n0_
         have q22 : (x3_1 : Int) ≤ ((l0.length : Int) : Int) := of_decide_eq_true (by first | (with_reducible assumption) | assumption)
         obtain ⟨i022, hi022, _, hsz22, _⟩ := info_parts info26
         have hroom22 : l0.length ≤ c0 := HC0.out
         have hC22 : Kd.C k26 _ (some ad284) l0.length l0 := HR0.out
         try clear hcut13
         try clear hcut16
         try clear hcut19
         have hcut22 := cut_to (P := Try.prog) 24 26 .i64 Try.underlying24 hi022 (some ad284) l0.length c0 x3_1 (of_decide_eq_true (by first | (with_reducible assumption) | assumption)) q22 hroom22
         have hr22 := Kd.C_take (m := (x3_1 : Int).toNat) hC22 (by omega)
         have hy22 : y286.length = (x3_1 : Int).toNat := (by rw [Ny286.out, List.length_take]; omega)
         rw [← Ny286.out] at hr22
         rw [← hy22] at hcut22
         have HR289 := Aside0.mk hr22
         have HC289 := Aside0.mk (show y286.length ≤ c0 from by omega)
         clear hr22 hC22 hroom22 hi022 hsz22
         have KY22 := Aside0.mk hy22
         clear hy22
         replace q22 := eq_true q22
         have p290 : 0 ≤ (x3_1 : Int) := of_decide_eq_true (by first | (with_reducible assumption) | assumption)
         have q290 : x3_1 < (l0.length : Int) := of_decide_eq_true (by first | (with_reducible assumption) | assumption)
         obtain ⟨ad290, e290, hx290_0, hx290_1, hx290_2, hx290_3⟩ := at_T26 HR0.out x3_1 p290 q290
         have hw290_3 := hx290_3
         have hw290_2 := hx290_2
         have hw290_1 := hx290_1
         have hw290_0 := hx290_0
         obtain rfl : ad284 = ad290 := (by injection e290)
         replace hx290_0 := (HB.out.cell (World.block_lt_of_cell? w _ hx290_0)).trans hx290_0
         replace hx290_1 := (HB.out.cell (World.block_lt_of_cell? w _ hx290_1)).trans hx290_1
         replace hx290_2 := (HB.out.cell (World.block_lt_of_cell? w _ hx290_2)).trans hx290_2
         replace hx290_3 := (HB.out.cell (World.block_lt_of_cell? w _ hx290_3)).trans hx290_3
         replace p290 := eq_true p290
         replace q290 := eq_true q290
         refine start_ (n := 9) (S := fun w' => w'.cell? (ad284.add ((x3_1).toNat * 4)) = some (.int .i64 ((rd_T26 l0 x3_1).f0)) ∧ w'.cell? ⟨(ad284.add ((x3_1).toNat * 4)).block, (ad284.add ((x3_1).toNat * 4)).off + 1, none⟩ = some (.int .i64 ((rd_T26 l0 x3_1).f1)) ∧ w'.cell? ⟨(ad284.add ((x3_1).toNat * 4)).block, (ad284.add ((x3_1).toNat * 4)).off + 2, none⟩ = some (.int .i64 ((rd_T26 l0 x3_1).f2)) ∧ w'.cell? ⟨(ad284.add ((x3_1).toNat * 4)).block, (ad284.add ((x3_1).toNat * 4)).off + 3, none⟩ = some (.int .i64 ((rd_T26 l0 x3_1).f3))) (ds := []) #[false, false, false, false, false, false, false, false, false] (by kernel_rfl) rfl rfl ⟨((HB.out.cell (World.block_lt_of_cell? w _ hw290_0)).trans hw290_0), ((HB.out.cell (World.block_lt_of_cell? w _ hw290_1)).trans hw290_1), ((HB.out.cell (World.block_lt_of_cell? w _ hw290_2)).trans hw290_2), ((HB.out.cell (World.block_lt_of_cell? w _ hw290_3)).trans hw290_3)⟩ (fun hHeld => ?_); refine with_tabW spec_TermsFault.tab9 spec_TermsFault.bits9 (fun HT_ HW_ => ?_)
         generalize w20.drew = w21 at HB HR289 hx290_0 hx290_1 hx290_2 hx290_3 hHeld ⊢
         refine pure_ (i := 0) (N := some 25) (v := ?_) (a' := ?_) #[true, false, false, false, false, false, false, false, false] rfl rfl (any_of HT_.out (by kernel_rfl)) (fun _ _ _ h => h) (Or.inl ⟨by rfl, ?_⟩) ?_ ?_
         rotate_left
         ·intro w'
          go_simp
          with_reducible rfl
         rotate_left
         ·simp only [Act.put, lA_, lZ_, lS_, i64_w, i32_w]
          rfl
         refine pure_ (i := 1) (N := some 26) (v := ?_) (a' := ?_) #[true, true, false, false, false, false, false, false, false] rfl rfl (any_of HT_.out (by kernel_rfl)) (fun _ _ _ h => h) (Or.inl ⟨by rfl, ?_⟩) ?_ ?_
         rotate_left
         ·intro w'
          go_simp
          with_reducible rfl
         rotate_left
         ·simp only [Act.put, lA_, lZ_, lS_, i64_w, i32_w]
          rfl
         refine pure_ (i := 2) (N := some 27) (v := ?_) (a' := ?_) #[true, true, true, false, false, false, false, false, false] rfl rfl (any_of HT_.out (by kernel_rfl)) (fun _ _ _ h => h) (Or.inl ⟨by rfl, ?_⟩) ?_ ?_
         rotate_left
         ·intro w'
          go_simp
          with_reducible rfl
         rotate_left
         ·simp only [Act.put, lA_, lZ_, lS_, i64_w, i32_w]
          rfl
         refine pure_ (i := 3) (N := some 28) (v := ?_) (a' := ?_) #[true, true, true, true, false, false, false, false, false] rfl rfl (any_of HT_.out (by kernel_rfl)) (fun _ _ _ h => h) (Or.inl ⟨by rfl, ?_⟩) ?_ ?_
         rotate_left
         ·intro w'
          go_simp
          with_reducible rfl
         rotate_left
         ·simp only [Act.put, lA_, lZ_, lS_, i64_w, i32_w]
          rfl
         refine pure_ (i := 4) (N := some 29) (v := ?_) (a' := ?_) #[true, true, true, true, true, false, false, false, false] rfl rfl (any_of HT_.out (by kernel_rfl)) (fun _ _ _ h => h) (Or.inl ⟨by rfl, ?_⟩) ?_ ?_
         rotate_left
         ·intro w'
          go_simp
          with_reducible rfl
         rotate_left
         ·simp only [Act.put, lA_, lZ_, lS_, i64_w, i32_w]
          rfl
         refine pure_ (i := 5) (N := some 30) (v := ?_) (a' := ?_) #[true, true, true, true, true, true, false, false, false] rfl rfl (any_of HT_.out (by kernel_rfl)) (fun _ _ _ h => h) (Or.inl ⟨by rfl, ?_⟩) ?_ ?_
         rotate_left
         ·intro w'
          go_simp
          with_reducible rfl
         rotate_left
         ·simp only [Act.put, lA_, lZ_, lS_, i64_w, i32_w]
          rfl
         refine take_ (i := 6) (N := some 31) (v := ?_) (a' := ?_) #[true, true, true, true, true, true, true, false, false] rfl rfl (take_ofW HT_.out HW_.out (by kernel_rfl)) (fun _ _ _ h => h) (Or.inl ⟨by rfl, ?_⟩) hHeld ?_ ?_
         rotate_left
         ·rintro w' ⟨s0, s1, s2, s3⟩
          go_simp
          with_reducible rfl
         rotate_left
         ·simp only [Act.put, lA_, lZ_, lS_, i64_w, i32_w]
          rfl
         refine one_ (i := 7) (N := some 32) #[true, true, true, true, true, true, true, true, false] rfl rfl (one_of HT_.out (by kernel_rfl)) (by decide) (fun K hK => ?_)
         refine goes_ Try.func93 (by kernel_rfl) rfl #[.slice (some ad284) y286.length c0, .agg #[.int .i64 ((rd_T26 l0 x3_1).f0), .int .i64 ((rd_T26 l0 x3_1).f1), .int .i64 ((rd_T26 l0 x3_1).f2), .int .i64 ((rd_T26 l0 x3_1).f3)]] (by rfl) rfl rfl (by (try simp only [List.map_toArray, List.map_cons, List.map_nil]); first | done | rfl | (simp only [List.length_drop, List.length_take]; rfl)) ?_
         with_reducible refine (spec_l5Find.calls k1 _ _ y286 ((rd_T26 l0 x3_1).f0) ((rd_T26 l0 x3_1).f1) ((rd_T26 l0 x3_1).f2) ((rd_T26 l0 x3_1).f3) t291 _ ?side1 ?side2 A10.out).mono ?_
         (case side1 => repeat (first | exact (Kd.C_below HR289.out HB.out) | (with_reducible refine Kd.C_alloc ?_ _) | (with_reducible refine Kd.C_drewN ?_ _) | (with_reducible refine Kd.C_drew ?_)))
         (case side2 => exact HC289.out)
         rintro e w23 ⟨rfl, hb⟩
         refine ⟨_, rfl, ?_⟩
         have n0_ := Aside0.mk (below_step (by repeat (first | (with_reducible first | exact HB.out | apply below_alloc | apply pw_below_drewN | apply below_drew1) | exact HB.out)) hb)
         clear HB
         have HB := n0_
         clear n0_
         (try clear hb)
         (try clear hb2)
         (try clear hk)
         (try clear hi)
         refine hK.out _ _ ⟨((HB.out.cell (World.block_lt_of_cell? w _ hw290_0)).trans hw290_0), ((HB.out.cell (World.block_lt_of_cell? w _ hw290_1)).trans hw290_1), ((HB.out.cell (World.block_lt_of_cell? w _ hw290_2)).trans hw290_2), ((HB.out.cell (World.block_lt_of_cell? w _ hw290_3)).trans hw290_3)⟩ (fun hHeld => ?_)
         clear hK K
         refine norm_ (a' := ?_) ?_ ?_
         rotate_left
         ·show Act.put _ (some 32) _ = _
          simp only [Act.put, lA_, lZ_, lS_, i64_w, i32_w]
          rfl
         refine pure_ (i := 8) (N := some 33) (v := ?_) (a' := ?_) #[true, true, true, true, true, true, true, true, true] rfl rfl (any_of HT_.out (by kernel_rfl)) (fun _ _ _ h => h) (Or.inl ⟨by rfl, ?_⟩) ?_ ?_
         rotate_left
         ·intro w'
          go_simp
          with_reducible rfl
         rotate_left
         ·simp only [Act.put, lA_, lZ_, lS_, i64_w, i32_w]
          rfl
         refine done_ (done_of HT_.out (by kernel_rfl)) ?_
         try go_wp2
         go_roundg k1
         case measure => have := HK1.out; omega
         case rel => exact ⟨(wrap64 (x3_1 + 1)), (by first | rfl | (simp; done) | (simp [*]; done)), H', ⟨by have := HK1.out; omega⟩, ⟨by repeat (first | (with_reducible first | exact HB.out | apply below_alloc | apply pw_below_drewN | apply below_drew1) | exact HB.out)⟩⟩
       ·rw [if_neg c7] at H
        have c7b0 : (t285 == 0) = false := beq_eq_false_iff_ne.mpr c7
        have c7b1 : (t285 != 0) = true := bne_iff_ne.mpr c7
        obtain rfl := Option.some.inj H
        try go_wp2
        have n0_ := Aside0.mk (below_drew1 HB.out)
        clear HB
        have HB := n0_
        clear n0_
        have q25 : (x3_1 : Int) ≤ ((l0.length : Int) : Int) := of_decide_eq_true (by first | (with_reducible assumption) | assumption)
        obtain ⟨i025, hi025, _, hsz25, _⟩ := info_parts info26
        have hroom25 : l0.length ≤ c0 := HC0.out
        have hC25 : Kd.C k26 _ A0 l0.length l0 := HR0.out
        try clear hcut13
        try clear hcut16
        try clear hcut19
        try clear hcut22
        have hcut25 := cut_to (P := Try.prog) 24 26 .i64 Try.underlying24 hi025 A0 l0.length c0 x3_1 (of_decide_eq_true (by first | (with_reducible assumption) | assumption)) q25 hroom25
        have hr25 := Kd.C_take (m := (x3_1 : Int).toNat) hC25 (by omega)
        have hy25 : y280.length = (x3_1 : Int).toNat := (by rw [Ny280.out, List.length_take]; omega)
        rw [← Ny280.out] at hr25
        rw [← hy25] at hcut25
        have HR283 := Aside0.mk hr25
        have HC283 := Aside0.mk (show y280.length ≤ c0 from by omega)
        clear hr25 hC25 hroom25 hi025 hsz25
        have KY25 := Aside0.mk hy25
        clear hy25
        replace q25 := eq_true q25
        have p284 : 0 ≤ (x3_1 : Int) := of_decide_eq_true (by first | (with_reducible assumption) | assumption)
        have q284 : x3_1 < (l0.length : Int) := of_decide_eq_true (by first | (with_reducible assumption) | assumption)
        obtain ⟨ad284, e284, hx284_0, hx284_1, hx284_2, hx284_3⟩ := at_T26 HR0.out x3_1 p284 q284
        have hw284_3 := hx284_3
        have hw284_2 := hx284_2
        have hw284_1 := hx284_1
        have hw284_0 := hx284_0
        cases e284
        replace hx284_0 := (HB.out.cell (World.block_lt_of_cell? w _ hx284_0)).trans hx284_0
        replace hx284_1 := (HB.out.cell (World.block_lt_of_cell? w _ hx284_1)).trans hx284_1
        replace hx284_2 := (HB.out.cell (World.block_lt_of_cell? w _ hx284_2)).trans hx284_2
        replace hx284_3 := (HB.out.cell (World.block_lt_of_cell? w _ hx284_3)).trans hx284_3
        replace p284 := eq_true p284
        replace q284 := eq_true q284
        refine start_ (n := 9) (S := fun w' => w'.cell? (ad284.add ((x3_1).toNat * 4)) = some (.int .i64 ((rd_T26 l0 x3_1).f0)) ∧ w'.cell? ⟨(ad284.add ((x3_1).toNat * 4)).block, (ad284.add ((x3_1).toNat * 4)).off + 1, none⟩ = some (.int .i64 ((rd_T26 l0 x3_1).f1)) ∧ w'.cell? ⟨(ad284.add ((x3_1).toNat * 4)).block, (ad284.add ((x3_1).toNat * 4)).off + 2, none⟩ = some (.int .i64 ((rd_T26 l0 x3_1).f2)) ∧ w'.cell? ⟨(ad284.add ((x3_1).toNat * 4)).block, (ad284.add ((x3_1).toNat * 4)).off + 3, none⟩ = some (.int .i64 ((rd_T26 l0 x3_1).f3))) (ds := []) #[false, false, false, false, false, false, false, false, false] (by kernel_rfl) rfl rfl ⟨((HB.out.cell (World.block_lt_of_cell? w _ hw284_0)).trans hw284_0), ((HB.out.cell (World.block_lt_of_cell? w _ hw284_1)).trans hw284_1), ((HB.out.cell (World.block_lt_of_cell? w _ hw284_2)).trans hw284_2), ((HB.out.cell (World.block_lt_of_cell? w _ hw284_3)).trans hw284_3)⟩ (fun hHeld => ?_); refine with_tabW spec_TermsFault.tab6 spec_TermsFault.bits6 (fun HT_ HW_ => ?_)
        generalize wr.drew = w24 at HB HR283 hx284_0 hx284_1 hx284_2 hx284_3 hHeld ⊢
        refine pure_ (i := 0) (N := some 14) (v := ?_) (a' := ?_) #[true, false, false, false, false, false, false, false, false] rfl rfl (any_of HT_.out (by kernel_rfl)) (fun _ _ _ h => h) (Or.inl ⟨by rfl, ?_⟩) ?_ ?_
        rotate_left
        ·intro w'
         go_simp
         with_reducible rfl
        rotate_left
        ·simp only [Act.put, lA_, lZ_, lS_, i64_w, i32_w]
         rfl
        refine pure_ (i := 1) (N := some 15) (v := ?_) (a' := ?_) #[true, true, false, false, false, false, false, false, false] rfl rfl (any_of HT_.out (by kernel_rfl)) (fun _ _ _ h => h) (Or.inl ⟨by rfl, ?_⟩) ?_ ?_
        rotate_left
        ·intro w'
         go_simp
         with_reducible rfl
        rotate_left
        ·simp only [Act.put, lA_, lZ_, lS_, i64_w, i32_w]
         rfl
        refine pure_ (i := 2) (N := some 16) (v := ?_) (a' := ?_) #[true, true, true, false, false, false, false, false, false] rfl rfl (any_of HT_.out (by kernel_rfl)) (fun _ _ _ h => h) (Or.inl ⟨by rfl, ?_⟩) ?_ ?_
        rotate_left
        ·intro w'
         go_simp
         with_reducible rfl
        rotate_left
        ·simp only [Act.put, lA_, lZ_, lS_, i64_w, i32_w]
         rfl
        refine pure_ (i := 3) (N := some 17) (v := ?_) (a' := ?_) #[true, true, true, true, false, false, false, false, false] rfl rfl (any_of HT_.out (by kernel_rfl)) (fun _ _ _ h => h) (Or.inl ⟨by rfl, ?_⟩) ?_ ?_
        rotate_left
        ·intro w'
         go_simp
         with_reducible rfl
        rotate_left
        ·simp only [Act.put, lA_, lZ_, lS_, i64_w, i32_w]
         rfl
        refine pure_ (i := 4) (N := some 18) (v := ?_) (a' := ?_) #[true, true, true, true, true, false, false, false, false] rfl rfl (any_of HT_.out (by kernel_rfl)) (fun _ _ _ h => h) (Or.inl ⟨by rfl, ?_⟩) ?_ ?_
        rotate_left
        ·intro w'
         go_simp
         with_reducible rfl
        rotate_left
        ·simp only [Act.put, lA_, lZ_, lS_, i64_w, i32_w]
         rfl
        refine pure_ (i := 5) (N := some 19) (v := ?_) (a' := ?_) #[true, true, true, true, true, true, false, false, false] rfl rfl (any_of HT_.out (by kernel_rfl)) (fun _ _ _ h => h) (Or.inl ⟨by rfl, ?_⟩) ?_ ?_
        rotate_left
        ·intro w'
         go_simp
         with_reducible rfl
        rotate_left
        ·simp only [Act.put, lA_, lZ_, lS_, i64_w, i32_w]
         rfl
        refine take_ (i := 6) (N := some 20) (v := ?_) (a' := ?_) #[true, true, true, true, true, true, true, false, false] rfl rfl (take_ofW HT_.out HW_.out (by kernel_rfl)) (fun _ _ _ h => h) (Or.inl ⟨by rfl, ?_⟩) hHeld ?_ ?_
        rotate_left
        ·rintro w' ⟨s0, s1, s2, s3⟩
         go_simp
         with_reducible rfl
        rotate_left
        ·simp only [Act.put, lA_, lZ_, lS_, i64_w, i32_w]
         rfl
        refine one_ (i := 7) (N := some 21) #[true, true, true, true, true, true, true, true, false] rfl rfl (one_of HT_.out (by kernel_rfl)) (by decide) (fun K hK => ?_)
        refine goes_ Try.func92 (by kernel_rfl) rfl #[.slice (some ad284) y280.length c0, .agg #[.int .i64 ((rd_T26 l0 x3_1).f0), .int .i64 ((rd_T26 l0 x3_1).f1), .int .i64 ((rd_T26 l0 x3_1).f2), .int .i64 ((rd_T26 l0 x3_1).f3)]] (by rfl) rfl rfl (by (try simp only [List.map_toArray, List.map_cons, List.map_nil]); first | done | rfl | (simp only [List.length_drop, List.length_take]; rfl)) ?_
        with_reducible refine (spec_l5Term.calls k1 _ _ y280 ((rd_T26 l0 x3_1).f0) ((rd_T26 l0 x3_1).f1) ((rd_T26 l0 x3_1).f2) ((rd_T26 l0 x3_1).f3) t285 _ ?side1 ?side2 A6.out).mono ?_
        (case side1 => repeat (first | exact (Kd.C_below HR283.out HB.out) | (with_reducible refine Kd.C_alloc ?_ _) | (with_reducible refine Kd.C_drewN ?_ _) | (with_reducible refine Kd.C_drew ?_)))
        (case side2 => exact HC283.out)
        rintro e w26 ⟨rfl, hb⟩
        refine ⟨_, rfl, ?_⟩
        have n0_ := Aside0.mk (below_step (by repeat (first | (with_reducible first | exact HB.out | apply below_alloc | apply pw_below_drewN | apply below_drew1) | exact HB.out)) hb)
        clear HB
        have HB := n0_
        clear n0_
        (try clear hb)
        (try clear hb2)
        (try clear hk)
        (try clear hi)
        refine hK.out _ _ ⟨((HB.out.cell (World.block_lt_of_cell? w _ hw284_0)).trans hw284_0), ((HB.out.cell (World.block_lt_of_cell? w _ hw284_1)).trans hw284_1), ((HB.out.cell (World.block_lt_of_cell? w _ hw284_2)).trans hw284_2), ((HB.out.cell (World.block_lt_of_cell? w _ hw284_3)).trans hw284_3)⟩ (fun hHeld => ?_)
        clear hK K
        refine norm_ (a' := ?_) ?_ ?_
        rotate_left
        ·show Act.put _ (some 21) _ = _
         simp only [Act.put, lA_, lZ_, lS_, i64_w, i32_w]
         rfl
        refine pure_ (i := 8) (N := some 4) (v := ?_) (a' := ?_) #[true, true, true, true, true, true, true, true, true] rfl rfl (any_of HT_.out (by kernel_rfl)) (fun _ _ _ h => h) (Or.inl ⟨by rfl, ?_⟩) ?_ ?_
        rotate_left
        ·intro w'
         go_simp
         with_reducible rfl
        rotate_left
        ·simp only [Act.put, lA_, lZ_, lS_, i64_w, i32_w]
         rfl
        refine done_ (done_of HT_.out (by kernel_rfl)) ?_
        try go_wp2
        go_ret
        exact ⟨by first | rfl | (simp [errW_none, errW_some] <;> rfl) | (simp [*, errW_none, errW_some] <;> rfl), by repeat (first | (with_reducible first | exact HB.out | apply below_alloc | apply pw_below_drewN | apply below_drew1) | exact HB.out)⟩
      ·rw [if_neg c5] at H
       exact absurd H (by simp)
     ·rw [if_neg c4] at H
      exact absurd H (by simp)
    ·rw [if_neg c3] at H
     have c3b0 : decide (x3_1 < (l0.length : Int)) = false := decide_eq_false c3
     clear c3
     obtain rfl := Option.some.inj H
     go_wp2
     go_ret
     exact ⟨by first | rfl | (simp [errW_none, errW_some] <;> rfl) | (simp [*, errW_none, errW_some] <;> rfl), by repeat (first | (with_reducible first | exact HB.out | apply below_alloc | apply pw_below_drewN | apply below_drew1) | exact HB.out)⟩
end Go.Proofs.Ytomaeijhljpgdaa.G
namespace Go.Proofs.Ytomaeijhljpgdaa.G
open Go.RowKit Go.Proofs.YtomaeijhljpgdaaW.PrintWords Go.Proofs.YtomaeijhljpgdaaW.PrintLast Go.Proofs.YtomaeijhljpgdaaW.PrintMore
attribute [local go_sem] max2_int min2_int max_two min_two max_three min_three max_four min_four   -- for this text's walks alone
set_option linter.unusedVariables false
set_option linter.unusedSimpArgs false
def spec_l5At.f (l0 : List (S26)) (a1 : Int) : Option (Bool) := (spec_l1In.f a1 0 (wrap64 ((l0.length : Int) - 1))).bind fun t366 => (some t366)
set_option maxHeartbeats 8000000 in
set_option maxRecDepth 100000 in
theorem spec_l5At.calls (A0 : Option Addr) (c0 : Nat) (l0 : List (S26)) (a1 : Int) (r : Bool) (w : World) (hr0 : Kd.C k26 w A0 l0.length l0) (hc0 : l0.length ≤ c0) (h : spec_l5At.f l0 a1 = some r) :
  Calls Try.prog 62 #[.slice A0 l0.length c0, .int .i64 a1] w fun e w' => e = .returned (.bool r) ∧ Drawn0 w w' := by
 have HR0 := Aside0.mk hr0
 have HC0 := Aside0.mk hc0
 clear hr0 hc0
 have H : ((spec_l1In.f a1 0 (wrap64 ((l0.length : Int) - 1))).bind fun t366 => (some t366)) = some r := h
 clear h
 replace H := Option.bind_eq_some_iff.mp H
 obtain ⟨t366, A30, H⟩ := H
 try dsimp only at H
 have A3 := Aside0.mk A30
 clear A30
 obtain rfl := Option.some.inj H
 go_enter Try.func62, Try.ntmps62
 go_wp2_with (first | ((with_reducible refine gate_callee (f := 98) rfl ?_); refine goesL_ (some 9) rfl rfl Try.func98 (by kernel_rfl) rfl #[.int .i64 a1, .int .i64 0, .int .i64 (wrap64 ((l0.length : Int) - 1))] rfl (by (try simp only [List.map_toArray, List.map_cons, List.map_nil]); first | done | rfl | (simp only [List.length_drop, List.length_take]; rfl)) ?_; (with_reducible refine (spec_l1In.calls a1 0 (wrap64 ((l0.length : Int) - 1)) t366 _ A3.out).mono ?_); rintro e w' ⟨rfl, ⟨nd, rfl⟩⟩; refine ⟨_, rfl, ?_⟩))
 go_ret
 exact ⟨by first | rfl | (simp; done) | (simp [*]; done), by repeat (first | exact Drawn0.refl _ | apply Drawn0.step)⟩
end Go.Proofs.Ytomaeijhljpgdaa.G
namespace Go.Proofs.Ytomaeijhljpgdaa.G
open Go.RowKit Go.Proofs.YtomaeijhljpgdaaW.PrintWords Go.Proofs.YtomaeijhljpgdaaW.PrintLast Go.Proofs.YtomaeijhljpgdaaW.PrintMore
attribute [local go_sem] max2_int min2_int max_two min_two max_three min_three max_four min_four   -- for this text's walks alone
set_option linter.unusedVariables false
set_option linter.unusedSimpArgs false
def spec_l5List.f : Nat → List (S26) → List Int → Option (Int × Int × (List (S26)))
 | 0, _, _ => none
 | k + 1, l0, l1 => if (l1.length : Int) = 0 then ((spec_l5Put.f k l0 1 0 0 0).bind fun bt368 => (some (bt368.1, bt368.2.1, bt368.2.2))) else (if (l1.length : Int) = 1 then (if 0 < (l1.length : Int) then ((spec_l5Copy.f l0).bind fun t374 => (some (0, rd l1 0, t374))) else (none)) else (if 1 ≤ (l1.length : Int) then ((spec_l5List.f k l0 (l1.drop 1)).bind fun bt378 => (if bt378.1 = 0 then (if 0 < (l1.length : Int) then ((spec_l5Put.f k bt378.2.2 3 (rd l1 0) bt378.2.1 0).bind fun bt385 => (some (bt385.1, bt385.2.1, bt385.2.2))) else (none)) else (some (bt378.1, bt378.2.1, bt378.2.2)))) else (none)))
def spec_l5List.T8 : Bool × List (List Nat × List Nat) := (true, [([], []), ([0], [0]), ([], []), ([2], [2]), ([3], [3]), ([], []), ([5], [5]), ([4, 6], [4, 6]), ([1, 7], [1, 7]), ([8, 8, 0, 1, 2, 3, 4, 5, 6, 7, 8], [8])])
def spec_l5List.B8 : List Nat := [0, 1, 0, 4, 12, 0, 32, 124, 255, 511]
theorem spec_l5List.tab8 : rtab .any (opsOf Try.f63 8) = spec_l5List.T8 := by kernel_rfl
theorem spec_l5List.bits8 : waitsOk spec_l5List.T8.2 spec_l5List.B8 = true := by kernel_rfl
set_option maxHeartbeats 8000000 in
set_option maxRecDepth 100000 in
theorem spec_l5List.calls (k : Nat) : ∀ (A0 : Option Addr) (c0 : Nat) (l0 : List (S26)) (A1 : Option Addr) (c1 : Nat) (l1 : List Int) (r1 : Int) (r2 : Int) (r3 : List (S26)) (w : World) (hr0 : Kd.C k26 w A0 l0.length l0) (hc0 : l0.length ≤ c0) (hr1 : Kd.C (Kd.int .i64) w A1 l1.length l1) (hc1 : l1.length ≤ c1) (h : spec_l5List.f k l0 l1 = some (r1, r2, r3)),
  Calls Try.prog 63 #[.slice A0 l0.length c0, .slice A1 l1.length c1] w fun e w' => ∃ v2_ : Value, e = .returned (.agg #[.int .i64 r1, .int .i64 r2, v2_]) ∧ Kd.R k26 26 w' w.heap.size (fun _ => True) v2_ r3 ∧ Below w.heap.size w w' := by
 induction k using Nat.strongRecOn with
 | _ k ih =>
 intro A0 c0 l0 A1 c1 l1 r1 r2 r3 w hr0 hc0 hr1 hc1 h
 cases k with
 | zero => exact absurd h (by simp [spec_l5List.f])
 | succ k =>
 simp only [spec_l5List.f] at h
 have hu30 := Try.underlying30
 have hu26 := Try.underlying26
 have HR0 := Aside0.mk hr0
 have HC0 := Aside0.mk hc0
 clear hr0 hc0
 have HR1 := Aside0.mk hr1
 have HC1 := Aside0.mk hc1
 clear hr1 hc1
 have HB := Aside0.mk (Below.refl w.heap.size w)
 have H : (if (l1.length : Int) = 0 then ((spec_l5Put.f k l0 1 0 0 0).bind fun bt368 => (some (bt368.1, bt368.2.1, bt368.2.2))) else (if (l1.length : Int) = 1 then (if 0 < (l1.length : Int) then ((spec_l5Copy.f l0).bind fun t374 => (some (0, rd l1 0, t374))) else (none)) else (if 1 ≤ (l1.length : Int) then ((spec_l5List.f k l0 (l1.drop 1)).bind fun bt378 => (if bt378.1 = 0 then (if 0 < (l1.length : Int) then ((spec_l5Put.f k bt378.2.2 3 (rd l1 0) bt378.2.1 0).bind fun bt385 => (some (bt385.1, bt385.2.1, bt385.2.2))) else (none)) else (some (bt378.1, bt378.2.1, bt378.2.2)))) else (none)))) = some (r1, r2, r3) := h
 clear h
 by_cases c3 : (l1.length : Int) = 0
 ·rw [if_pos c3] at H
  have c3b0 : ((l1.length : Int) == 0) = true := beq_iff_eq.mpr c3
  have c3b1 : ((l1.length : Int) != 0) = false := bne_eq_false_iff_eq.mpr c3
  clear c3
  replace H := Option.bind_eq_some_iff.mp H
  obtain ⟨⟨t368, t369, t370⟩, A40, H⟩ := H
  try dsimp only at H
  have A4 := Aside0.mk A40
  clear A40
  simp only [Option.some.injEq, Prod.mk.injEq] at H
  obtain ⟨rfl, rfl, rfl⟩ := H
  go_enter Try.func63, Try.ntmps63
  go_wp2_with (first | ((with_reducible refine gate_dst (N := 4) rfl ?_); refine box_event ?hg (N := 4) ?hd (cs := #[.int .i64 0, .int .i64 0, .slice none 0 0]) (t := 30) ?hr ?_; (case hd => rfl); (case hg => rfl); (case hr => first | (go_simp; done) | (go_simp; rfl)); intro gb367 hg w5 hbox hb; have n0_ := Aside0.mk (below_step (by repeat (first | (with_reducible first | exact HB.out | apply below_alloc | apply pw_below_drewN | apply below_drew1) | exact HB.out)) hb); have n1_ := Aside0.mk (hbox); have n2_ := Aside0.mk ((by rw [hg]; exact (below_size (by repeat (first | (with_reducible first | exact HB.out | apply below_alloc | apply pw_below_drewN | apply below_drew1) | exact HB.out))) : w.heap.size ≤ gb367)); have n3_ := Aside0.mk ((by rw [hg]; exact (below_size (by repeat (first | (with_reducible first | exact HB.out | apply below_alloc | apply pw_below_drewN | apply below_drew1) | exact HB.out))) : w.heap.size ≤ gb367)); clear HB; have HB := n0_; have BK367 := n1_; have GW367 := n2_; have GE367 := n3_; clear n0_ n1_ n2_ n3_; clear hb hbox hg) | ((with_reducible refine gate_callee (f := 58) rfl ?_); refine goesL_ (some 11) rfl rfl Try.func58 (by kernel_rfl) rfl #[.slice A0 l0.length c0, .agg #[.int .i64 1, .int .i64 0, .int .i64 0, .int .i64 0]] rfl (by (try simp only [List.map_toArray, List.map_cons, List.map_nil]); first | done | rfl | (simp only [List.length_drop, List.length_take]; rfl)) ?_; (with_reducible refine (spec_l5Put.calls k _ _ l0 1 0 0 0 t368 t369 t370 _ ?side1 ?side2 A4.out).mono ?_); (case side1 => repeat (first | exact (Kd.C_below HR0.out HB.out) | (with_reducible refine Kd.C_alloc ?_ _) | (with_reducible refine Kd.C_drewN ?_ _) | (with_reducible refine Kd.C_drew ?_))); (case side2 => exact HC0.out); rintro e w6 ⟨v371, rfl, ho0, hb⟩; refine ⟨_, rfl, ?_⟩; have n0_ := Aside0.mk (Kd.R_lower ho0 (below_size (by repeat (first | (with_reducible first | exact HB.out | apply below_alloc | apply pw_below_drewN | apply below_drew1 | refine below_set ?_ GE367.out) | exact HB.out)))); have n1_ := Aside0.mk (blk_below (g := gb367) (o := .cells #[.int .i64 0, .int .i64 0, .slice none 0 0] 30 (0, 0)) (by (with_reducible repeat (first | refine blk_drewN ?_ _ | refine blk_drew ?_ | refine blk_alloc ?_ _)); exact BK367.out) hb); have n2_ := Aside0.mk (below_step (by repeat (first | (with_reducible first | exact HB.out | apply below_alloc | apply pw_below_drewN | apply below_drew1 | refine below_set ?_ GE367.out) | exact HB.out)) hb); clear BK367; clear HB; have HO372 := n0_; have BK367 := n1_; have HB := n2_; clear n0_ n1_ n2_; (try clear hb); (try clear hb2); (try clear hk); (try clear hi); (try clear ho0); have hcz7_0 : w6.cell? ⟨gb367, 0, none⟩ = some (.int .i64 0) := (blk_cell BK367.out 0).trans rfl; have hcz7_1 : w6.cell? ⟨gb367, 1, none⟩ = some (.int .i64 0) := (blk_cell BK367.out 1).trans rfl; have hcz7_2 : w6.cell? ⟨gb367, 2, none⟩ = some (.slice none 0 0) := (blk_cell BK367.out 2).trans rfl; have hfz7_0 := blk_frozen BK367.out 0; have hfz7_1 := blk_frozen BK367.out 1; have hfz7_2 := blk_frozen BK367.out 2; obtain ⟨Ao8, co8, eo8⟩ := Kd.R_slice HO372.out; subst eo8))
  refine bodyPost_ret (results_cell_row rfl _ _ gb367 30 #[.int .i64 t368, .int .i64 t369, .slice Ao8 t370.length co8] (0, 0) _ rfl (by (with_reducible repeat (first | refine blk_drewN ?_ _ | refine blk_drew ?_ | refine blk_alloc ?_ _)); refine blk_put (cs := #[.int .i64 t368, .int .i64 t369, .slice none 0 0]) ?_ 2 _ rfl; (with_reducible repeat (first | refine blk_drewN ?_ _ | refine blk_drew ?_ | refine blk_alloc ?_ _)); refine blk_put (cs := #[.int .i64 t368, .int .i64 0, .slice none 0 0]) ?_ 1 _ rfl; (with_reducible repeat (first | refine blk_drewN ?_ _ | refine blk_drew ?_ | refine blk_alloc ?_ _)); refine blk_put (cs := #[.int .i64 0, .int .i64 0, .slice none 0 0]) ?_ 0 _ rfl; (with_reducible repeat (first | refine blk_drewN ?_ _ | refine blk_drew ?_ | refine blk_alloc ?_ _)); exact BK367.out) Try.underlying30 rfl (by kernel_rfl)) rfl ?_
  exact ⟨_, by first | rfl | (simp [errW_none, errW_some] <;> rfl) | (simp [*, errW_none, errW_some] <;> rfl), by (with_reducible repeat (first | apply Kd.R_alloc | apply Kd.R_drewN | apply Kd.R_drew)); exact Kd.R_mono (Kd.R_far (p := ⟨gb367, 2, none⟩) (Kd.R_far (p := ⟨gb367, 1, none⟩) (Kd.R_far (p := ⟨gb367, 0, none⟩) (Kd.R_types HO372.out BK367.out (by decide)) (fun _ hk => hk.2) (.int .i64 t368)) (fun _ hk => hk.2) (.int .i64 t369)) (fun _ hk => hk.2) (.slice Ao8 t370.length co8)) (fun _ hk => trivial), by repeat (first | (with_reducible first | exact HB.out | apply below_alloc | apply pw_below_drewN | apply below_drew1 | refine below_set ?_ GE367.out) | exact HB.out)⟩
 ·rw [if_neg c3] at H
  have c3b0 : ((l1.length : Int) == 0) = false := beq_eq_false_iff_ne.mpr c3
  have c3b1 : ((l1.length : Int) != 0) = true := bne_iff_ne.mpr c3
  have c3b2 : ¬ (l1 = []) := fun h_ => c3 (by rw [h_]; rfl)
  by_cases c9 : (l1.length : Int) = 1
  ·rw [if_pos c9] at H
   have c9b0 : ((l1.length : Int) == 1) = true := beq_iff_eq.mpr c9
   have c9b1 : ((l1.length : Int) != 1) = false := bne_eq_false_iff_eq.mpr c9
   clear c9
   by_cases c10 : 0 < (l1.length : Int)
   ·rw [if_pos c10] at H
    have c10b0 : decide (0 < (l1.length : Int)) = true := decide_eq_true c10
    have c10b1 : decide (0 < l1.length) = true := decide_eq_true (by omega)
    clear c10
    replace H := Option.bind_eq_some_iff.mp H
    obtain ⟨t374, A110, H⟩ := H
    try dsimp only at H
    have A11 := Aside0.mk A110
    clear A110
    simp only [Option.some.injEq, Prod.mk.injEq] at H
    obtain ⟨rfl, rfl, rfl⟩ := H
    go_enter Try.func63, Try.ntmps63
    try go_wp2_with (first | ((with_reducible refine gate_dst (N := 4) rfl ?_); refine box_event ?hg (N := 4) ?hd (cs := #[.int .i64 0, .int .i64 0, .slice none 0 0]) (t := 30) ?hr ?_; (case hd => rfl); (case hg => rfl); (case hr => first | (go_simp; done) | (go_simp; rfl)); intro gb367 hg w12 hbox hb; have n0_ := Aside0.mk (below_step (by repeat (first | (with_reducible first | exact HB.out | apply below_alloc | apply pw_below_drewN | apply below_drew1) | exact HB.out)) hb); have n1_ := Aside0.mk (hbox); have n2_ := Aside0.mk ((by rw [hg]; exact (below_size (by repeat (first | (with_reducible first | exact HB.out | apply below_alloc | apply pw_below_drewN | apply below_drew1) | exact HB.out))) : w.heap.size ≤ gb367)); have n3_ := Aside0.mk ((by rw [hg]; exact (below_size (by repeat (first | (with_reducible first | exact HB.out | apply below_alloc | apply pw_below_drewN | apply below_drew1) | exact HB.out))) : w.heap.size ≤ gb367)); clear HB; have HB := n0_; have BK367 := n1_; have GW367 := n2_; have GE367 := n3_; clear n0_ n1_ n2_ n3_; clear hb hbox hg))
    have n0_ := Aside0.mk (blk_drew BK367.out)
    have n1_ := Aside0.mk (below_drew1 HB.out)
    clear BK367
    clear HB
    have BK367 := n0_
    have HB := n1_
    clear n0_ n1_
    have p373 : 0 ≤ (0 : Int) := (by omega)
    have q373 : 0 < (l1.length : Int) := of_decide_eq_true (by first | (with_reducible assumption) | assumption)
    obtain ⟨ad373, e373, hx373_0⟩ := Kd.at_int HR1.out 0 p373 q373
    have hw373_0 := hx373_0
    (try rw [show ((0 : Int)).toNat = 0 from rfl] at hw373_0)
    (try rw [show 0 * 1 = 0 from rfl] at hw373_0)
    (try rw [Addr.add_zero'] at hw373_0)
    cases e373
    have qi373 : (0 < l1.length) = True := eq_true (by omega)
    (try rw [show ((0 : Int)).toNat = 0 from rfl] at hx373_0)
    (try rw [Addr.add_zero'] at hx373_0)
    replace hx373_0 := (HB.out.cell (World.block_lt_of_cell? w _ hx373_0)).trans hx373_0
    replace p373 := eq_true p373
    replace q373 := eq_true q373
    refine start_ (n := 7) (S := fun w' => w'.cell? ad373 = some (.int .i64 (rd l1 0))) (ds := []) #[false, false, false, false, false, false, false] (by kernel_rfl) rfl rfl (((HB.out.cell (World.block_lt_of_cell? w _ hw373_0)).trans hw373_0)) (fun hHeld => ?_)
    generalize w12.drew = w13 at BK367 HB hx373_0 hHeld ⊢
    refine pure_ (i := 0) (N := some 15) (v := ?_) (a' := ?_) #[true, false, false, false, false, false, false] rfl rfl (by kernel_rfl) (fun _ _ _ h => h) (Or.inl ⟨by rfl, ?_⟩) ?_ ?_
    rotate_left
    ·intro w'
     go_simp
     with_reducible rfl
    rotate_left
    ·simp only [Act.put, lA_, lZ_, lS_, i64_w, i32_w]
     rfl
    refine pure_ (i := 1) (N := some 16) (v := ?_) (a' := ?_) #[true, true, false, false, false, false, false] rfl rfl (by kernel_rfl) (fun _ _ _ h => h) (Or.inl ⟨by rfl, ?_⟩) ?_ ?_
    rotate_left
    ·intro w'
     go_simp
     with_reducible rfl
    rotate_left
    ·simp only [Act.put, lA_, lZ_, lS_, i64_w, i32_w]
     rfl
    refine pure_ (i := 3) (N := some 18) (v := ?_) (a' := ?_) #[true, true, false, true, false, false, false] rfl rfl (by kernel_rfl) (fun _ _ _ h => h) (Or.inl ⟨by rfl, ?_⟩) ?_ ?_
    rotate_left
    ·intro w'
     go_simp
     with_reducible rfl
    rotate_left
    ·simp only [Act.put, lA_, lZ_, lS_, i64_w, i32_w]
     rfl
    refine take_ (i := 2) (N := some 17) (v := ?_) (a' := ?_) #[true, true, true, true, false, false, false] rfl rfl (by kernel_rfl) (fun _ _ _ h => h) (Or.inl ⟨by rfl, ?_⟩) hHeld ?_ ?_
    rotate_left
    ·intro w' s0
     go_simp
     with_reducible rfl
    rotate_left
    ·simp only [Act.put, lA_, lZ_, lS_, i64_w, i32_w]
     rfl
    refine one_ (i := 4) (N := some 19) #[true, true, true, true, true, false, false] rfl rfl (by kernel_rfl) (by decide) (fun K hK => ?_)
    refine goes_ Try.func67 (by kernel_rfl) rfl #[.slice A0 l0.length c0] (by rfl) rfl rfl (by (try simp only [List.map_toArray, List.map_cons, List.map_nil]); first | done | rfl | (simp only [List.length_drop, List.length_take]; rfl)) ?_
    with_reducible refine (spec_l5Copy.calls _ _ l0 t374 _ ?side1 ?side2 A11.out).mono ?_
    (case side1 => repeat (first | exact (Kd.C_below HR0.out HB.out) | (with_reducible refine Kd.C_alloc ?_ _) | (with_reducible refine Kd.C_drewN ?_ _) | (with_reducible refine Kd.C_drew ?_)))
    (case side2 => exact HC0.out)
    rintro e w14 ⟨v375, rfl, ho0, hb⟩
    refine ⟨_, rfl, ?_⟩
    have n0_ := Aside0.mk (Kd.R_lower ho0 (below_size (by repeat (first | (with_reducible first | exact HB.out | apply below_alloc | apply pw_below_drewN | apply below_drew1 | refine below_set ?_ GE367.out) | exact HB.out))))
    have n1_ := Aside0.mk (blk_below (g := gb367) (o := .cells #[.int .i64 0, .int .i64 0, .slice none 0 0] 30 (0, 0)) (by (with_reducible repeat (first | refine blk_drewN ?_ _ | refine blk_drew ?_ | refine blk_alloc ?_ _)); exact BK367.out) hb)
    have n2_ := Aside0.mk (below_step (by repeat (first | (with_reducible first | exact HB.out | apply below_alloc | apply pw_below_drewN | apply below_drew1 | refine below_set ?_ GE367.out) | exact HB.out)) hb)
    clear BK367
    clear HB
    have HO376 := n0_
    have BK367 := n1_
    have HB := n2_
    clear n0_ n1_ n2_
    (try clear hb)
    (try clear hb2)
    (try clear hk)
    (try clear hi)
    (try clear ho0)
    obtain ⟨Ao15, co15, eo15⟩ := Kd.R_slice HO376.out
    (first | subst eo15 | (injection eo15 with f1_ f2_ f3_; have f4_ := f1_.symm; have f5_ := f3_.symm; clear f1_ f2_ f3_; subst f4_; subst f5_))
    refine hK.out _ _ (((HB.out.cell (World.block_lt_of_cell? w _ hw373_0)).trans hw373_0)) (fun hHeld => ?_)
    clear hK K
    refine norm_ (a' := ?_) ?_ ?_
    rotate_left
    ·show Act.put _ (some 19) _ = _
     simp only [Act.put, lA_, lZ_, lS_, i64_w, i32_w]
     rfl
    refine pure_ (i := 5) (N := some 20) (v := ?_) (a' := ?_) #[true, true, true, true, true, true, false] rfl rfl (by kernel_rfl) (fun _ _ _ h => h) (Or.inl ⟨by rfl, ?_⟩) ?_ ?_
    rotate_left
    ·intro w'
     go_simp
     with_reducible rfl
    rotate_left
    ·simp only [Act.put, lA_, lZ_, lS_, i64_w, i32_w]
     rfl
    refine one_ (i := 6) (N := none) #[true, true, true, true, true, true, true] rfl rfl (by kernel_rfl) (by decide) (fun K hK => ?_)
    have hs16 : w14.cell? ⟨gb367, 0, none⟩ = some (.int .i64 0) := (blk_cell BK367.out 0).trans rfl
    have hfs16 := blk_frozen BK367.out 0
    have hs17 : w14.cell? ⟨gb367, 1, none⟩ = some (.int .i64 0) := (blk_cell BK367.out 1).trans rfl
    have hfs17 := blk_frozen BK367.out 1
    have hs18 : w14.cell? ⟨gb367, 2, none⟩ = some (.slice none 0 0) := (blk_cell BK367.out 2).trans rfl
    have hfs18 := blk_frozen BK367.out 2
    refine skip_ (w1 := ?_) (by rfl) rfl ?_ ?_
    rotate_left
    ·go_simp
     rfl
    refine hK.out _ _ (((cell_far (p := ⟨gb367, _, none⟩) (by first | exact Nat.ne_of_lt (Nat.lt_of_lt_of_le (by have := World.block_lt_of_cell? _ _ hw373_0; first | rwa [add_block] at this | exact this) GW367.out) | (rw [add_block]; exact Nat.ne_of_lt (Nat.lt_of_lt_of_le (by have := World.block_lt_of_cell? _ _ hw373_0; first | rwa [add_block] at this | exact this) GW367.out)) | (show (Addr.add _ _).block ≠ _; rw [add_block]; exact Nat.ne_of_lt (Nat.lt_of_lt_of_le (by have := World.block_lt_of_cell? _ _ hw373_0; first | rwa [add_block] at this | exact this) GW367.out)) | (dsimp only; exact Nat.ne_of_lt (Nat.lt_of_lt_of_le (by have := World.block_lt_of_cell? _ _ hw373_0; first | rwa [add_block] at this | exact this) GW367.out))) _).trans (((cell_far (p := ⟨gb367, _, none⟩) (by first | exact Nat.ne_of_lt (Nat.lt_of_lt_of_le (by have := World.block_lt_of_cell? _ _ hw373_0; first | rwa [add_block] at this | exact this) GW367.out) | (rw [add_block]; exact Nat.ne_of_lt (Nat.lt_of_lt_of_le (by have := World.block_lt_of_cell? _ _ hw373_0; first | rwa [add_block] at this | exact this) GW367.out)) | (show (Addr.add _ _).block ≠ _; rw [add_block]; exact Nat.ne_of_lt (Nat.lt_of_lt_of_le (by have := World.block_lt_of_cell? _ _ hw373_0; first | rwa [add_block] at this | exact this) GW367.out)) | (dsimp only; exact Nat.ne_of_lt (Nat.lt_of_lt_of_le (by have := World.block_lt_of_cell? _ _ hw373_0; first | rwa [add_block] at this | exact this) GW367.out))) _).trans (((cell_far (p := ⟨gb367, _, none⟩) (by first | exact Nat.ne_of_lt (Nat.lt_of_lt_of_le (by have := World.block_lt_of_cell? _ _ hw373_0; first | rwa [add_block] at this | exact this) GW367.out) | (rw [add_block]; exact Nat.ne_of_lt (Nat.lt_of_lt_of_le (by have := World.block_lt_of_cell? _ _ hw373_0; first | rwa [add_block] at this | exact this) GW367.out)) | (show (Addr.add _ _).block ≠ _; rw [add_block]; exact Nat.ne_of_lt (Nat.lt_of_lt_of_le (by have := World.block_lt_of_cell? _ _ hw373_0; first | rwa [add_block] at this | exact this) GW367.out)) | (dsimp only; exact Nat.ne_of_lt (Nat.lt_of_lt_of_le (by have := World.block_lt_of_cell? _ _ hw373_0; first | rwa [add_block] at this | exact this) GW367.out))) _).trans (hHeld))))))) (fun hHeld => ?_)
    clear hK K
    refine done_ (by kernel_rfl) ?_
    try go_wp2
    refine bodyPost_ret (results_cell_row rfl _ _ gb367 30 #[.int .i64 0, .int .i64 (rd l1 0), .slice Ao15 t374.length co15] (0, 0) _ rfl (by (with_reducible repeat (first | refine blk_drewN ?_ _ | refine blk_drew ?_ | refine blk_alloc ?_ _)); refine blk_put (cs := #[.int .i64 0, .int .i64 (rd l1 0), .slice none 0 0]) ?_ 2 _ rfl; (with_reducible repeat (first | refine blk_drewN ?_ _ | refine blk_drew ?_ | refine blk_alloc ?_ _)); refine blk_put (cs := #[.int .i64 0, .int .i64 0, .slice none 0 0]) ?_ 1 _ rfl; (with_reducible repeat (first | refine blk_drewN ?_ _ | refine blk_drew ?_ | refine blk_alloc ?_ _)); refine blk_put (cs := #[.int .i64 0, .int .i64 0, .slice none 0 0]) ?_ 0 _ rfl; (with_reducible repeat (first | refine blk_drewN ?_ _ | refine blk_drew ?_ | refine blk_alloc ?_ _)); exact BK367.out) Try.underlying30 rfl (by kernel_rfl)) rfl ?_
    exact ⟨_, by first | rfl | (simp [errW_none, errW_some] <;> rfl) | (simp [*, errW_none, errW_some] <;> rfl), by (with_reducible repeat (first | apply Kd.R_alloc | apply Kd.R_drewN | apply Kd.R_drew)); exact Kd.R_mono (Kd.R_far (p := ⟨gb367, 2, none⟩) (Kd.R_far (p := ⟨gb367, 1, none⟩) (Kd.R_far (p := ⟨gb367, 0, none⟩) (Kd.R_types HO376.out BK367.out (by decide)) (fun _ hk => hk.2) (.int .i64 0)) (fun _ hk => hk.2) (.int .i64 (rd l1 0))) (fun _ hk => hk.2) (.slice Ao15 t374.length co15)) (fun _ hk => trivial), by repeat (first | (with_reducible first | exact HB.out | apply below_alloc | apply pw_below_drewN | apply below_drew1 | refine below_set ?_ GE367.out) | exact HB.out)⟩
   ·rw [if_neg c10] at H
    exact absurd H (by simp)
  ·rw [if_neg c9] at H
   have c9b0 : ((l1.length : Int) == 1) = false := beq_eq_false_iff_ne.mpr c9
   have c9b1 : ((l1.length : Int) != 1) = true := bne_iff_ne.mpr c9
   by_cases c19 : 1 ≤ (l1.length : Int)
   ·rw [if_pos c19] at H
    have c19b0 := eq_true c19
    have c19b1 : decide (1 ≤ (l1.length : Int)) = true := decide_eq_true c19
    clear c19
    replace H := Option.bind_eq_some_iff.mp H
    obtain ⟨⟨t378, t379, t380⟩, A200, H⟩ := H
    try dsimp only at H
    have A20 := Aside0.mk A200
    clear A200
    by_cases c21 : t378 = 0
    ·rw [if_pos c21] at H
     have c21b0 : (t378 == 0) = true := beq_iff_eq.mpr c21
     have c21b1 : (t378 != 0) = false := bne_eq_false_iff_eq.mpr c21
     clear c21
     by_cases c22 : 0 < (l1.length : Int)
     ·rw [if_pos c22] at H
      have c22b0 : decide (0 < (l1.length : Int)) = true := decide_eq_true c22
      have c22b1 : decide (0 < l1.length) = true := decide_eq_true (by omega)
      clear c22
      replace H := Option.bind_eq_some_iff.mp H
      obtain ⟨⟨t385, t386, t387⟩, A230, H⟩ := H
      try dsimp only at H
      have A23 := Aside0.mk A230
      clear A230
      simp only [Option.some.injEq, Prod.mk.injEq] at H
      obtain ⟨rfl, rfl, rfl⟩ := H
      go_enter Try.func63, Try.ntmps63
      try go_wp2_with (first | ((with_reducible refine gate_dst (N := 4) rfl ?_); refine box_event ?hg (N := 4) ?hd (cs := #[.int .i64 0, .int .i64 0, .slice none 0 0]) (t := 30) ?hr ?_; (case hd => rfl); (case hg => rfl); (case hr => first | (go_simp; done) | (go_simp; rfl)); intro gb367 hg w24 hbox hb; have n0_ := Aside0.mk (below_step (by repeat (first | (with_reducible first | exact HB.out | apply below_alloc | apply pw_below_drewN | apply below_drew1) | exact HB.out)) hb); have n1_ := Aside0.mk (hbox); have n2_ := Aside0.mk ((by rw [hg]; exact (below_size (by repeat (first | (with_reducible first | exact HB.out | apply below_alloc | apply pw_below_drewN | apply below_drew1) | exact HB.out))) : w.heap.size ≤ gb367)); have n3_ := Aside0.mk ((by rw [hg]; exact (below_size (by repeat (first | (with_reducible first | exact HB.out | apply below_alloc | apply pw_below_drewN | apply below_drew1) | exact HB.out))) : w.heap.size ≤ gb367)); clear HB; have HB := n0_; have BK367 := n1_; have GW367 := n2_; have GE367 := n3_; clear n0_ n1_ n2_ n3_; clear hb hbox hg; obtain ⟨i025, hi025, _, hsz25, _⟩ := info_parts info2; obtain ⟨A25, hcut25, hA25, hC25⟩ := print_drop_of (P := Try.prog) (Value.int .i64) 0 33 2 .i64 Try.underlying33 hi025 hsz25 A1 c1 l1 1 (by omega) (of_decide_eq_true (by first | (with_reducible assumption) | assumption)) HC1.out; have HR377 := Aside0.mk (Kd.C_of_reads (h1 := fun _ => rfl) (hA25 _ (Kd.reads_of_C HR1.out))); have HC377 := Aside0.mk hC25; clear hA25 hC25 hi025 hsz25) | ((with_reducible refine gate_callee (f := 63) rfl ?_); refine goesL_ (some 24) rfl rfl Try.func63 (by kernel_rfl) rfl #[.slice A0 l0.length c0, .slice A25 (l1.drop 1).length (c1 - 1)] rfl (by (try simp only [List.map_toArray, List.map_cons, List.map_nil]); first | done | (rw [show (l1.drop 1).length = (l1.length - 1) from List.length_drop] <;> rfl) | rfl | (simp only [List.length_drop, List.length_take]; rfl)) ?_; (with_reducible refine (ih k (by omega) _ _ l0 _ _ (l1.drop 1) t378 t379 t380 _ ?side1 ?side2 ?side3 ?side4 A20.out).mono ?_); (case side1 => repeat (first | exact (Kd.C_below HR0.out HB.out) | (with_reducible refine Kd.C_alloc ?_ _) | (with_reducible refine Kd.C_drewN ?_ _) | (with_reducible refine Kd.C_drew ?_))); (case side2 => exact HC0.out); (case side3 => repeat (first | exact (Kd.C_below HR377.out HB.out) | (with_reducible refine Kd.C_alloc ?_ _) | (with_reducible refine Kd.C_drewN ?_ _) | (with_reducible refine Kd.C_drew ?_))); (case side4 => exact HC377.out); rintro e w26 ⟨v381, rfl, ho0, hb⟩; refine ⟨_, rfl, ?_⟩; have n0_ := Aside0.mk (Kd.R_lower ho0 (below_size (by repeat (first | (with_reducible first | exact HB.out | apply below_alloc | apply pw_below_drewN | apply below_drew1 | refine below_set ?_ GE367.out) | exact HB.out)))); have n1_ := Aside0.mk (blk_below (g := gb367) (o := .cells #[.int .i64 0, .int .i64 0, .slice none 0 0] 30 (0, 0)) (by (with_reducible repeat (first | refine blk_drewN ?_ _ | refine blk_drew ?_ | refine blk_alloc ?_ _)); exact BK367.out) hb); have n2_ := Aside0.mk (below_step (by repeat (first | (with_reducible first | exact HB.out | apply below_alloc | apply pw_below_drewN | apply below_drew1 | refine below_set ?_ GE367.out) | exact HB.out)) hb); clear BK367; clear HB; have HO382 := n0_; have BK367 := n1_; have HB := n2_; clear n0_ n1_ n2_; (try clear hb); (try clear hb2); (try clear hk); (try clear hi); (try clear ho0)) | ((with_reducible refine gate_dst (N := 5) rfl ?_); refine box_event ?hg (N := 5) ?hd (cs := #[.int .i64 0, .int .i64 0, .slice none 0 0]) (t := 30) ?hr ?_; (case hd => rfl); (case hg => rfl); (case hr => first | (go_simp; done) | (go_simp; rfl)); intro gb383 hg w27 hbox hb; have n0_ := Aside0.mk (Kd.R_below (by (with_reducible repeat (first | apply Kd.R_alloc | apply Kd.R_drewN | apply Kd.R_drew)); exact HO382.out) hb); have n1_ := Aside0.mk (blk_below (g := gb367) (o := .cells #[.int .i64 0, .int .i64 0, .slice none 0 0] 30 (0, 0)) (by (with_reducible repeat (first | refine blk_drewN ?_ _ | refine blk_drew ?_ | refine blk_alloc ?_ _)); exact BK367.out) hb); have n2_ := Aside0.mk (below_step (by repeat (first | (with_reducible first | exact HB.out | apply below_alloc | apply pw_below_drewN | apply below_drew1 | refine below_set ?_ GE367.out) | exact HB.out)) hb); have n3_ := Aside0.mk (hbox); have n4_ := Aside0.mk ((by rw [hg]; exact (below_size (by repeat (first | (with_reducible first | exact HB.out | apply below_alloc | apply pw_below_drewN | apply below_drew1 | refine below_set ?_ GE367.out) | exact HB.out))) : w.heap.size ≤ gb383)); have n5_ := Aside0.mk ((by rw [hg]; exact (below_size (by repeat (first | (with_reducible first | exact HB.out | apply below_alloc | apply pw_below_drewN | apply below_drew1 | refine below_set ?_ GE367.out) | exact HB.out))) : w.heap.size ≤ gb383)); have n6_ := Aside0.mk ((by rw [hg]; exact Nat.ne_of_lt (blk_lt (g := gb367) (o := .cells #[.int .i64 0, .int .i64 0, .slice none 0 0] 30 (0, 0)) (by (with_reducible repeat (first | refine blk_drewN ?_ _ | refine blk_drew ?_ | refine blk_alloc ?_ _)); exact BK367.out)) : gb367 ≠ gb383)); have n7_ := Aside0.mk ((by rw [hg]; exact Nat.ne_of_gt (blk_lt (g := gb367) (o := .cells #[.int .i64 0, .int .i64 0, .slice none 0 0] 30 (0, 0)) (by (with_reducible repeat (first | refine blk_drewN ?_ _ | refine blk_drew ?_ | refine blk_alloc ?_ _)); exact BK367.out)) : gb383 ≠ gb367)); clear HO382; clear BK367; clear HB; have HO382 := n0_; have BK367 := n1_; have HB := n2_; have BK383 := n3_; have GW383 := n4_; have GE383 := n5_; have NB367_383 := n6_; have NB383_367 := n7_; clear n0_ n1_ n2_ n3_ n4_ n5_ n6_ n7_; clear hb hbox hg; have hnb28 := NB383_367.out; have hnc28 := NB367_383.out; have hcz29_0 : w27.cell? ⟨gb383, 0, none⟩ = some (.int .i64 0) := (blk_cell BK383.out 0).trans rfl; have hcz29_1 : w27.cell? ⟨gb383, 1, none⟩ = some (.int .i64 0) := (blk_cell BK383.out 1).trans rfl; have hcz29_2 : w27.cell? ⟨gb383, 2, none⟩ = some (.slice none 0 0) := (blk_cell BK383.out 2).trans rfl; have hfz29_0 := blk_frozen BK383.out 0; have hfz29_1 := blk_frozen BK383.out 1; have hfz29_2 := blk_frozen BK383.out 2; obtain ⟨Ao30, co30, eo30⟩ := Kd.R_slice HO382.out; subst eo30))
      have n0_ : Aside0 (Kd.R k26 26 (((w27.setCell ⟨gb383, 0, none⟩ (.int .i64 t378)).setCell ⟨gb383, 1, none⟩ (.int .i64 t379)).setCell ⟨gb383, 2, none⟩ (.slice Ao30 t380.length co30)) w.heap.size (fun _ => True) (.slice Ao30 t380.length co30) t380) := ⟨by (with_reducible repeat (first | apply Kd.R_alloc | apply Kd.R_drewN | apply Kd.R_drew)); exact Kd.R_mono (Kd.R_far (p := ⟨gb383, 2, none⟩) (Kd.R_far (p := ⟨gb383, 1, none⟩) (Kd.R_far (p := ⟨gb383, 0, none⟩) (Kd.R_types HO382.out BK383.out (by decide)) (fun _ hk => hk.2) (.int .i64 t378)) (fun _ hk => hk.2) (.int .i64 t379)) (fun _ hk => hk.2) (.slice Ao30 t380.length co30)) (fun _ hk => trivial)⟩
      have n1_ : Aside0 ((((w27.setCell ⟨gb383, 0, none⟩ (.int .i64 t378)).setCell ⟨gb383, 1, none⟩ (.int .i64 t379)).setCell ⟨gb383, 2, none⟩ (.slice Ao30 t380.length co30)).heap[gb367]? = some (.cells #[.int .i64 0, .int .i64 0, .slice none 0 0] 30 (0, 0))) := ⟨by (with_reducible repeat (first | refine blk_drewN ?_ _ | refine blk_drew ?_ | refine blk_alloc ?_ _)); refine blk_far ?_ NB367_383.out _; (with_reducible repeat (first | refine blk_drewN ?_ _ | refine blk_drew ?_ | refine blk_alloc ?_ _)); refine blk_far ?_ NB367_383.out _; (with_reducible repeat (first | refine blk_drewN ?_ _ | refine blk_drew ?_ | refine blk_alloc ?_ _)); refine blk_far ?_ NB367_383.out _; (with_reducible repeat (first | refine blk_drewN ?_ _ | refine blk_drew ?_ | refine blk_alloc ?_ _)); exact BK367.out⟩
      have n2_ : Aside0 ((((w27.setCell ⟨gb383, 0, none⟩ (.int .i64 t378)).setCell ⟨gb383, 1, none⟩ (.int .i64 t379)).setCell ⟨gb383, 2, none⟩ (.slice Ao30 t380.length co30)).heap[gb383]? = some (.cells #[.int .i64 t378, .int .i64 t379, .slice Ao30 t380.length co30] 30 (0, 0))) := ⟨by (with_reducible repeat (first | refine blk_drewN ?_ _ | refine blk_drew ?_ | refine blk_alloc ?_ _)); refine blk_put (cs := #[.int .i64 t378, .int .i64 t379, .slice none 0 0]) ?_ 2 _ rfl; (with_reducible repeat (first | refine blk_drewN ?_ _ | refine blk_drew ?_ | refine blk_alloc ?_ _)); refine blk_put (cs := #[.int .i64 t378, .int .i64 0, .slice none 0 0]) ?_ 1 _ rfl; (with_reducible repeat (first | refine blk_drewN ?_ _ | refine blk_drew ?_ | refine blk_alloc ?_ _)); refine blk_put (cs := #[.int .i64 0, .int .i64 0, .slice none 0 0]) ?_ 0 _ rfl; (with_reducible repeat (first | refine blk_drewN ?_ _ | refine blk_drew ?_ | refine blk_alloc ?_ _)); exact BK383.out⟩
      have n3_ : Aside0 (Below w.heap.size w (((w27.setCell ⟨gb383, 0, none⟩ (.int .i64 t378)).setCell ⟨gb383, 1, none⟩ (.int .i64 t379)).setCell ⟨gb383, 2, none⟩ (.slice Ao30 t380.length co30))) := ⟨by repeat (first | (with_reducible first | exact HB.out | apply below_alloc | apply pw_below_drewN | apply below_drew1 | refine below_set ?_ GE367.out | refine below_set ?_ GE383.out) | exact HB.out)⟩
      (try clear HO382)
      (try clear BK367)
      (try clear BK383)
      (try clear HB)
      generalize (((w27.setCell ⟨gb383, 0, none⟩ (.int .i64 t378)).setCell ⟨gb383, 1, none⟩ (.int .i64 t379)).setCell ⟨gb383, 2, none⟩ (.slice Ao30 t380.length co30)) = w31 at n0_ n1_ n2_ n3_ ⊢
      have HO382 := n0_
      have BK367 := n1_
      have BK383 := n2_
      have HB := n3_
      clear n0_ n1_ n2_ n3_
      have n0_ := Aside0.mk (Kd.R_drew HO382.out)
      have n1_ := Aside0.mk (blk_drew BK367.out)
      have n2_ := Aside0.mk (blk_drew BK383.out)
      have n3_ := Aside0.mk (below_drew1 HB.out)
      clear HO382
      clear BK367
      clear BK383
      clear HB
      have HO382 := n0_
      have BK367 := n1_
      have BK383 := n2_
      have HB := n3_
      clear n0_ n1_ n2_ n3_
      have p384 : 0 ≤ (0 : Int) := (by omega)
      have q384 : 0 < (l1.length : Int) := of_decide_eq_true (by first | (with_reducible assumption) | assumption)
      obtain ⟨ad384, e384, hx384_0⟩ := Kd.at_int HR1.out 0 p384 q384
      have hw384_0 := hx384_0
      (try rw [show ((0 : Int)).toNat = 0 from rfl] at hw384_0)
      (try rw [show 0 * 1 = 0 from rfl] at hw384_0)
      (try rw [Addr.add_zero'] at hw384_0)
      cases e384
      have qi384 : (0 < l1.length) = True := eq_true (by omega)
      (try rw [show ((0 : Int)).toNat = 0 from rfl] at hx384_0)
      (try rw [Addr.add_zero'] at hx384_0)
      replace hx384_0 := (HB.out.cell (World.block_lt_of_cell? w _ hx384_0)).trans hx384_0
      replace p384 := eq_true p384
      replace q384 := eq_true q384
      refine start_ (n := 10) (S := fun w' => w'.cell? ⟨gb383, 0, none⟩ = some (.int .i64 t378) ∧ w'.cell? ⟨gb383, 1, none⟩ = some (.int .i64 t379) ∧ w'.cell? ⟨gb383, 2, none⟩ = some (.slice Ao30 t380.length co30) ∧ w'.cell? ad384 = some (.int .i64 (rd l1 0))) (ds := []) #[false, false, false, false, false, false, false, false, false, false] (by kernel_rfl) rfl rfl ⟨(blk_cell BK383.out 0).trans rfl, (blk_cell BK383.out 1).trans rfl, (blk_cell BK383.out 2).trans rfl, ((HB.out.cell (World.block_lt_of_cell? w _ hw384_0)).trans hw384_0)⟩ (fun hHeld => ?_); refine with_tabW spec_l5List.tab8 spec_l5List.bits8 (fun HT_ HW_ => ?_)
      generalize w31.drew = w32 at HO382 BK367 BK383 HB hx384_0 hHeld ⊢
      refine pure_ (i := 0) (N := some 29) (v := ?_) (a' := ?_) #[true, false, false, false, false, false, false, false, false, false] rfl rfl (any_of HT_.out (by kernel_rfl)) (fun _ _ _ h => h) (Or.inl ⟨by rfl, ?_⟩) ?_ ?_
      rotate_left
      ·intro w'
       go_simp
       with_reducible rfl
      rotate_left
      ·simp only [Act.put, lA_, lZ_, lS_, i64_w, i32_w]
       rfl
      refine pure_ (i := 2) (N := some 31) (v := ?_) (a' := ?_) #[true, false, true, false, false, false, false, false, false, false] rfl rfl (any_of HT_.out (by kernel_rfl)) (fun _ _ _ h => h) (Or.inl ⟨by rfl, ?_⟩) ?_ ?_
      rotate_left
      ·intro w'
       go_simp
       with_reducible rfl
      rotate_left
      ·simp only [Act.put, lA_, lZ_, lS_, i64_w, i32_w]
       rfl
      refine pure_ (i := 3) (N := some 32) (v := ?_) (a' := ?_) #[true, false, true, true, false, false, false, false, false, false] rfl rfl (any_of HT_.out (by kernel_rfl)) (fun _ _ _ h => h) (Or.inl ⟨by rfl, ?_⟩) ?_ ?_
      rotate_left
      ·intro w'
       go_simp
       with_reducible rfl
      rotate_left
      ·simp only [Act.put, lA_, lZ_, lS_, i64_w, i32_w]
       rfl
      refine pure_ (i := 5) (N := some 34) (v := ?_) (a' := ?_) #[true, false, true, true, false, true, false, false, false, false] rfl rfl (any_of HT_.out (by kernel_rfl)) (fun _ _ _ h => h) (Or.inl ⟨by rfl, ?_⟩) ?_ ?_
      rotate_left
      ·intro w'
       go_simp
       with_reducible rfl
      rotate_left
      ·simp only [Act.put, lA_, lZ_, lS_, i64_w, i32_w]
       rfl
      refine take_ (i := 1) (N := some 30) (v := ?_) (a' := ?_) #[true, true, true, true, false, true, false, false, false, false] rfl rfl (take_ofW HT_.out HW_.out (by kernel_rfl)) (fun _ _ _ h => h) (Or.inl ⟨by rfl, ?_⟩) hHeld ?_ ?_
      rotate_left
      ·rintro w' ⟨s0, s1, s2, s3⟩
       go_simp
       with_reducible rfl
      rotate_left
      ·simp only [Act.put, lA_, lZ_, lS_, i64_w, i32_w]
       rfl
      refine take_ (i := 4) (N := some 33) (v := ?_) (a' := ?_) #[true, true, true, true, true, true, false, false, false, false] rfl rfl (take_ofW HT_.out HW_.out (by kernel_rfl)) (fun _ _ _ h => h) (Or.inl ⟨by rfl, ?_⟩) hHeld ?_ ?_
      rotate_left
      ·rintro w' ⟨s0, s1, s2, s3⟩
       go_simp
       with_reducible rfl
      rotate_left
      ·simp only [Act.put, lA_, lZ_, lS_, i64_w, i32_w]
       rfl
      refine take_ (i := 6) (N := some 35) (v := ?_) (a' := ?_) #[true, true, true, true, true, true, true, false, false, false] rfl rfl (take_ofW HT_.out HW_.out (by kernel_rfl)) (fun _ _ _ h => h) (Or.inl ⟨by rfl, ?_⟩) hHeld ?_ ?_
      rotate_left
      ·rintro w' ⟨s0, s1, s2, s3⟩
       go_simp
       with_reducible rfl
      rotate_left
      ·simp only [Act.put, lA_, lZ_, lS_, i64_w, i32_w]
       rfl
      refine pure_ (i := 7) (N := some 36) (v := ?_) (a' := ?_) #[true, true, true, true, true, true, true, true, false, false] rfl rfl (any_of HT_.out (by kernel_rfl)) (fun _ _ _ h => h) (Or.inl ⟨by rfl, ?_⟩) ?_ ?_
      rotate_left
      ·intro w'
       go_simp
       with_reducible rfl
      rotate_left
      ·simp only [Act.put, lA_, lZ_, lS_, i64_w, i32_w]
       rfl
      refine one_ (i := 8) (N := some 37) #[true, true, true, true, true, true, true, true, true, false] rfl rfl (one_of HT_.out (by kernel_rfl)) (by decide) (fun K hK => ?_)
      refine goes_ Try.func58 (by kernel_rfl) rfl #[.slice Ao30 t380.length co30, .agg #[.int .i64 3, .int .i64 (rd l1 0), .int .i64 t379, .int .i64 0]] (by rfl) rfl rfl (by (try simp only [List.map_toArray, List.map_cons, List.map_nil]); first | done | rfl | (simp only [List.length_drop, List.length_take]; rfl)) ?_
      with_reducible refine (spec_l5Put.calls k _ _ t380 3 (rd l1 0) t379 0 t385 t386 t387 _ ?side1 ?side2 A23.out).mono ?_
      (case side1 => repeat (first | exact (Kd.R_reads' HO382.out).2.2 | (with_reducible refine Kd.C_alloc ?_ _) | (with_reducible refine Kd.C_drewN ?_ _) | (with_reducible refine Kd.C_drew ?_)))
      (case side2 => exact (Kd.R_reads' HO382.out).2.1)
      rintro e w33 ⟨v388, rfl, ho0, hb⟩
      refine ⟨_, rfl, ?_⟩
      have n0_ := Aside0.mk (Kd.R_elder' (by (with_reducible repeat (first | apply Kd.R_alloc | apply Kd.R_drewN | apply Kd.R_drew)); exact HO382.out) (Kd.R_base ho0) hb)
      have n1_ := Aside0.mk (Kd.R_lower (Kd.R_new' ho0 (Kd.R_lt (by (with_reducible repeat (first | apply Kd.R_alloc | apply Kd.R_drewN | apply Kd.R_drew)); exact HO382.out))) (below_size (by repeat (first | (with_reducible first | exact HB.out | apply below_alloc | apply pw_below_drewN | apply below_drew1 | refine below_set ?_ GE367.out | refine below_set ?_ GE383.out) | exact HB.out))))
      have n2_ := Aside0.mk (blk_below (g := gb367) (o := .cells #[.int .i64 0, .int .i64 0, .slice none 0 0] 30 (0, 0)) (by (with_reducible repeat (first | refine blk_drewN ?_ _ | refine blk_drew ?_ | refine blk_alloc ?_ _)); exact BK367.out) hb)
      have n3_ := Aside0.mk (blk_below (g := gb383) (o := .cells #[.int .i64 t378, .int .i64 t379, .slice Ao30 t380.length co30] 30 (0, 0)) (by (with_reducible repeat (first | refine blk_drewN ?_ _ | refine blk_drew ?_ | refine blk_alloc ?_ _)); exact BK383.out) hb)
      have n4_ := Aside0.mk (below_step (by repeat (first | (with_reducible first | exact HB.out | apply below_alloc | apply pw_below_drewN | apply below_drew1 | refine below_set ?_ GE367.out | refine below_set ?_ GE383.out) | exact HB.out)) hb)
      clear HO382
      clear BK367
      clear BK383
      clear HB
      have HO382 := n0_
      have HO389 := n1_
      have BK367 := n2_
      have BK383 := n3_
      have HB := n4_
      clear n0_ n1_ n2_ n3_ n4_
      (try clear hb)
      (try clear hb2)
      (try clear hk)
      (try clear hi)
      (try clear ho0)
      obtain ⟨Ao36, co36, eo36⟩ := Kd.R_slice HO389.out
      (first | subst eo36 | (injection eo36 with f1_ f2_ f3_; have f4_ := f1_.symm; have f5_ := f3_.symm; clear f1_ f2_ f3_; subst f4_; subst f5_))
      refine hK.out _ _ ⟨(blk_cell BK383.out 0).trans rfl, (blk_cell BK383.out 1).trans rfl, (blk_cell BK383.out 2).trans rfl, ((HB.out.cell (World.block_lt_of_cell? w _ hw384_0)).trans hw384_0)⟩ (fun hHeld => ?_)
      clear hK K
      refine norm_ (a' := ?_) ?_ ?_
      rotate_left
      ·show Act.put _ (some 37) _ = _
       simp only [Act.put, lA_, lZ_, lS_, i64_w, i32_w]
       rfl
      refine one_ (i := 9) (N := none) #[true, true, true, true, true, true, true, true, true, true] rfl rfl (one_of HT_.out (by kernel_rfl)) (by decide) (fun K hK => ?_)
      have hs34 : w33.cell? ⟨gb367, 0, none⟩ = some (.int .i64 0) := (blk_cell BK367.out 0).trans rfl
      have hfs34 := blk_frozen BK367.out 0
      have hns34_1 := NB383_367.out
      have hms34_1 := NB367_383.out
      have hs35 : w33.cell? ⟨gb367, 1, none⟩ = some (.int .i64 0) := (blk_cell BK367.out 1).trans rfl
      have hfs35 := blk_frozen BK367.out 1
      have hns35_1 := NB383_367.out
      have hms35_1 := NB367_383.out
      have hs37 : w33.cell? ⟨gb367, 2, none⟩ = some (.slice none 0 0) := (blk_cell BK367.out 2).trans rfl
      have hfs37 := blk_frozen BK367.out 2
      have hns37_1 := NB383_367.out
      have hms37_1 := NB367_383.out
      refine skip_ (w1 := ?_) (by rfl) rfl ?_ ?_
      rotate_left
      ·go_simp
       rfl
      refine hK.out _ _ ⟨((cell_far (p := ⟨gb367, _, none⟩) NB383_367.out _).trans (((cell_far (p := ⟨gb367, _, none⟩) NB383_367.out _).trans (((cell_far (p := ⟨gb367, _, none⟩) NB383_367.out _).trans (hHeld.1)))))), ((cell_far (p := ⟨gb367, _, none⟩) NB383_367.out _).trans (((cell_far (p := ⟨gb367, _, none⟩) NB383_367.out _).trans (((cell_far (p := ⟨gb367, _, none⟩) NB383_367.out _).trans (hHeld.2.1)))))), ((cell_far (p := ⟨gb367, _, none⟩) NB383_367.out _).trans (((cell_far (p := ⟨gb367, _, none⟩) NB383_367.out _).trans (((cell_far (p := ⟨gb367, _, none⟩) NB383_367.out _).trans (hHeld.2.2.1)))))), ((cell_far (p := ⟨gb367, _, none⟩) (by first | exact Nat.ne_of_lt (Nat.lt_of_lt_of_le (by have := World.block_lt_of_cell? _ _ hw384_0; first | rwa [add_block] at this | exact this) GW367.out) | (rw [add_block]; exact Nat.ne_of_lt (Nat.lt_of_lt_of_le (by have := World.block_lt_of_cell? _ _ hw384_0; first | rwa [add_block] at this | exact this) GW367.out)) | (show (Addr.add _ _).block ≠ _; rw [add_block]; exact Nat.ne_of_lt (Nat.lt_of_lt_of_le (by have := World.block_lt_of_cell? _ _ hw384_0; first | rwa [add_block] at this | exact this) GW367.out)) | (dsimp only; exact Nat.ne_of_lt (Nat.lt_of_lt_of_le (by have := World.block_lt_of_cell? _ _ hw384_0; first | rwa [add_block] at this | exact this) GW367.out))) _).trans (((cell_far (p := ⟨gb367, _, none⟩) (by first | exact Nat.ne_of_lt (Nat.lt_of_lt_of_le (by have := World.block_lt_of_cell? _ _ hw384_0; first | rwa [add_block] at this | exact this) GW367.out) | (rw [add_block]; exact Nat.ne_of_lt (Nat.lt_of_lt_of_le (by have := World.block_lt_of_cell? _ _ hw384_0; first | rwa [add_block] at this | exact this) GW367.out)) | (show (Addr.add _ _).block ≠ _; rw [add_block]; exact Nat.ne_of_lt (Nat.lt_of_lt_of_le (by have := World.block_lt_of_cell? _ _ hw384_0; first | rwa [add_block] at this | exact this) GW367.out)) | (dsimp only; exact Nat.ne_of_lt (Nat.lt_of_lt_of_le (by have := World.block_lt_of_cell? _ _ hw384_0; first | rwa [add_block] at this | exact this) GW367.out))) _).trans (((cell_far (p := ⟨gb367, _, none⟩) (by first | exact Nat.ne_of_lt (Nat.lt_of_lt_of_le (by have := World.block_lt_of_cell? _ _ hw384_0; first | rwa [add_block] at this | exact this) GW367.out) | (rw [add_block]; exact Nat.ne_of_lt (Nat.lt_of_lt_of_le (by have := World.block_lt_of_cell? _ _ hw384_0; first | rwa [add_block] at this | exact this) GW367.out)) | (show (Addr.add _ _).block ≠ _; rw [add_block]; exact Nat.ne_of_lt (Nat.lt_of_lt_of_le (by have := World.block_lt_of_cell? _ _ hw384_0; first | rwa [add_block] at this | exact this) GW367.out)) | (dsimp only; exact Nat.ne_of_lt (Nat.lt_of_lt_of_le (by have := World.block_lt_of_cell? _ _ hw384_0; first | rwa [add_block] at this | exact this) GW367.out))) _).trans (hHeld.2.2.2))))))⟩ (fun hHeld => ?_)
      clear hK K
      refine done_ (done_of HT_.out (by kernel_rfl)) ?_
      try go_wp2
      refine bodyPost_ret (results_cell_row rfl _ _ gb367 30 #[.int .i64 t385, .int .i64 t386, .slice Ao36 t387.length co36] (0, 0) _ rfl (by (with_reducible repeat (first | refine blk_drewN ?_ _ | refine blk_drew ?_ | refine blk_alloc ?_ _)); refine blk_put (cs := #[.int .i64 t385, .int .i64 t386, .slice none 0 0]) ?_ 2 _ rfl; (with_reducible repeat (first | refine blk_drewN ?_ _ | refine blk_drew ?_ | refine blk_alloc ?_ _)); refine blk_put (cs := #[.int .i64 t385, .int .i64 0, .slice none 0 0]) ?_ 1 _ rfl; (with_reducible repeat (first | refine blk_drewN ?_ _ | refine blk_drew ?_ | refine blk_alloc ?_ _)); refine blk_put (cs := #[.int .i64 0, .int .i64 0, .slice none 0 0]) ?_ 0 _ rfl; (with_reducible repeat (first | refine blk_drewN ?_ _ | refine blk_drew ?_ | refine blk_alloc ?_ _)); exact BK367.out) Try.underlying30 rfl (by kernel_rfl)) rfl ?_
      exact ⟨_, by first | rfl | (simp [errW_none, errW_some] <;> rfl) | (simp [*, errW_none, errW_some] <;> rfl), by (with_reducible repeat (first | apply Kd.R_alloc | apply Kd.R_drewN | apply Kd.R_drew)); exact Kd.R_mono (Kd.R_far (p := ⟨gb367, 2, none⟩) (Kd.R_far (p := ⟨gb367, 1, none⟩) (Kd.R_far (p := ⟨gb367, 0, none⟩) (Kd.R_types HO389.out BK367.out (by decide)) (fun _ hk => hk.2) (.int .i64 t385)) (fun _ hk => hk.2) (.int .i64 t386)) (fun _ hk => hk.2) (.slice Ao36 t387.length co36)) (fun _ hk => trivial), by repeat (first | (with_reducible first | exact HB.out | apply below_alloc | apply pw_below_drewN | apply below_drew1 | refine below_set ?_ GE367.out | refine below_set ?_ GE383.out) | exact HB.out)⟩
     ·rw [if_neg c22] at H
      exact absurd H (by simp)
    ·rw [if_neg c21] at H
     have c21b0 : (t378 == 0) = false := beq_eq_false_iff_ne.mpr c21
     have c21b1 : (t378 != 0) = true := bne_iff_ne.mpr c21
     simp only [Option.some.injEq, Prod.mk.injEq] at H
     obtain ⟨rfl, rfl, rfl⟩ := H
     go_enter Try.func63, Try.ntmps63
     go_wp2_with (first | ((with_reducible refine gate_dst (N := 4) rfl ?_); refine box_event ?hg (N := 4) ?hd (cs := #[.int .i64 0, .int .i64 0, .slice none 0 0]) (t := 30) ?hr ?_; (case hd => rfl); (case hg => rfl); (case hr => first | (go_simp; done) | (go_simp; rfl)); intro gb367 hg w38 hbox hb; have n0_ := Aside0.mk (below_step (by repeat (first | (with_reducible first | exact HB.out | apply below_alloc | apply pw_below_drewN | apply below_drew1) | exact HB.out)) hb); have n1_ := Aside0.mk (hbox); have n2_ := Aside0.mk ((by rw [hg]; exact (below_size (by repeat (first | (with_reducible first | exact HB.out | apply below_alloc | apply pw_below_drewN | apply below_drew1) | exact HB.out))) : w.heap.size ≤ gb367)); have n3_ := Aside0.mk ((by rw [hg]; exact (below_size (by repeat (first | (with_reducible first | exact HB.out | apply below_alloc | apply pw_below_drewN | apply below_drew1) | exact HB.out))) : w.heap.size ≤ gb367)); clear HB; have HB := n0_; have BK367 := n1_; have GW367 := n2_; have GE367 := n3_; clear n0_ n1_ n2_ n3_; clear hb hbox hg; obtain ⟨i039, hi039, _, hsz39, _⟩ := info_parts info2; obtain ⟨A39, hcut39, hA39, hC39⟩ := print_drop_of (P := Try.prog) (Value.int .i64) 0 33 2 .i64 Try.underlying33 hi039 hsz39 A1 c1 l1 1 (by omega) (of_decide_eq_true (by first | (with_reducible assumption) | assumption)) HC1.out; have HR377 := Aside0.mk (Kd.C_of_reads (h1 := fun _ => rfl) (hA39 _ (Kd.reads_of_C HR1.out))); have HC377 := Aside0.mk hC39; clear hA39 hC39 hi039 hsz39) | ((with_reducible refine gate_callee (f := 63) rfl ?_); refine goesL_ (some 24) rfl rfl Try.func63 (by kernel_rfl) rfl #[.slice A0 l0.length c0, .slice A39 (l1.drop 1).length (c1 - 1)] rfl (by (try simp only [List.map_toArray, List.map_cons, List.map_nil]); first | done | (rw [show (l1.drop 1).length = (l1.length - 1) from List.length_drop] <;> rfl) | rfl | (simp only [List.length_drop, List.length_take]; rfl)) ?_; (with_reducible refine (ih k (by omega) _ _ l0 _ _ (l1.drop 1) t378 t379 t380 _ ?side1 ?side2 ?side3 ?side4 A20.out).mono ?_); (case side1 => repeat (first | exact (Kd.C_below HR0.out HB.out) | (with_reducible refine Kd.C_alloc ?_ _) | (with_reducible refine Kd.C_drewN ?_ _) | (with_reducible refine Kd.C_drew ?_))); (case side2 => exact HC0.out); (case side3 => repeat (first | exact (Kd.C_below HR377.out HB.out) | (with_reducible refine Kd.C_alloc ?_ _) | (with_reducible refine Kd.C_drewN ?_ _) | (with_reducible refine Kd.C_drew ?_))); (case side4 => exact HC377.out); rintro e w40 ⟨v381, rfl, ho0, hb⟩; refine ⟨_, rfl, ?_⟩; have n0_ := Aside0.mk (Kd.R_lower ho0 (below_size (by repeat (first | (with_reducible first | exact HB.out | apply below_alloc | apply pw_below_drewN | apply below_drew1 | refine below_set ?_ GE367.out) | exact HB.out)))); have n1_ := Aside0.mk (blk_below (g := gb367) (o := .cells #[.int .i64 0, .int .i64 0, .slice none 0 0] 30 (0, 0)) (by (with_reducible repeat (first | refine blk_drewN ?_ _ | refine blk_drew ?_ | refine blk_alloc ?_ _)); exact BK367.out) hb); have n2_ := Aside0.mk (below_step (by repeat (first | (with_reducible first | exact HB.out | apply below_alloc | apply pw_below_drewN | apply below_drew1 | refine below_set ?_ GE367.out) | exact HB.out)) hb); clear BK367; clear HB; have HO382 := n0_; have BK367 := n1_; have HB := n2_; clear n0_ n1_ n2_; (try clear hb); (try clear hb2); (try clear hk); (try clear hi); (try clear ho0)) | ((with_reducible refine gate_dst (N := 5) rfl ?_); refine box_event ?hg (N := 5) ?hd (cs := #[.int .i64 0, .int .i64 0, .slice none 0 0]) (t := 30) ?hr ?_; (case hd => rfl); (case hg => rfl); (case hr => first | (go_simp; done) | (go_simp; rfl)); intro gb383 hg w41 hbox hb; have n0_ := Aside0.mk (Kd.R_below (by (with_reducible repeat (first | apply Kd.R_alloc | apply Kd.R_drewN | apply Kd.R_drew)); exact HO382.out) hb); have n1_ := Aside0.mk (blk_below (g := gb367) (o := .cells #[.int .i64 0, .int .i64 0, .slice none 0 0] 30 (0, 0)) (by (with_reducible repeat (first | refine blk_drewN ?_ _ | refine blk_drew ?_ | refine blk_alloc ?_ _)); exact BK367.out) hb); have n2_ := Aside0.mk (below_step (by repeat (first | (with_reducible first | exact HB.out | apply below_alloc | apply pw_below_drewN | apply below_drew1 | refine below_set ?_ GE367.out) | exact HB.out)) hb); have n3_ := Aside0.mk (hbox); have n4_ := Aside0.mk ((by rw [hg]; exact (below_size (by repeat (first | (with_reducible first | exact HB.out | apply below_alloc | apply pw_below_drewN | apply below_drew1 | refine below_set ?_ GE367.out) | exact HB.out))) : w.heap.size ≤ gb383)); have n5_ := Aside0.mk ((by rw [hg]; exact (below_size (by repeat (first | (with_reducible first | exact HB.out | apply below_alloc | apply pw_below_drewN | apply below_drew1 | refine below_set ?_ GE367.out) | exact HB.out))) : w.heap.size ≤ gb383)); have n6_ := Aside0.mk ((by rw [hg]; exact Nat.ne_of_lt (blk_lt (g := gb367) (o := .cells #[.int .i64 0, .int .i64 0, .slice none 0 0] 30 (0, 0)) (by (with_reducible repeat (first | refine blk_drewN ?_ _ | refine blk_drew ?_ | refine blk_alloc ?_ _)); exact BK367.out)) : gb367 ≠ gb383)); have n7_ := Aside0.mk ((by rw [hg]; exact Nat.ne_of_gt (blk_lt (g := gb367) (o := .cells #[.int .i64 0, .int .i64 0, .slice none 0 0] 30 (0, 0)) (by (with_reducible repeat (first | refine blk_drewN ?_ _ | refine blk_drew ?_ | refine blk_alloc ?_ _)); exact BK367.out)) : gb383 ≠ gb367)); clear HO382; clear BK367; clear HB; have HO382 := n0_; have BK367 := n1_; have HB := n2_; have BK383 := n3_; have GW383 := n4_; have GE383 := n5_; have NB367_383 := n6_; have NB383_367 := n7_; clear n0_ n1_ n2_ n3_ n4_ n5_ n6_ n7_; clear hb hbox hg; have hnb42 := NB383_367.out; have hnc42 := NB367_383.out; have hcz43_0 : w41.cell? ⟨gb383, 0, none⟩ = some (.int .i64 0) := (blk_cell BK383.out 0).trans rfl; have hcz43_1 : w41.cell? ⟨gb383, 1, none⟩ = some (.int .i64 0) := (blk_cell BK383.out 1).trans rfl; have hcz43_2 : w41.cell? ⟨gb383, 2, none⟩ = some (.slice none 0 0) := (blk_cell BK383.out 2).trans rfl; have hfz43_0 := blk_frozen BK383.out 0; have hfz43_1 := blk_frozen BK383.out 1; have hfz43_2 := blk_frozen BK383.out 2; obtain ⟨Ao44, co44, eo44⟩ := Kd.R_slice HO382.out; subst eo44; have hcz45_0 : w41.cell? ⟨gb367, 0, none⟩ = some (.int .i64 0) := (blk_cell BK367.out 0).trans rfl; have hcz45_1 : w41.cell? ⟨gb367, 1, none⟩ = some (.int .i64 0) := (blk_cell BK367.out 1).trans rfl; have hcz45_2 : w41.cell? ⟨gb367, 2, none⟩ = some (.slice none 0 0) := (blk_cell BK367.out 2).trans rfl; have hfz45_0 := blk_frozen BK367.out 0; have hfz45_1 := blk_frozen BK367.out 1; have hfz45_2 := blk_frozen BK367.out 2))
     refine bodyPost_ret (results_cell_row rfl _ _ gb367 30 #[.int .i64 t378, .int .i64 t379, .slice Ao44 t380.length co44] (0, 0) _ rfl (by (with_reducible repeat (first | refine blk_drewN ?_ _ | refine blk_drew ?_ | refine blk_alloc ?_ _)); refine blk_put (cs := #[.int .i64 t378, .int .i64 t379, .slice none 0 0]) ?_ 2 _ rfl; (with_reducible repeat (first | refine blk_drewN ?_ _ | refine blk_drew ?_ | refine blk_alloc ?_ _)); refine blk_put (cs := #[.int .i64 t378, .int .i64 0, .slice none 0 0]) ?_ 1 _ rfl; (with_reducible repeat (first | refine blk_drewN ?_ _ | refine blk_drew ?_ | refine blk_alloc ?_ _)); refine blk_put (cs := #[.int .i64 0, .int .i64 0, .slice none 0 0]) ?_ 0 _ rfl; (with_reducible repeat (first | refine blk_drewN ?_ _ | refine blk_drew ?_ | refine blk_alloc ?_ _)); refine blk_far ?_ NB367_383.out _; (with_reducible repeat (first | refine blk_drewN ?_ _ | refine blk_drew ?_ | refine blk_alloc ?_ _)); refine blk_far ?_ NB367_383.out _; (with_reducible repeat (first | refine blk_drewN ?_ _ | refine blk_drew ?_ | refine blk_alloc ?_ _)); refine blk_far ?_ NB367_383.out _; (with_reducible repeat (first | refine blk_drewN ?_ _ | refine blk_drew ?_ | refine blk_alloc ?_ _)); exact BK367.out) Try.underlying30 rfl (by kernel_rfl)) rfl ?_
     exact ⟨_, by first | rfl | (simp [errW_none, errW_some] <;> rfl) | (simp [*, errW_none, errW_some] <;> rfl), by (with_reducible repeat (first | apply Kd.R_alloc | apply Kd.R_drewN | apply Kd.R_drew)); exact Kd.R_mono (Kd.R_far (p := ⟨gb367, 2, none⟩) (Kd.R_far (p := ⟨gb367, 1, none⟩) (Kd.R_far (p := ⟨gb367, 0, none⟩) (Kd.R_far (p := ⟨gb383, 2, none⟩) (Kd.R_far (p := ⟨gb383, 1, none⟩) (Kd.R_far (p := ⟨gb383, 0, none⟩) (Kd.R_types (Kd.R_types HO382.out BK383.out (by decide)) BK367.out (by decide)) (fun _ hk => hk.1.2) (.int .i64 t378)) (fun _ hk => hk.1.2) (.int .i64 t379)) (fun _ hk => hk.1.2) (.slice Ao44 t380.length co44)) (fun _ hk => hk.2) (.int .i64 t378)) (fun _ hk => hk.2) (.int .i64 t379)) (fun _ hk => hk.2) (.slice Ao44 t380.length co44)) (fun _ hk => trivial), by repeat (first | (with_reducible first | exact HB.out | apply below_alloc | apply pw_below_drewN | apply below_drew1 | refine below_set ?_ GE367.out | refine below_set ?_ GE383.out) | exact HB.out)⟩
   ·rw [if_neg c19] at H
    exact absurd H (by simp)
end Go.Proofs.Ytomaeijhljpgdaa.G
