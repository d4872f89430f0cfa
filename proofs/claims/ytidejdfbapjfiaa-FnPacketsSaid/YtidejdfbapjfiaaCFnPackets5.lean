/- Part 5 of the proof of FnPackets: what the functions on its road do, and the plain laws. -/
import Derived.Test.YtidejdfbapjfiaaCFnPackets4
import Derived.Laws.CopyOwn
namespace Go.Proofs.Ytidejdfbapjfiaa.G
open Go.RowKit Go.Proofs.YtidejdfbapjfiaaW.PrintWords Go.Proofs.YtidejdfbapjfiaaW.PrintLast Go.Proofs.YtidejdfbapjfiaaW.PrintMore
attribute [local go_sem] max2_int min2_int max_two min_two max_three min_three max_four min_four   -- for this text's walks alone
set_option linter.unusedVariables false
set_option linter.unusedSimpArgs false
def spec_l2Wire.j0 : Nat → List Int → Int → Int → Int → Int → Int → Int → Int → List Int → Option (List Int × Int)
 | 0, _, _, _, _, _, _, _, _, _ => none
 | k + 1, x1000, x1001, x803000, x803001, x803002, x803003, x803004, x803005, x803006 => (spec_l2Build.f k x803000 x803001 x803002 x803003 x803004 x803005 x803006).bind fun t808 => ((spec_l1Chance.f x1000 x1001 3).bind fun bt811 => (if bt811.1 = true then ((spec_l1Next.f x1000 bt811.2 (t808.length : Int)).bind fun bt813 => ((spec_l1Next.f x1000 bt813.2 6).bind fun bt815 => (if bt815.1 = 0 then ((spec_l1Next.f x1000 bt815.2 256).bind fun bt817 => (if 0 ≤ bt813.1 then (if bt813.1 < (t808.length : Int) then (some ((t808.set (bt813.1 : Int).toNat ((bt817.1) % 256)), bt817.2)) else (none)) else (none))) else (if bt815.1 = 1 then (if 0 ≤ bt813.1 then (if bt813.1 ≤ (t808.length : Int) then (some ((t808.take (bt813.1 : Int).toNat), bt815.2)) else (none)) else (none)) else (if bt815.1 = 2 then (if t808.length < 140737488355328 then (some ((t808 ++ [0]), bt815.2)) else (none)) else (if bt815.1 = 3 then ((spec_l1Next.f x1000 bt815.2 10).bind fun bt826 => ((spec_l1Next.f x1000 bt826.2 3).bind fun bt828 => (if 0 ≤ bt826.1 then (if bt826.1 < (t808.length : Int) then (if 10 < (t808.length : Int) then (if 11 < (t808.length : Int) then ((some (((t808.set (bt826.1 : Int).toNat ((bt828.1) % 256)).set (10 : Int).toNat 0).set (11 : Int).toNat 0 : List Int)).bind fun y832 => (if 20 ≤ (t808.length : Int) then ((spec_SumWords.f k (y832.take 20)).bind fun t837 => (some (((y832.set (10 : Int).toNat ((wrap64 (Int.tdiv t837 256)) % 256)).set (11 : Int).toNat ((Int.tmod t837 256) % 256)), bt828.2))) else (none))) else (none)) else (none)) else (none)) else (none)))) else (if bt815.1 = 4 then (if t808.length + 200 < 140737488355328 then (some ((t808 ++ List.replicate 200 0), bt815.2)) else (none)) else (some (t808, bt815.2))))))))) else (some (t808, bt811.2))))
def spec_l2Wire.f (k : Nat) (s0_0 : List Int) (s0_1 : Int) : Option (List Int × Int) := (spec_l2Packet.f k s0_0 s0_1).bind fun bt792 => ((spec_l1Chance.f s0_0 bt792.2.2.2.2.2.2.2 20).bind fun bt803 => (if bt803.1 = true then (if 200 ≤ 281474976710656 then (spec_l2Wire.j0 k s0_0 bt803.2 bt792.1 bt792.2.1 bt792.2.2.1 bt792.2.2.2.1 bt792.2.2.2.2.1 bt792.2.2.2.2.2.1 (List.replicate 200 0)) else (none)) else (spec_l2Wire.j0 k s0_0 bt803.2 bt792.1 bt792.2.1 bt792.2.2.1 bt792.2.2.2.1 bt792.2.2.2.2.1 bt792.2.2.2.2.2.1 bt792.2.2.2.2.2.2.1)))
set_option maxHeartbeats 8000000 in
set_option maxRecDepth 100000 in
theorem spec_l2Wire.calls (k : Nat) (g : Nat) (s0_0 : List Int) (s0_1 : Int) (r1 : List Int) (r2 : Int) (w0 w : World) (hI : IsS70 w0 w g s0_0 s0_1) (hB : Below w0.heap.size w0 w) (h : spec_l2Wire.f k s0_0 s0_1 = some (r1, r2)) :
  Calls Try.prog 65 #[.pointer (some ⟨g, 0, none⟩)] w fun e w' => ∃ v0_ : Value, e = .returned (v0_) ∧ Kd.R (Kd.int .u8) 5 w' w.heap.size (fun _ => True) v0_ r1 ∧ IsS70 w0 w' g s0_0 r2 ∧ Below w0.heap.size w0 w' ∧ KeepBut w w' g none := by
 have hu34 := Try.underlying34
 have HI0 := Aside0.mk hI
 have HK := Aside0.mk (KeepBut.refl w g none)
 have HL := Aside0.mk hB.size
 clear hI
 have HW0 := Aside0.mk hB.size
 have HB := Aside0.mk hB
 clear hB
 have H : ((spec_l2Packet.f k s0_0 s0_1).bind fun bt792 => ((spec_l1Chance.f s0_0 bt792.2.2.2.2.2.2.2 20).bind fun bt803 => (if bt803.1 = true then (if 200 ≤ 281474976710656 then (spec_l2Wire.j0 k s0_0 bt803.2 bt792.1 bt792.2.1 bt792.2.2.1 bt792.2.2.2.1 bt792.2.2.2.2.1 bt792.2.2.2.2.2.1 (List.replicate 200 0)) else (none)) else (spec_l2Wire.j0 k s0_0 bt803.2 bt792.1 bt792.2.1 bt792.2.2.1 bt792.2.2.2.1 bt792.2.2.2.2.1 bt792.2.2.2.2.2.1 bt792.2.2.2.2.2.2.1)))) = some (r1, r2) := h
 clear h
 replace H := Option.bind_eq_some_iff.mp H
 obtain ⟨⟨t792, t793, t794, t795, t796, t797, t798, t801⟩, bv, H⟩ := H
 try dsimp only at H
 have A2 := Aside0.mk bv
 clear bv
 replace H := Option.bind_eq_some_iff.mp H
 obtain ⟨⟨t803, t804⟩, bw, H⟩ := H
 try dsimp only at H
 have A3 := Aside0.mk bw
 clear bw
 have au := Aside0.mk H
 clear H
 go_enter Try.func65, Try.ntmps65
 go_upto_if 10 with (first | ((with_reducible refine gate_callee (f := 75) rfl ?_); refine goesA_ (some 8) rfl rfl Try.func75 (by kernel_rfl) rfl #[.pointer (some ⟨g, 0, none⟩)] rfl ?_; (with_reducible refine (spec_l2Packet.calls k g s0_0 s0_1 t792 t793 t794 t795 t796 t797 t798 t801 w0 _ ?side1 ?side2 A2.out).mono ?_); (case side1 => repeat (first | (with_reducible first | exact HI0.out | apply IsS70.alloc | apply IsS70.drewN | apply IsS70.drew | apply IsS70.set_1) | exact HI0.out)); (case side2 => repeat (first | (with_reducible first | exact HB.out | apply lA1_ | apply lN_ | apply lD_ | refine lS1_ ?_ (IsS70.ge HI0.out)) | exact HB.out)); rintro e w5 ⟨v799, rfl, ho0, hi, hb, hk⟩; refine ⟨_, rfl, ?_⟩; have n0_ := Aside0.mk (Kd.R_lower ho0 (keep_size (w := w) (g := g) (row := none) (by repeat (first | (with_reducible first | exact HK.out | apply KeepBut.set_ | apply kN_ | apply kD_ | apply kA_) | exact HK.out)))); have n1_ := Aside0.mk (KeepBut.trans (by repeat (first | (with_reducible first | exact HK.out | apply KeepBut.set_ | apply kN_ | apply kD_ | apply kA_) | exact HK.out)) hk (.inl rfl)); have n2_ := Aside0.mk (hb); have n3_ := Aside0.mk (hi); clear HK HB HI0; have a9 := n0_; have HK := n1_; have HB := n2_; have HI0 := n3_; clear n0_ n1_ n2_ n3_; (try clear hb); (try clear hb2); (try clear hk); (try clear hi); (try clear ho0)) | ((with_reducible refine gate_dst (N := 3) rfl ?_); refine box_event ?hg (N := 3) ?hd (cs := zs6) (t := 34) ?hr ?_; (case hd => rfl); (case hg => rfl); (case hr => first | (go_simp; done) | (go_simp; rfl)); intro a8 hg w6 hbox hb; have n0_ := Aside0.mk (Kd.R_below (by (with_reducible repeat first | apply rA_ | apply rN_ | apply rD_); exact a9.out) hb); have n1_ := Aside0.mk (IsS70.below (by repeat (first | (with_reducible first | exact HI0.out | apply IsS70.alloc | apply IsS70.drewN | apply IsS70.drew | apply IsS70.set_1) | exact HI0.out)) hb); have n2_ := Aside0.mk (KeepBut.trans (by repeat (first | (with_reducible first | exact HK.out | apply KeepBut.set_ | apply kN_ | apply kD_ | apply kA_) | exact HK.out)) (KeepBut.of_below hb g none) (.inl rfl)); have n3_ := Aside0.mk (lP_ (by repeat (first | (with_reducible first | exact HB.out | apply lA1_ | apply lN_ | apply lD_ | refine lS1_ ?_ (IsS70.ge HI0.out)) | exact HB.out)) hb); have n4_ := Aside0.mk (hbox); have n5_ := Aside0.mk ((by rw [hg]; exact (keep_size (w := w) (g := g) (row := none) (by repeat (first | (with_reducible first | exact HK.out | apply KeepBut.set_ | apply kN_ | apply kD_ | apply kA_) | exact HK.out))) : w.heap.size ≤ a8)); have n6_ := Aside0.mk ((Nat.le_trans HW0.out (by rw [hg]; exact (keep_size (w := w) (g := g) (row := none) (by repeat (first | (with_reducible first | exact HK.out | apply KeepBut.set_ | apply kN_ | apply kD_ | apply kA_) | exact HK.out))) : w.heap.size ≤ a8) : w0.heap.size ≤ a8)); have n7_ := Aside0.mk ((by rw [hg]; exact Nat.ne_of_lt (IsS70.lt (show IsS70 w0 _ g s0_0 t801 from by repeat (first | (with_reducible first | exact HI0.out | apply IsS70.alloc | apply IsS70.drewN | apply IsS70.drew | apply IsS70.set_1) | exact HI0.out))) : g ≠ a8)); have n8_ := Aside0.mk ((by rw [hg]; exact Nat.ne_of_gt (IsS70.lt (show IsS70 w0 _ g s0_0 t801 from by repeat (first | (with_reducible first | exact HI0.out | apply IsS70.alloc | apply IsS70.drewN | apply IsS70.drew | apply IsS70.set_1) | exact HI0.out))) : a8 ≠ g)); clear a9 HI0 HK HB; have a9 := n0_; have HI0 := n1_; have HK := n2_; have HB := n3_; have a3 := n4_; have a4 := n5_; have a5 := n6_; have a2 := n7_; have a6 := n8_; clear n0_ n1_ n2_ n3_ n4_ n5_ n6_ n7_ n8_ hb hbox hg; have cx := a6.out; have cy := a2.out; obtain ⟨_, _, _, _, _, _, _, _, _, _, _, _, _, _⟩ := bc7 a3.out; obtain ⟨am, an, eo9⟩ := Kd.R_slice a9.out; subst eo9) | ((with_reducible refine gate_callee (f := 41) rfl ?_); refine goesA_ (some 10) rfl rfl Try.func41 (by kernel_rfl) rfl #[.pointer (some ⟨g, 0, none⟩), .int .i64 20] rfl ?_; (with_reducible refine (spec_l1Chance.calls g s0_0 t801 20 t803 t804 w0 _ ?side1 ?side2 A3.out).mono ?_); (case side1 => repeat (first | (with_reducible first | exact HI0.out | apply IsS70.alloc | apply IsS70.drewN | apply IsS70.drew | apply IsS70.set_1 | refine IsS70.far ?_ a2.out _) | exact HI0.out)); (case side2 => repeat (first | (with_reducible first | exact HB.out | apply lA1_ | apply lN_ | apply lD_ | refine lS1_ ?_ (IsS70.ge HI0.out) | refine lS1_ ?_ a5.out) | exact HB.out)); rintro e w10 ⟨rfl, hi, hb, hk⟩; refine ⟨_, rfl, ?_⟩; have n0_ := Aside0.mk (Kd.R_mono (Kd.R_keep (IsS70.apart (show IsS70 w0 _ g s0_0 t801 from by repeat (first | (with_reducible first | exact HI0.out | apply IsS70.alloc | apply IsS70.drewN | apply IsS70.drew | apply IsS70.set_1 | refine IsS70.far ?_ a2.out _) | exact HI0.out)) (by (with_reducible repeat first | apply rA_ | apply rN_ | apply rD_); exact (Kd.R_mono (rfar7 (g := a8) (Kd.R_types a9.out a3.out (by decide)) (fun _ hk => hk.2)) (fun _ h_ => h_.1))) (by decide)) hk (fun _ h => h.2)) (fun _ h => h.1)); have n1_ := Aside0.mk (KeepBut.blk hk (g' := a8) (o := .cells #[.int .i64 t792, .int .i64 t793, .int .i64 t794, .int .i64 t795, .int .i64 t796, .int .i64 t797, .slice am t798.length an] 34 (0, 0)) (by (with_reducible repeat first | apply bN_ | apply bD_ | apply bA_); apply fill7; (with_reducible repeat first | apply bN_ | apply bD_ | apply bA_); exact a3.out) a6.out (by simp)); have n2_ := Aside0.mk (KeepBut.trans (by repeat (first | (with_reducible first | exact HK.out | apply KeepBut.set_ | apply kN_ | apply kD_ | apply kA_ | refine kF_ ?_ a4.out _) | exact HK.out)) hk (.inl rfl)); have n3_ := Aside0.mk (hb); have n4_ := Aside0.mk (hi); clear a9 a3 HK HB HI0; have a9 := n0_; have a3 := n1_; have HK := n2_; have HB := n3_; have HI0 := n4_; clear n0_ n1_ n2_ n3_ n4_; (try clear hb); (try clear hb2); (try clear hk); (try clear hi)))
 (try simp only [Act.put, lA_, lZ_, lS_])
 go_cut [] (fun wc => ∃ (kq : Nat) (x803006_3 : List Int) (u803006 : Value), Aside0 (spec_l2Wire.j0 kq s0_0 t804 t792 t793 t794 t795 t796 t797 x803006_3 = some (r1, r2)) ∧ Aside0 (kq ≤ k) ∧ Aside0 (Kd.R (Kd.int .u8) 5 wc w.heap.size (fun _ => True) u803006 x803006_3) ∧ Aside0 (wc.heap[a8]? = some (.cells #[.int .i64 t792, .int .i64 t793, .int .i64 t794, .int .i64 t795, .int .i64 t796, .int .i64 t797, u803006] 34 (0, 0))) ∧ Aside0 (IsS70 w0 wc g s0_0 t804) ∧ Aside0 (KeepBut w wc g none) ∧ Aside0 (Below w0.heap.size w0 wc))
 case first =>
  have H := au.out
  clear au
  by_cases c11 : t803 = true
  ·subst c11
   rw [if_pos rfl] at H
   by_cases c12 : 200 ≤ 281474976710656
   ·rw [if_pos c12] at H
    have c12b0 := eq_true c12
    have c12b1 : decide (200 ≤ 281474976710656) = true := decide_eq_true c12
    clear c12
    obtain ⟨y805, hy805⟩ : ∃ y_ : List Int, y_ = (List.replicate 200 0) := ⟨_, rfl⟩
    replace H : (spec_l2Wire.j0 k s0_0 t804 t792 t793 t794 t795 t796 t797 y805) = some (r1, r2) := by first | (rw [hy805]; with_reducible exact H) | (have H2_ := (Option.bind_some _ _).symm.trans H; rw [hy805]; with_reducible exact H2_) | (have H2_ := (Option.bind_some _ _).symm.trans H; with_reducible exact H2_) | with_reducible exact H | (rw [hy805]; exact H) | exact H
    have ao := Aside0.mk hy805
    clear hy805
    have H' := Aside0.mk H
    clear H
    go_wp2_with (first | ((with_reducible refine gate_dst (N := 11) rfl ?_); refine Kd.R_make (Kd.int .u8) _ 5 rfl (N := 11) rfl 22 _ _ rfl 200 rfl rfl Try.underlying22 (.int .u8 0) 1 info5 rfl (by decide) (by omega) 0 (ok := fun _ => True) (okp := fun _ => True) rfl (fun _ hk => hk) trivial (by omega) (by omega) (Below.refl _ _) (Nat.le_refl _) ?_; intro v806 w13 ho14 hb hg_ hnew_; clear hg_ hnew_; (first | rw [← ao.out] at ho14 | (simp only [Int.reduceToNat] at ho14; rw [← ao.out] at ho14)); have n1_ := Aside0.mk (Kd.R_lower (Kd.R_new' ho14 (Kd.R_lt (by (with_reducible repeat first | apply rA_ | apply rN_ | apply rD_); exact a9.out))) (keep_size (w := w) (g := g) (row := none) (by repeat (first | (with_reducible first | exact HK.out | apply KeepBut.set_ | apply kN_ | apply kD_ | apply kA_ | refine kF_ ?_ a4.out _) | exact HK.out)))); have n2_ := Aside0.mk (IsS70.below (by repeat (first | (with_reducible first | exact HI0.out | apply IsS70.alloc | apply IsS70.drewN | apply IsS70.drew | apply IsS70.set_1 | refine IsS70.far ?_ a2.out _) | exact HI0.out)) hb); have n3_ := Aside0.mk (bB_ (g := a8) (o := .cells #[.int .i64 t792, .int .i64 t793, .int .i64 t794, .int .i64 t795, .int .i64 t796, .int .i64 t797, .slice am t798.length an] 34 (0, 0)) (by (with_reducible repeat first | apply bN_ | apply bD_ | apply bA_); exact a3.out) hb); have n4_ := Aside0.mk (KeepBut.trans (by repeat (first | (with_reducible first | exact HK.out | apply KeepBut.set_ | apply kN_ | apply kD_ | apply kA_ | refine kF_ ?_ a4.out _) | exact HK.out)) (KeepBut.of_below hb g none) (.inl rfl)); have n5_ := Aside0.mk (lP_ (by repeat (first | (with_reducible first | exact HB.out | apply lA1_ | apply lN_ | apply lD_ | refine lS1_ ?_ (IsS70.ge HI0.out) | refine lS1_ ?_ a5.out) | exact HB.out)) hb); clear HI0 a3 HK HB; have ap := n1_; have HI0 := n2_; have a3 := n3_; have HK := n4_; have HB := n5_; clear n1_ n2_ n3_ n4_ n5_ hb ho14; obtain ⟨av, aw, eo15⟩ := Kd.R_slice ap.out; subst eo15; have ci := a6.out; have cj := a2.out; obtain ⟨_, _, _, _, _, _, _, _, _, _, _, _, _, _⟩ := bc7 a3.out))
    go_meet
    case rel => exact ⟨_, (y805), (.slice av y805.length aw), H', ⟨by first | omega | exact Nat.le_refl _⟩, ⟨by (with_reducible repeat first | apply rA_ | apply rN_ | apply rD_); exact Kd.R_mono (Kd.R_far (p := ⟨a8, 6, none⟩) (Kd.R_types ap.out a3.out (by decide)) (fun _ hk => hk.2) (.slice av y805.length aw)) (fun _ hk => trivial)⟩, ⟨by (with_reducible repeat first | apply bN_ | apply bD_ | apply bA_); refine blk_put (cs := #[.int .i64 t792, .int .i64 t793, .int .i64 t794, .int .i64 t795, .int .i64 t796, .int .i64 t797, .slice am t798.length an]) ?_ 6 _ rfl; (with_reducible repeat first | apply bN_ | apply bD_ | apply bA_); exact a3.out⟩, ⟨by repeat (first | (with_reducible first | exact HI0.out | apply IsS70.alloc | apply IsS70.drewN | apply IsS70.drew | apply IsS70.set_1 | refine IsS70.far ?_ a2.out _) | exact HI0.out)⟩, ⟨by repeat (first | (with_reducible first | exact HK.out | apply KeepBut.set_ | apply kN_ | apply kD_ | apply kA_ | refine kF_ ?_ a4.out _) | exact HK.out)⟩, ⟨by repeat (first | (with_reducible first | exact HB.out | apply lA1_ | apply lN_ | apply lD_ | refine lS1_ ?_ (IsS70.ge HI0.out) | refine lS1_ ?_ a5.out) | exact HB.out)⟩⟩
   ·rw [if_neg c12] at H
    exact absurd H (by simp)
  ·replace c11 := Bool.eq_false_iff.mpr c11
   subst c11
   rw [if_neg (show ¬ (false = true) by decide)] at H
   have H' := Aside0.mk H
   clear H
   go_wp2
   go_meet
   case rel => exact ⟨_, (t798), (.slice am t798.length an), H', ⟨by first | omega | exact Nat.le_refl _⟩, ⟨by (with_reducible repeat first | apply rA_ | apply rN_ | apply rD_); exact a9.out⟩, ⟨by (with_reducible repeat first | apply bN_ | apply bD_ | apply bA_); exact a3.out⟩, ⟨by repeat (first | (with_reducible first | exact HI0.out | apply IsS70.alloc | apply IsS70.drewN | apply IsS70.drew | apply IsS70.set_1 | refine IsS70.far ?_ a2.out _) | exact HI0.out)⟩, ⟨by repeat (first | (with_reducible first | exact HK.out | apply KeepBut.set_ | apply kN_ | apply kD_ | apply kA_ | refine kF_ ?_ a4.out _) | exact HK.out)⟩, ⟨by repeat (first | (with_reducible first | exact HB.out | apply lA1_ | apply lN_ | apply lD_ | refine lS1_ ?_ (IsS70.ge HI0.out) | refine lS1_ ?_ a5.out) | exact HB.out)⟩⟩
 case rest =>
  clear au
  try clear c1
  try clear p2
  try clear c4
  try clear c6
  try clear c7
  try clear c11
  try clear c12
  try clear c12b0
  try clear c12b1
  try clear c16
  try clear hcz17_0
  try clear hcz17_1
  try clear hcz17_2
  try clear hcz17_3
  try clear hcz17_4
  try clear hcz17_5
  try clear hcz17_6
  try clear hcz8_0
  try clear hcz8_1
  try clear hcz8_2
  try clear hcz8_3
  try clear hcz8_4
  try clear hcz8_5
  try clear hcz8_6
  try clear hfz17_0
  try clear hfz17_1
  try clear hfz17_2
  try clear hfz17_3
  try clear hfz17_4
  try clear hfz17_5
  try clear hfz17_6
  try clear hfz8_0
  try clear hfz8_1
  try clear hfz8_2
  try clear hfz8_3
  try clear hfz8_4
  try clear hfz8_5
  try clear hfz8_6
  obtain ⟨kq, x803006_3, u803006, HA, HJ3, a0, a3, HI0, HK, HB⟩ := hcut
  cases kq with
  | zero => exact absurd HA.out (by simp [spec_l2Wire.j0])
  | succ kj3 =>
   have H := HA.out
   clear HA
   simp only [spec_l2Wire.j0] at H
   replace H := Option.bind_eq_some_iff.mp H
   obtain ⟨t808, ax, H⟩ := H
   try dsimp only at H
   have ad := Aside0.mk ax
   clear ax
   replace H := Option.bind_eq_some_iff.mp H
   obtain ⟨⟨t811, t812⟩, ay, H⟩ := H
   try dsimp only at H
   have ae := Aside0.mk ay
   clear ay
   by_cases c20 : t811 = true
   ·subst c20
    rw [if_pos rfl] at H
    replace H := Option.bind_eq_some_iff.mp H
    obtain ⟨⟨t813, t814⟩, az, H⟩ := H
    try dsimp only at H
    have ag := Aside0.mk az
    clear az
    replace H := Option.bind_eq_some_iff.mp H
    obtain ⟨⟨t815, t816⟩, b0, H⟩ := H
    try dsimp only at H
    have ah := Aside0.mk b0
    clear b0
    by_cases c23 : t815 = 0
    ·rw [if_pos c23] at H
     have c23b0 : (t815 == 0) = true := beq_iff_eq.mpr c23
     have c23b1 : (t815 != 0) = false := bne_eq_false_iff_eq.mpr c23
     clear c23
     replace H := Option.bind_eq_some_iff.mp H
     obtain ⟨⟨t817, t818⟩, b1, H⟩ := H
     try dsimp only at H
     have ca := Aside0.mk b1
     clear b1
     by_cases c25 : 0 ≤ t813
     ·rw [if_pos c25] at H
      have c25b0 : decide (0 ≤ t813) = true := decide_eq_true c25
      clear c25
      by_cases c26 : t813 < (t808.length : Int)
      ·rw [if_pos c26] at H
       have c26b0 : decide (t813 < (t808.length : Int)) = true := decide_eq_true c26
       clear c26
       obtain ⟨y819, hy819⟩ : ∃ y_ : List Int, y_ = (t808.set (t813 : Int).toNat ((t817) % 256)) := ⟨_, rfl⟩
       replace H : (some (y819, t818)) = some (r1, r2) := by first | (rw [hy819]; with_reducible exact H) | (have H2_ := (Option.bind_some _ _).symm.trans H; rw [hy819]; with_reducible exact H2_) | (have H2_ := (Option.bind_some _ _).symm.trans H; with_reducible exact H2_) | with_reducible exact H | (rw [hy819]; exact H) | exact H
       have bb := Aside0.mk hy819
       clear hy819
       simp only [Option.some.injEq, Prod.mk.injEq] at H
       obtain ⟨rfl, rfl⟩ := H
       have ck := a6.out
       have cl := a2.out
       obtain ⟨_, _, _, _, _, _, _, _, _, _, _, _, _, _⟩ := bc7 a3.out
       obtain ⟨ak, al, eo30⟩ := Kd.R_slice a0.out
       subst eo30
       go_wp2_with (first | ((with_reducible refine gate_callee (f := 61) rfl ?_); refine goesA_ (some 14) rfl rfl Try.func61 (by kernel_rfl) rfl #[.agg #[.int .i64 t792, .int .i64 t793, .int .i64 t794, .int .i64 t795, .int .i64 t796, .int .i64 t797, .slice ak x803006_3.length al]] rfl ?_; (with_reducible refine (spec_l2Build.calls kj3 t792 t793 t794 t795 t796 t797 _ _ x803006_3 t808 _ ?side1 ?side2 ad.out).mono ?_); (case side1 => repeat (first | exact (Kd.R_reads' a0.out).2.2 | (with_reducible refine Kd.C_alloc ?_ _) | (with_reducible refine Kd.C_drewN ?_ _) | (with_reducible refine Kd.C_drew ?_))); (case side2 => exact (Kd.R_reads' a0.out).2.1); rintro e w31 ⟨v809, rfl, ho0, hb⟩; refine ⟨_, rfl, ?_⟩; have n1_ := Aside0.mk (Kd.R_lower (Kd.R_new' ho0 (Kd.R_lt a0.out)) (keep_size (w := w) (g := g) (row := none) (by repeat (first | (with_reducible first | exact HK.out | apply KeepBut.set_ | refine kF_ ?_ a4.out _) | exact HK.out)))); have n3_ := Aside0.mk (IsS70.below (by repeat (first | (with_reducible first | exact HI0.out | apply IsS70.set_1 | refine IsS70.far ?_ a2.out _) | exact HI0.out)) hb); have n4_ := Aside0.mk (KeepBut.trans (by repeat (first | (with_reducible first | exact HK.out | apply KeepBut.set_ | refine kF_ ?_ a4.out _) | exact HK.out)) (KeepBut.of_below hb g none) (.inl rfl)); have n5_ := Aside0.mk (lP_ (by repeat (first | (with_reducible first | exact HB.out | refine lS1_ ?_ (IsS70.ge HI0.out) | refine lS1_ ?_ a5.out) | exact HB.out)) hb); clear HI0 HK HB; have a1 := n1_; have HI0 := n3_; have HK := n4_; have HB := n5_; clear n1_ n3_ n4_ n5_; (try clear hb); (try clear hb2); (try clear hk); (try clear hi); (try clear ho0)) | ((with_reducible refine gate_callee (f := 41) rfl ?_); refine goesA_ (some 16) rfl rfl Try.func41 (by kernel_rfl) rfl #[.pointer (some ⟨g, 0, none⟩), .int .i64 3] rfl ?_; (with_reducible refine (spec_l1Chance.calls g s0_0 t804 3 true t812 w0 _ ?side1 ?side2 ae.out).mono ?_); (case side1 => repeat (first | (with_reducible first | exact HI0.out | apply IsS70.set_1 | refine IsS70.far ?_ a2.out _) | exact HI0.out)); (case side2 => repeat (first | (with_reducible first | exact HB.out | refine lS1_ ?_ (IsS70.ge HI0.out) | refine lS1_ ?_ a5.out) | exact HB.out)); rintro e w32 ⟨rfl, hi, hb, hk⟩; refine ⟨_, rfl, ?_⟩; have n2_ := Aside0.mk (Kd.R_mono (Kd.R_keep (IsS70.apart (show IsS70 w0 _ g s0_0 t804 from by repeat (first | (with_reducible first | exact HI0.out | apply IsS70.set_1 | refine IsS70.far ?_ a2.out _) | exact HI0.out)) a1.out (by decide)) hk (fun _ h => h.2)) (fun _ h => h.1)); have n3_ := Aside0.mk (KeepBut.trans (by repeat (first | (with_reducible first | exact HK.out | apply KeepBut.set_ | refine kF_ ?_ a4.out _) | exact HK.out)) hk (.inl rfl)); have n4_ := Aside0.mk (hb); have n5_ := Aside0.mk (hi); clear a1 HK HB HI0; have a1 := n2_; have HK := n3_; have HB := n4_; have HI0 := n5_; clear n2_ n3_ n4_ n5_; (try clear hb); (try clear hb2); (try clear hk); (try clear hi); obtain ⟨cz, bx, eo33⟩ := Kd.R_slice a1.out; subst eo33) | ((with_reducible refine gate_callee (f := 38) rfl ?_); refine goesA_ (some 22) rfl rfl Try.func38 (by kernel_rfl) rfl #[.pointer (some ⟨g, 0, none⟩), .int .i64 (t808.length : Int)] rfl ?_; (with_reducible refine (spec_l1Next.calls g s0_0 t812 (t808.length : Int) t813 t814 w0 _ ?side1 ?side2 ag.out).mono ?_); (case side1 => repeat (first | (with_reducible first | exact HI0.out | apply IsS70.set_1 | refine IsS70.far ?_ a2.out _) | exact HI0.out)); (case side2 => repeat (first | (with_reducible first | exact HB.out | refine lS1_ ?_ (IsS70.ge HI0.out) | refine lS1_ ?_ a5.out) | exact HB.out)); rintro e w34 ⟨rfl, hi, hb, hk⟩; refine ⟨_, rfl, ?_⟩; have n2_ := Aside0.mk (Kd.R_mono (Kd.R_keep (IsS70.apart (show IsS70 w0 _ g s0_0 t812 from by repeat (first | (with_reducible first | exact HI0.out | apply IsS70.set_1 | refine IsS70.far ?_ a2.out _) | exact HI0.out)) a1.out (by decide)) hk (fun _ h => h.2)) (fun _ h => h.1)); have n3_ := Aside0.mk (KeepBut.trans (by repeat (first | (with_reducible first | exact HK.out | apply KeepBut.set_ | refine kF_ ?_ a4.out _) | exact HK.out)) hk (.inl rfl)); have n4_ := Aside0.mk (hb); have n5_ := Aside0.mk (hi); clear a1 HK HB HI0; have a1 := n2_; have HK := n3_; have HB := n4_; have HI0 := n5_; clear n2_ n3_ n4_ n5_; (try clear hb); (try clear hb2); (try clear hk); (try clear hi)) | ((with_reducible refine gate_callee (f := 38) rfl ?_); refine goesA_ (some 24) rfl rfl Try.func38 (by kernel_rfl) rfl #[.pointer (some ⟨g, 0, none⟩), .int .i64 6] rfl ?_; (with_reducible refine (spec_l1Next.calls g s0_0 t814 6 t815 t816 w0 _ ?side1 ?side2 ah.out).mono ?_); (case side1 => repeat (first | (with_reducible first | exact HI0.out | apply IsS70.set_1 | refine IsS70.far ?_ a2.out _) | exact HI0.out)); (case side2 => repeat (first | (with_reducible first | exact HB.out | refine lS1_ ?_ (IsS70.ge HI0.out) | refine lS1_ ?_ a5.out) | exact HB.out)); rintro e w35 ⟨rfl, hi, hb, hk⟩; refine ⟨_, rfl, ?_⟩; have n2_ := Aside0.mk (Kd.R_mono (Kd.R_keep (IsS70.apart (show IsS70 w0 _ g s0_0 t814 from by repeat (first | (with_reducible first | exact HI0.out | apply IsS70.set_1 | refine IsS70.far ?_ a2.out _) | exact HI0.out)) a1.out (by decide)) hk (fun _ h => h.2)) (fun _ h => h.1)); have n3_ := Aside0.mk (KeepBut.trans (by repeat (first | (with_reducible first | exact HK.out | apply KeepBut.set_ | refine kF_ ?_ a4.out _) | exact HK.out)) hk (.inl rfl)); have n4_ := Aside0.mk (hb); have n5_ := Aside0.mk (hi); clear a1 HK HB HI0; have a1 := n2_; have HK := n3_; have HB := n4_; have HI0 := n5_; clear n2_ n3_ n4_ n5_; (try clear hb); (try clear hb2); (try clear hk); (try clear hi)) | ((with_reducible refine gate_callee (f := 38) rfl ?_); refine goesA_ (some 30) rfl rfl Try.func38 (by kernel_rfl) rfl #[.pointer (some ⟨g, 0, none⟩), .int .i64 256] rfl ?_; (with_reducible refine (spec_l1Next.calls g s0_0 t816 256 t817 t818 w0 _ ?side1 ?side2 ca.out).mono ?_); (case side1 => repeat (first | (with_reducible first | exact HI0.out | apply IsS70.set_1 | refine IsS70.far ?_ a2.out _) | exact HI0.out)); (case side2 => repeat (first | (with_reducible first | exact HB.out | refine lS1_ ?_ (IsS70.ge HI0.out) | refine lS1_ ?_ a5.out) | exact HB.out)); rintro e w36 ⟨rfl, hi, hb, hk⟩; refine ⟨_, rfl, ?_⟩; have n2_ := Aside0.mk (Kd.R_mono (Kd.R_keep (IsS70.apart (show IsS70 w0 _ g s0_0 t816 from by repeat (first | (with_reducible first | exact HI0.out | apply IsS70.set_1 | refine IsS70.far ?_ a2.out _) | exact HI0.out)) a1.out (by decide)) hk (fun _ h => h.2)) (fun _ h => h.1)); have n3_ := Aside0.mk (KeepBut.trans (by repeat (first | (with_reducible first | exact HK.out | apply KeepBut.set_ | refine kF_ ?_ a4.out _) | exact HK.out)) hk (.inl rfl)); have n4_ := Aside0.mk (hb); have n5_ := Aside0.mk (hi); clear a1 HK HB HI0; have a1 := n2_; have HK := n3_; have HB := n4_; have HI0 := n5_; clear n2_ n3_ n4_ n5_; (try clear hb); (try clear hb2); (try clear hk); (try clear hi); have p27 : 0 ≤ (t813 : Int) := of_decide_eq_true (by first | (with_reducible assumption) | assumption); have q27 : (t813 : Int) < ((t808.length : Int) : Int) := of_decide_eq_true (by first | (with_reducible assumption) | assumption); obtain ⟨go27, d0, eo27, b2, gl27, cl27, HG27⟩ := Kd.R_form a1.out (by omega); (first | cases eo27 | (injection eo27 with ea_ en_ ec_; (first | subst ea_ | (injection ea_ with ea_; subst ea_)); subst ec_; clear en_)); have bz := Aside0.mk b2; have GG27 := Aside0.mk HG27; clear b2 gl27 HG27; obtain ⟨hx27_0, hf27_0⟩ := Kd.R_celln 0 a1.out (t813 : Int) p27 q27; replace p27 := eq_true p27; replace q27 := eq_true q27; have n_ := Aside0.mk (Kd.R_mono (ok' := (fun k_ => some k_ ≠ (.slice ak x803006_3.length al : Value).ownBlock)) a1.out (fun k_ hk => hk.2)); clear a1; have a1 := n_; clear n_; obtain ⟨hy37_, hz37_⟩ := Kd.R_celln 0 a1.out (t813 : Int) (of_decide_eq_true (by first | (with_reducible assumption) | assumption)) (of_decide_eq_true (by first | (with_reducible assumption) | assumption)); have HP37 := Kd.R_putg a1.out (t813 : Int) ((t817) % 256)) | ((with_reducible refine gate_store (t := 5) (p := 32) rfl ?_); refine store_event (t := 5) (p := 32) (v := ?vo_w38) (w1 := (w36.setCell ⟨go27, (t813 : Int).toNat, none⟩ (.int .u8 ((t817) % 256)))) ?hg ?ho ?hn ?hr ?_; (case ho => rfl); (case hg => rfl); (case hn => rfl); (case hr => first | (go_simp; done) | (go_simp; rfl)); intro w38 hw; have hg : w36.grownBy w38 (some go27) := (by rw [hw]; exact HP37.2); have hp_ : Kd.R (Kd.int .u8) 5 w38 w.heap.size (fun k_ => some k_ ≠ (.slice ak x803006_3.length al : Value).ownBlock) (.slice (some ⟨go27, 0, none⟩) t808.length bx) y819 := (by rw [hw, bb.out]; exact HP37.1); clear HP37; have n2_ := Aside0.mk (IsS70.grown (by repeat (first | (with_reducible first | exact HI0.out | apply IsS70.set_1 | refine IsS70.far ?_ a2.out _) | exact HI0.out)) hg (IsS70.own_ne HI0.out a1.out (by decide))); have n3_ := Aside0.mk (hp_); have n4_ := Aside0.mk ((by rw [hw]; exact lS1_ (HB.out) (Nat.le_trans HL.out bz.out) : Below w0.heap.size w0 w38)); have n5_ := Aside0.mk (KeepBut.trans (by repeat (first | (with_reducible first | exact HK.out | apply KeepBut.set_ | refine kF_ ?_ a4.out _) | exact HK.out)) (KeepBut.of_grown hg g) (Kd.R_base2 a1.out)); clear HI0 a1 HB HK; have HI0 := n2_; have a1 := n3_; have HB := n4_; have HK := n5_; clear n2_ n3_ n4_ n5_ hg hw hp_))
       go_ret
       exact ⟨_, by first | rfl | (simp [errW_none, errW_some] <;> rfl) | (simp [*, errW_none, errW_some] <;> rfl), by (with_reducible repeat first | apply rA_ | apply rN_ | apply rD_); exact Kd.R_mono a1.out (fun _ hk => trivial), by repeat (first | (with_reducible first | exact HI0.out | apply IsS70.alloc | apply IsS70.drewN | apply IsS70.drew | apply IsS70.set_1 | refine IsS70.far ?_ a2.out _) | exact HI0.out), by repeat (first | (with_reducible first | exact HB.out | apply lA1_ | apply lN_ | apply lD_ | refine lS1_ ?_ (IsS70.ge HI0.out) | refine lS1_ ?_ a5.out) | exact HB.out), by repeat (first | (with_reducible first | exact HK.out | apply KeepBut.set_ | apply kN_ | apply kD_ | apply kA_ | refine kF_ ?_ a4.out _) | exact HK.out)⟩
      ·rw [if_neg c26] at H
       exact absurd H (by simp)
     ·rw [if_neg c25] at H
      exact absurd H (by simp)
    ·rw [if_neg c23] at H
     have c23b0 : (t815 == 0) = false := beq_eq_false_iff_ne.mpr c23
     have c23b1 : (t815 != 0) = true := bne_iff_ne.mpr c23
     by_cases c39 : t815 = 1
     ·rw [if_pos c39] at H
      have c39b0 : (t815 == 1) = true := beq_iff_eq.mpr c39
      have c39b1 : (t815 != 1) = false := bne_eq_false_iff_eq.mpr c39
      clear c39
      by_cases c40 : 0 ≤ t813
      ·rw [if_pos c40] at H
       have c40b0 := eq_true c40
       have c40b1 : decide (0 ≤ t813) = true := decide_eq_true c40
       clear c40
       by_cases c41 : t813 ≤ (t808.length : Int)
       ·rw [if_pos c41] at H
        have c41b0 := eq_true c41
        have c41b1 : decide (t813 ≤ (t808.length : Int)) = true := decide_eq_true c41
        clear c41
        obtain ⟨y820, hy820⟩ : ∃ y_ : List Int, y_ = (t808.take (t813 : Int).toNat) := ⟨_, rfl⟩
        replace H : (some (y820, t816)) = some (r1, r2) := by first | (rw [hy820]; with_reducible exact H) | (have H2_ := (Option.bind_some _ _).symm.trans H; rw [hy820]; with_reducible exact H2_) | (have H2_ := (Option.bind_some _ _).symm.trans H; with_reducible exact H2_) | with_reducible exact H | (rw [hy820]; exact H) | exact H
        have aq := Aside0.mk hy820
        clear hy820
        simp only [Option.some.injEq, Prod.mk.injEq] at H
        obtain ⟨rfl, rfl⟩ := H
        have cm := a6.out
        have cn := a2.out
        obtain ⟨_, _, _, _, _, _, _, _, _, _, _, _, _, _⟩ := bc7 a3.out
        obtain ⟨c0, c2, eo44⟩ := Kd.R_slice a0.out
        subst eo44
        go_wp2_with (first | ((with_reducible refine gate_callee (f := 61) rfl ?_); refine goesA_ (some 14) rfl rfl Try.func61 (by kernel_rfl) rfl #[.agg #[.int .i64 t792, .int .i64 t793, .int .i64 t794, .int .i64 t795, .int .i64 t796, .int .i64 t797, .slice c0 x803006_3.length c2]] rfl ?_; (with_reducible refine (spec_l2Build.calls kj3 t792 t793 t794 t795 t796 t797 _ _ x803006_3 t808 _ ?side1 ?side2 ad.out).mono ?_); (case side1 => repeat (first | exact (Kd.R_reads' a0.out).2.2 | (with_reducible refine Kd.C_alloc ?_ _) | (with_reducible refine Kd.C_drewN ?_ _) | (with_reducible refine Kd.C_drew ?_))); (case side2 => exact (Kd.R_reads' a0.out).2.1); rintro e w45 ⟨v809, rfl, ho0, hb⟩; refine ⟨_, rfl, ?_⟩; have n1_ := Aside0.mk (Kd.R_lower (Kd.R_new' ho0 (Kd.R_lt (by (with_reducible repeat first | apply rA_ | apply rN_ | apply rD_); exact a0.out))) (keep_size (w := w) (g := g) (row := none) (by repeat (first | (with_reducible first | exact HK.out | apply KeepBut.set_ | apply kN_ | apply kD_ | apply kA_ | refine kF_ ?_ a4.out _) | exact HK.out)))); have n3_ := Aside0.mk (IsS70.below (by repeat (first | (with_reducible first | exact HI0.out | apply IsS70.alloc | apply IsS70.drewN | apply IsS70.drew | apply IsS70.set_1 | refine IsS70.far ?_ a2.out _) | exact HI0.out)) hb); have n4_ := Aside0.mk (KeepBut.trans (by repeat (first | (with_reducible first | exact HK.out | apply KeepBut.set_ | apply kN_ | apply kD_ | apply kA_ | refine kF_ ?_ a4.out _) | exact HK.out)) (KeepBut.of_below hb g none) (.inl rfl)); have n5_ := Aside0.mk (lP_ (by repeat (first | (with_reducible first | exact HB.out | apply lA1_ | apply lN_ | apply lD_ | refine lS1_ ?_ (IsS70.ge HI0.out) | refine lS1_ ?_ a5.out) | exact HB.out)) hb); clear HI0 HK HB; have a1 := n1_; have HI0 := n3_; have HK := n4_; have HB := n5_; clear n1_ n3_ n4_ n5_; (try clear hb); (try clear hb2); (try clear hk); (try clear hi); (try clear ho0)) | ((with_reducible refine gate_callee (f := 41) rfl ?_); refine goesA_ (some 16) rfl rfl Try.func41 (by kernel_rfl) rfl #[.pointer (some ⟨g, 0, none⟩), .int .i64 3] rfl ?_; (with_reducible refine (spec_l1Chance.calls g s0_0 t804 3 true t812 w0 _ ?side1 ?side2 ae.out).mono ?_); (case side1 => repeat (first | (with_reducible first | exact HI0.out | apply IsS70.alloc | apply IsS70.drewN | apply IsS70.drew | apply IsS70.set_1 | refine IsS70.far ?_ a2.out _) | exact HI0.out)); (case side2 => repeat (first | (with_reducible first | exact HB.out | apply lA1_ | apply lN_ | apply lD_ | refine lS1_ ?_ (IsS70.ge HI0.out) | refine lS1_ ?_ a5.out) | exact HB.out)); rintro e w46 ⟨rfl, hi, hb, hk⟩; refine ⟨_, rfl, ?_⟩; have n2_ := Aside0.mk (Kd.R_mono (Kd.R_keep (IsS70.apart (show IsS70 w0 _ g s0_0 t804 from by repeat (first | (with_reducible first | exact HI0.out | apply IsS70.alloc | apply IsS70.drewN | apply IsS70.drew | apply IsS70.set_1 | refine IsS70.far ?_ a2.out _) | exact HI0.out)) (by (with_reducible repeat first | apply rA_ | apply rN_ | apply rD_); exact a1.out) (by decide)) hk (fun _ h => h.2)) (fun _ h => h.1)); have n3_ := Aside0.mk (KeepBut.trans (by repeat (first | (with_reducible first | exact HK.out | apply KeepBut.set_ | apply kN_ | apply kD_ | apply kA_ | refine kF_ ?_ a4.out _) | exact HK.out)) hk (.inl rfl)); have n4_ := Aside0.mk (hb); have n5_ := Aside0.mk (hi); clear a1 HK HB HI0; have a1 := n2_; have HK := n3_; have HB := n4_; have HI0 := n5_; clear n2_ n3_ n4_ n5_; (try clear hb); (try clear hb2); (try clear hk); (try clear hi); obtain ⟨c3, c5, eo47⟩ := Kd.R_slice a1.out; subst eo47) | ((with_reducible refine gate_callee (f := 38) rfl ?_); refine goesA_ (some 22) rfl rfl Try.func38 (by kernel_rfl) rfl #[.pointer (some ⟨g, 0, none⟩), .int .i64 (t808.length : Int)] rfl ?_; (with_reducible refine (spec_l1Next.calls g s0_0 t812 (t808.length : Int) t813 t814 w0 _ ?side1 ?side2 ag.out).mono ?_); (case side1 => repeat (first | (with_reducible first | exact HI0.out | apply IsS70.alloc | apply IsS70.drewN | apply IsS70.drew | apply IsS70.set_1 | refine IsS70.far ?_ a2.out _) | exact HI0.out)); (case side2 => repeat (first | (with_reducible first | exact HB.out | apply lA1_ | apply lN_ | apply lD_ | refine lS1_ ?_ (IsS70.ge HI0.out) | refine lS1_ ?_ a5.out) | exact HB.out)); rintro e w48 ⟨rfl, hi, hb, hk⟩; refine ⟨_, rfl, ?_⟩; have n2_ := Aside0.mk (Kd.R_mono (Kd.R_keep (IsS70.apart (show IsS70 w0 _ g s0_0 t812 from by repeat (first | (with_reducible first | exact HI0.out | apply IsS70.alloc | apply IsS70.drewN | apply IsS70.drew | apply IsS70.set_1 | refine IsS70.far ?_ a2.out _) | exact HI0.out)) (by (with_reducible repeat first | apply rA_ | apply rN_ | apply rD_); exact a1.out) (by decide)) hk (fun _ h => h.2)) (fun _ h => h.1)); have n3_ := Aside0.mk (KeepBut.trans (by repeat (first | (with_reducible first | exact HK.out | apply KeepBut.set_ | apply kN_ | apply kD_ | apply kA_ | refine kF_ ?_ a4.out _) | exact HK.out)) hk (.inl rfl)); have n4_ := Aside0.mk (hb); have n5_ := Aside0.mk (hi); clear a1 HK HB HI0; have a1 := n2_; have HK := n3_; have HB := n4_; have HI0 := n5_; clear n2_ n3_ n4_ n5_; (try clear hb); (try clear hb2); (try clear hk); (try clear hi)) | ((with_reducible refine gate_callee (f := 38) rfl ?_); refine goesA_ (some 24) rfl rfl Try.func38 (by kernel_rfl) rfl #[.pointer (some ⟨g, 0, none⟩), .int .i64 6] rfl ?_; (with_reducible refine (spec_l1Next.calls g s0_0 t814 6 t815 t816 w0 _ ?side1 ?side2 ah.out).mono ?_); (case side1 => repeat (first | (with_reducible first | exact HI0.out | apply IsS70.alloc | apply IsS70.drewN | apply IsS70.drew | apply IsS70.set_1 | refine IsS70.far ?_ a2.out _) | exact HI0.out)); (case side2 => repeat (first | (with_reducible first | exact HB.out | apply lA1_ | apply lN_ | apply lD_ | refine lS1_ ?_ (IsS70.ge HI0.out) | refine lS1_ ?_ a5.out) | exact HB.out)); rintro e w49 ⟨rfl, hi, hb, hk⟩; refine ⟨_, rfl, ?_⟩; have n2_ := Aside0.mk (Kd.R_mono (Kd.R_keep (IsS70.apart (show IsS70 w0 _ g s0_0 t814 from by repeat (first | (with_reducible first | exact HI0.out | apply IsS70.alloc | apply IsS70.drewN | apply IsS70.drew | apply IsS70.set_1 | refine IsS70.far ?_ a2.out _) | exact HI0.out)) (by (with_reducible repeat first | apply rA_ | apply rN_ | apply rD_); exact a1.out) (by decide)) hk (fun _ h => h.2)) (fun _ h => h.1)); have n3_ := Aside0.mk (KeepBut.trans (by repeat (first | (with_reducible first | exact HK.out | apply KeepBut.set_ | apply kN_ | apply kD_ | apply kA_ | refine kF_ ?_ a4.out _) | exact HK.out)) hk (.inl rfl)); have n4_ := Aside0.mk (hb); have n5_ := Aside0.mk (hi); clear a1 HK HB HI0; have a1 := n2_; have HK := n3_; have HB := n4_; have HI0 := n5_; clear n2_ n3_ n4_ n5_; (try clear hb); (try clear hb2); (try clear hk); (try clear hi); have q50 : (t813 : Int) ≤ ((t808.length : Int) : Int) := of_decide_eq_true (by first | (with_reducible assumption) | assumption); obtain ⟨i050, hi050, _, hsz50, _⟩ := info_parts info5; have b3 := cut_to (P := Try.prog) 22 5 .i64 Try.underlying22 hi050 c3 t808.length c5 t813 (of_decide_eq_true (by first | (with_reducible assumption) | assumption)) q50 (Kd.R_reads' a1.out).2.1; have hr50 := Kd.R_take (m := (t813 : Int).toNat) a1.out (by omega); have hy50 : y820.length = (t813 : Int).toNat := (by rw [aq.out, List.length_take]; omega); rw [← aq.out] at hr50; rw [← hy50] at hr50 b3; clear hy50 hi050 hsz50 a1; have bc := Aside0.mk hr50; clear hr50; replace q50 := eq_true q50))
        go_ret
        exact ⟨_, by first | rfl | (simp [errW_none, errW_some] <;> rfl) | (simp [*, errW_none, errW_some] <;> rfl), by (with_reducible repeat first | apply rA_ | apply rN_ | apply rD_); exact Kd.R_mono bc.out (fun _ hk => trivial), by repeat (first | (with_reducible first | exact HI0.out | apply IsS70.alloc | apply IsS70.drewN | apply IsS70.drew | apply IsS70.set_1 | refine IsS70.far ?_ a2.out _) | exact HI0.out), by repeat (first | (with_reducible first | exact HB.out | apply lA1_ | apply lN_ | apply lD_ | refine lS1_ ?_ (IsS70.ge HI0.out) | refine lS1_ ?_ a5.out) | exact HB.out), by repeat (first | (with_reducible first | exact HK.out | apply KeepBut.set_ | apply kN_ | apply kD_ | apply kA_ | refine kF_ ?_ a4.out _) | exact HK.out)⟩
       ·rw [if_neg c41] at H
        exact absurd H (by simp)
      ·rw [if_neg c40] at H
       exact absurd H (by simp)
     ·rw [if_neg c39] at H
      have c39b0 : (t815 == 1) = false := beq_eq_false_iff_ne.mpr c39
      have c39b1 : (t815 != 1) = true := bne_iff_ne.mpr c39
      by_cases c51 : t815 = 2
      ·rw [if_pos c51] at H
       have c51b0 : (t815 == 2) = true := beq_iff_eq.mpr c51
       have c51b1 : (t815 != 2) = false := bne_eq_false_iff_eq.mpr c51
       clear c51
       by_cases c52 : t808.length < 140737488355328
       ·rw [if_pos c52] at H
        have bd := Aside0.mk c52
        clear c52
        obtain ⟨y823, hy823⟩ : ∃ y_ : List Int, y_ = (t808 ++ [0]) := ⟨_, rfl⟩
        replace H : (some (y823, t816)) = some (r1, r2) := by first | (rw [hy823]; with_reducible exact H) | (have H2_ := (Option.bind_some _ _).symm.trans H; rw [hy823]; with_reducible exact H2_) | (have H2_ := (Option.bind_some _ _).symm.trans H; with_reducible exact H2_) | with_reducible exact H | (rw [hy823]; exact H) | exact H
        have be := Aside0.mk hy823
        clear hy823
        simp only [Option.some.injEq, Prod.mk.injEq] at H
        obtain ⟨rfl, rfl⟩ := H
        have co := a6.out
        have cp := a2.out
        obtain ⟨_, _, _, _, _, _, _, _, _, _, _, _, _, _⟩ := bc7 a3.out
        obtain ⟨b4, b5, eo55⟩ := Kd.R_slice a0.out
        subst eo55
        go_wp2_with (first | ((with_reducible refine gate_callee (f := 61) rfl ?_); refine goesA_ (some 14) rfl rfl Try.func61 (by kernel_rfl) rfl #[.agg #[.int .i64 t792, .int .i64 t793, .int .i64 t794, .int .i64 t795, .int .i64 t796, .int .i64 t797, .slice b4 x803006_3.length b5]] rfl ?_; (with_reducible refine (spec_l2Build.calls kj3 t792 t793 t794 t795 t796 t797 _ _ x803006_3 t808 _ ?side1 ?side2 ad.out).mono ?_); (case side1 => repeat (first | exact (Kd.R_reads' a0.out).2.2 | (with_reducible refine Kd.C_alloc ?_ _) | (with_reducible refine Kd.C_drewN ?_ _) | (with_reducible refine Kd.C_drew ?_))); (case side2 => exact (Kd.R_reads' a0.out).2.1); rintro e w56 ⟨v809, rfl, ho0, hb⟩; refine ⟨_, rfl, ?_⟩; have n0_ := Aside0.mk (Kd.R_elder' (by (with_reducible repeat first | apply rA_ | apply rN_ | apply rD_); exact a0.out) (Kd.R_base ho0) hb); have n1_ := Aside0.mk (Kd.R_lower (Kd.R_new' ho0 (Kd.R_lt (by (with_reducible repeat first | apply rA_ | apply rN_ | apply rD_); exact a0.out))) (keep_size (w := w) (g := g) (row := none) (by repeat (first | (with_reducible first | exact HK.out | apply KeepBut.set_ | apply kN_ | apply kD_ | apply kA_ | refine kF_ ?_ a4.out _) | exact HK.out)))); have n3_ := Aside0.mk (IsS70.below (by repeat (first | (with_reducible first | exact HI0.out | apply IsS70.alloc | apply IsS70.drewN | apply IsS70.drew | apply IsS70.set_1 | refine IsS70.far ?_ a2.out _) | exact HI0.out)) hb); have n4_ := Aside0.mk (KeepBut.trans (by repeat (first | (with_reducible first | exact HK.out | apply KeepBut.set_ | apply kN_ | apply kD_ | apply kA_ | refine kF_ ?_ a4.out _) | exact HK.out)) (KeepBut.of_below hb g none) (.inl rfl)); have n5_ := Aside0.mk (lP_ (by repeat (first | (with_reducible first | exact HB.out | apply lA1_ | apply lN_ | apply lD_ | refine lS1_ ?_ (IsS70.ge HI0.out) | refine lS1_ ?_ a5.out) | exact HB.out)) hb); clear a0 HI0 HK HB; have a0 := n0_; have a1 := n1_; have HI0 := n3_; have HK := n4_; have HB := n5_; clear n0_ n1_ n3_ n4_ n5_; (try clear hb); (try clear hb2); (try clear hk); (try clear hi); (try clear ho0)) | ((with_reducible refine gate_callee (f := 41) rfl ?_); refine goesA_ (some 16) rfl rfl Try.func41 (by kernel_rfl) rfl #[.pointer (some ⟨g, 0, none⟩), .int .i64 3] rfl ?_; (with_reducible refine (spec_l1Chance.calls g s0_0 t804 3 true t812 w0 _ ?side1 ?side2 ae.out).mono ?_); (case side1 => repeat (first | (with_reducible first | exact HI0.out | apply IsS70.set_1 | refine IsS70.far ?_ a2.out _) | exact HI0.out)); (case side2 => repeat (first | (with_reducible first | exact HB.out | refine lS1_ ?_ (IsS70.ge HI0.out) | refine lS1_ ?_ a5.out) | exact HB.out)); rintro e w57 ⟨rfl, hi, hb, hk⟩; refine ⟨_, rfl, ?_⟩; have n0_ := Aside0.mk (Kd.R_mono (Kd.R_keep (IsS70.apart (show IsS70 w0 _ g s0_0 t804 from by repeat (first | (with_reducible first | exact HI0.out | apply IsS70.set_1 | refine IsS70.far ?_ a2.out _) | exact HI0.out)) a0.out (by decide)) hk (fun _ h => h.2)) (fun _ h => h.1)); have n2_ := Aside0.mk (Kd.R_mono (Kd.R_keep (IsS70.apart (show IsS70 w0 _ g s0_0 t804 from by repeat (first | (with_reducible first | exact HI0.out | apply IsS70.set_1 | refine IsS70.far ?_ a2.out _) | exact HI0.out)) a1.out (by decide)) hk (fun _ h => h.2)) (fun _ h => h.1)); have n3_ := Aside0.mk (KeepBut.trans (by repeat (first | (with_reducible first | exact HK.out | apply KeepBut.set_ | refine kF_ ?_ a4.out _) | exact HK.out)) hk (.inl rfl)); have n4_ := Aside0.mk (hb); have n5_ := Aside0.mk (hi); clear a0 a1 HK HB HI0; have a0 := n0_; have a1 := n2_; have HK := n3_; have HB := n4_; have HI0 := n5_; clear n0_ n2_ n3_ n4_ n5_; (try clear hb); (try clear hb2); (try clear hk); (try clear hi); obtain ⟨c8, c9, eo58⟩ := Kd.R_slice a1.out; subst eo58) | ((with_reducible refine gate_callee (f := 38) rfl ?_); refine goesA_ (some 22) rfl rfl Try.func38 (by kernel_rfl) rfl #[.pointer (some ⟨g, 0, none⟩), .int .i64 (t808.length : Int)] rfl ?_; (with_reducible refine (spec_l1Next.calls g s0_0 t812 (t808.length : Int) t813 t814 w0 _ ?side1 ?side2 ag.out).mono ?_); (case side1 => repeat (first | (with_reducible first | exact HI0.out | apply IsS70.set_1 | refine IsS70.far ?_ a2.out _) | exact HI0.out)); (case side2 => repeat (first | (with_reducible first | exact HB.out | refine lS1_ ?_ (IsS70.ge HI0.out) | refine lS1_ ?_ a5.out) | exact HB.out)); rintro e w59 ⟨rfl, hi, hb, hk⟩; refine ⟨_, rfl, ?_⟩; have n0_ := Aside0.mk (Kd.R_mono (Kd.R_keep (IsS70.apart (show IsS70 w0 _ g s0_0 t812 from by repeat (first | (with_reducible first | exact HI0.out | apply IsS70.set_1 | refine IsS70.far ?_ a2.out _) | exact HI0.out)) a0.out (by decide)) hk (fun _ h => h.2)) (fun _ h => h.1)); have n2_ := Aside0.mk (Kd.R_mono (Kd.R_keep (IsS70.apart (show IsS70 w0 _ g s0_0 t812 from by repeat (first | (with_reducible first | exact HI0.out | apply IsS70.set_1 | refine IsS70.far ?_ a2.out _) | exact HI0.out)) a1.out (by decide)) hk (fun _ h => h.2)) (fun _ h => h.1)); have n3_ := Aside0.mk (KeepBut.trans (by repeat (first | (with_reducible first | exact HK.out | apply KeepBut.set_ | refine kF_ ?_ a4.out _) | exact HK.out)) hk (.inl rfl)); have n4_ := Aside0.mk (hb); have n5_ := Aside0.mk (hi); clear a0 a1 HK HB HI0; have a0 := n0_; have a1 := n2_; have HK := n3_; have HB := n4_; have HI0 := n5_; clear n0_ n2_ n3_ n4_ n5_; (try clear hb); (try clear hb2); (try clear hk); (try clear hi)) | ((with_reducible refine gate_callee (f := 38) rfl ?_); refine goesA_ (some 24) rfl rfl Try.func38 (by kernel_rfl) rfl #[.pointer (some ⟨g, 0, none⟩), .int .i64 6] rfl ?_; (with_reducible refine (spec_l1Next.calls g s0_0 t814 6 t815 t816 w0 _ ?side1 ?side2 ah.out).mono ?_); (case side1 => repeat (first | (with_reducible first | exact HI0.out | apply IsS70.set_1 | refine IsS70.far ?_ a2.out _) | exact HI0.out)); (case side2 => repeat (first | (with_reducible first | exact HB.out | refine lS1_ ?_ (IsS70.ge HI0.out) | refine lS1_ ?_ a5.out) | exact HB.out)); rintro e w60 ⟨rfl, hi, hb, hk⟩; refine ⟨_, rfl, ?_⟩; have n0_ := Aside0.mk (Kd.R_mono (Kd.R_keep (IsS70.apart (show IsS70 w0 _ g s0_0 t814 from by repeat (first | (with_reducible first | exact HI0.out | apply IsS70.set_1 | refine IsS70.far ?_ a2.out _) | exact HI0.out)) a0.out (by decide)) hk (fun _ h => h.2)) (fun _ h => h.1)); have n2_ := Aside0.mk (Kd.R_mono (Kd.R_keep (IsS70.apart (show IsS70 w0 _ g s0_0 t814 from by repeat (first | (with_reducible first | exact HI0.out | apply IsS70.set_1 | refine IsS70.far ?_ a2.out _) | exact HI0.out)) a1.out (by decide)) hk (fun _ h => h.2)) (fun _ h => h.1)); have n3_ := Aside0.mk (KeepBut.trans (by repeat (first | (with_reducible first | exact HK.out | apply KeepBut.set_ | refine kF_ ?_ a4.out _) | exact HK.out)) hk (.inl rfl)); have n4_ := Aside0.mk (hb); have n5_ := Aside0.mk (hi); clear a0 a1 HK HB HI0; have a0 := n0_; have a1 := n2_; have HK := n3_; have HB := n4_; have HI0 := n5_; clear n0_ n2_ n3_ n4_ n5_; (try clear hb); (try clear hb2); (try clear hk); (try clear hi)) | ((with_reducible refine gate_builtin (b := .append) (xs := #[.tmp 40, .tmp 41]) rfl ?_); at_builtin; refine Kd.R_append (Kd.int .u8) w.heap.size rfl (.tmp 40) (.tmp 41) 22 5 (.int .u8 0) 1 rfl Try.underlying22 info5 rfl (by decide) (by omega) (.slice c8 t808.length c9) t808 0 [.int .u8 0] (fun k_ => some k_ ≠ (.slice b4 x803006_3.length b5 : Value).ownBlock) (fun _ => False) rfl rfl ?aP (fun _ hk => hk.elim) ?aF ?aO (Below.refl _ _) ?aS ?aL ?_; (case aP => exact rfl); (case aF => exact (fun k_ hk => Kd.fresh' (Kd.R_lt a0.out) k_ hk)); (case aO => exact (Kd.R_mono a1.out (fun _ hk => hk.2))); (case aS => exact (keep_size (w := w) (g := g) (row := none) (by repeat (first | (with_reducible first | exact HK.out | apply KeepBut.set_ | refine kF_ ?_ a4.out _) | exact HK.out)))); (case aL => have := bd.out; omega); intro v824 w61 ho hb hg hat; rw [← be.out] at ho; have n2_ := Aside0.mk (IsS70.grown (by repeat (first | (with_reducible first | exact HI0.out | apply IsS70.set_1 | refine IsS70.far ?_ a2.out _) | exact HI0.out)) hg (IsS70.own_ne HI0.out a1.out (by decide))); have n3_ := Aside0.mk (below_weaken (by repeat (first | (with_reducible first | exact HB.out | refine lS1_ ?_ (IsS70.ge HI0.out) | refine lS1_ ?_ a5.out) | exact HB.out)) HL.out hb); have n4_ := Aside0.mk (KeepBut.trans (by repeat (first | (with_reducible first | exact HK.out | apply KeepBut.set_ | refine kF_ ?_ a4.out _) | exact HK.out)) (KeepBut.of_grown hg g) (Kd.R_base2 a1.out)); have n5_ := Aside0.mk (ho); clear HI0 HB HK a1; have HI0 := n2_; have HB := n3_; have HK := n4_; have bf := n5_; clear n2_ n3_ n4_ n5_ ho hb hg hat))
        go_ret
        exact ⟨_, by first | rfl | (simp [errW_none, errW_some] <;> rfl) | (simp [*, errW_none, errW_some] <;> rfl), by (with_reducible repeat first | apply rA_ | apply rN_ | apply rD_); exact Kd.R_mono bf.out (fun _ hk => trivial), by repeat (first | (with_reducible first | exact HI0.out | apply IsS70.alloc | apply IsS70.drewN | apply IsS70.drew | apply IsS70.set_1 | refine IsS70.far ?_ a2.out _) | exact HI0.out), by repeat (first | (with_reducible first | exact HB.out | apply lA1_ | apply lN_ | apply lD_ | refine lS1_ ?_ (IsS70.ge HI0.out) | refine lS1_ ?_ a5.out) | exact HB.out), by repeat (first | (with_reducible first | exact HK.out | apply KeepBut.set_ | apply kN_ | apply kD_ | apply kA_ | refine kF_ ?_ a4.out _) | exact HK.out)⟩
       ·rw [if_neg c52] at H
        exact absurd H (by simp)
      ·rw [if_neg c51] at H
       have c51b0 : (t815 == 2) = false := beq_eq_false_iff_ne.mpr c51
       have c51b1 : (t815 != 2) = true := bne_iff_ne.mpr c51
       by_cases c62 : t815 = 3
       ·rw [if_pos c62] at H
        have c62b0 : (t815 == 3) = true := beq_iff_eq.mpr c62
        have c62b1 : (t815 != 3) = false := bne_eq_false_iff_eq.mpr c62
        clear c62
        replace H := Option.bind_eq_some_iff.mp H
        obtain ⟨⟨t826, t827⟩, b6, H⟩ := H
        try dsimp only at H
        have cb := Aside0.mk b6
        clear b6
        replace H := Option.bind_eq_some_iff.mp H
        obtain ⟨⟨t828, t829⟩, b7, H⟩ := H
        try dsimp only at H
        have cc := Aside0.mk b7
        clear b7
        by_cases c65 : 0 ≤ t826
        ·rw [if_pos c65] at H
         have c65b0 : decide (0 ≤ t826) = true := decide_eq_true c65
         clear c65
         by_cases c66 : t826 < (t808.length : Int)
         ·rw [if_pos c66] at H
          have c66b0 : decide (t826 < (t808.length : Int)) = true := decide_eq_true c66
          clear c66
          obtain ⟨y830, hy830⟩ : ∃ y_ : List Int, y_ = (t808.set (t826 : Int).toNat ((t828) % 256)) := ⟨_, rfl⟩
          replace H : (if 10 < (t808.length : Int) then (if 11 < (t808.length : Int) then ((some ((y830.set (10 : Int).toNat 0).set (11 : Int).toNat 0 : List Int)).bind fun y832 => (if 20 ≤ (t808.length : Int) then ((spec_SumWords.f kj3 (y832.take 20)).bind fun t837 => (some (((y832.set (10 : Int).toNat ((wrap64 (Int.tdiv t837 256)) % 256)).set (11 : Int).toNat ((Int.tmod t837 256) % 256)), t829))) else (none))) else (none)) else (none)) = some (r1, r2) := by first | (rw [hy830]; with_reducible exact H) | (have H2_ := (Option.bind_some _ _).symm.trans H; rw [hy830]; with_reducible exact H2_) | (have H2_ := (Option.bind_some _ _).symm.trans H; with_reducible exact H2_) | with_reducible exact H | (rw [hy830]; exact H) | exact H
          have bg := Aside0.mk hy830
          clear hy830
          by_cases c68 : 10 < (t808.length : Int)
          ·rw [if_pos c68] at H
           have c68b0 : decide (10 < (t808.length : Int)) = true := decide_eq_true c68
           have c68b1 : decide (10 < t808.length) = true := decide_eq_true (by omega)
           clear c68
           obtain ⟨y831, hy831⟩ : ∃ y_ : List Int, y_ = (y830.set (10 : Int).toNat 0) := ⟨_, rfl⟩
           replace H : (if 11 < (t808.length : Int) then ((some (y831.set (11 : Int).toNat 0 : List Int)).bind fun y832 => (if 20 ≤ (t808.length : Int) then ((spec_SumWords.f kj3 (y832.take 20)).bind fun t837 => (some (((y832.set (10 : Int).toNat ((wrap64 (Int.tdiv t837 256)) % 256)).set (11 : Int).toNat ((Int.tmod t837 256) % 256)), t829))) else (none))) else (none)) = some (r1, r2) := by first | (rw [hy831]; with_reducible exact H) | (have H2_ := (Option.bind_some _ _).symm.trans H; rw [hy831]; with_reducible exact H2_) | (have H2_ := (Option.bind_some _ _).symm.trans H; with_reducible exact H2_) | with_reducible exact H | (rw [hy831]; exact H) | exact H
           have bh := Aside0.mk hy831
           clear hy831
           by_cases c70 : 11 < (t808.length : Int)
           ·rw [if_pos c70] at H
            have c70b0 : decide (11 < (t808.length : Int)) = true := decide_eq_true c70
            have c70b1 : decide (11 < t808.length) = true := decide_eq_true (by omega)
            clear c70
            obtain ⟨y832, hy832⟩ : ∃ y_ : List Int, y_ = (y831.set (11 : Int).toNat 0) := ⟨_, rfl⟩
            replace H : (if 20 ≤ (t808.length : Int) then ((spec_SumWords.f kj3 (y832.take 20)).bind fun t837 => (some (((y832.set (10 : Int).toNat ((wrap64 (Int.tdiv t837 256)) % 256)).set (11 : Int).toNat ((Int.tmod t837 256) % 256)), t829))) else (none)) = some (r1, r2) := by first | (rw [hy832]; with_reducible exact H) | (have H2_ := (Option.bind_some _ _).symm.trans H; rw [hy832]; with_reducible exact H2_) | (have H2_ := (Option.bind_some _ _).symm.trans H; with_reducible exact H2_) | with_reducible exact H | (rw [hy832]; exact H) | exact H
            have bi := Aside0.mk hy832
            clear hy832
            by_cases c72 : 20 ≤ (t808.length : Int)
            ·rw [if_pos c72] at H
             have c72b0 := eq_true c72
             have c72b1 : decide (20 ≤ (t808.length : Int)) = true := decide_eq_true c72
             clear c72
             obtain ⟨y833, hy833⟩ : ∃ y_ : List Int, y_ = (y832.take 20) := ⟨_, rfl⟩
             replace H : ((spec_SumWords.f kj3 y833).bind fun t837 => (some (((y832.set (10 : Int).toNat ((wrap64 (Int.tdiv t837 256)) % 256)).set (11 : Int).toNat ((Int.tmod t837 256) % 256)), t829))) = some (r1, r2) := by first | (rw [hy833]; with_reducible exact H) | (have H2_ := (Option.bind_some _ _).symm.trans H; rw [hy833]; with_reducible exact H2_) | (have H2_ := (Option.bind_some _ _).symm.trans H; with_reducible exact H2_) | with_reducible exact H | (rw [hy833]; exact H) | exact H
             have ar := Aside0.mk hy833
             clear hy833
             replace H := Option.bind_eq_some_iff.mp H
             obtain ⟨t837, b8, H⟩ := H
             try dsimp only at H
             have cd := Aside0.mk b8
             clear b8
             obtain ⟨y838, hy838⟩ : ∃ y_ : List Int, y_ = (y832.set (10 : Int).toNat ((wrap64 (Int.tdiv t837 256)) % 256)) := ⟨_, rfl⟩
             replace H : (some ((y838.set (11 : Int).toNat ((Int.tmod t837 256) % 256)), t829)) = some (r1, r2) := by first | (rw [hy838]; with_reducible exact H) | (have H2_ := (Option.bind_some _ _).symm.trans H; rw [hy838]; with_reducible exact H2_) | (have H2_ := (Option.bind_some _ _).symm.trans H; with_reducible exact H2_) | with_reducible exact H | (rw [hy838]; exact H) | exact H
             have bj := Aside0.mk hy838
             clear hy838
             obtain ⟨y839, hy839⟩ : ∃ y_ : List Int, y_ = (y838.set (11 : Int).toNat ((Int.tmod t837 256) % 256)) := ⟨_, rfl⟩
             replace H : (some (y839, t829)) = some (r1, r2) := by first | (rw [hy839]; with_reducible exact H) | (have H2_ := (Option.bind_some _ _).symm.trans H; rw [hy839]; with_reducible exact H2_) | (have H2_ := (Option.bind_some _ _).symm.trans H; with_reducible exact H2_) | with_reducible exact H | (rw [hy839]; exact H) | exact H
             have bk := Aside0.mk hy839
             clear hy839
             simp only [Option.some.injEq, Prod.mk.injEq] at H
             obtain ⟨rfl, rfl⟩ := H
             have cq := a6.out
             have cr := a2.out
             obtain ⟨_, _, _, _, _, _, _, _, _, _, _, _, _, _⟩ := bc7 a3.out
             obtain ⟨aa, ab, eo78⟩ := Kd.R_slice a0.out
             subst eo78
             go_wp2_with (first | ((with_reducible refine gate_callee (f := 61) rfl ?_); refine goesA_ (some 14) rfl rfl Try.func61 (by kernel_rfl) rfl #[.agg #[.int .i64 t792, .int .i64 t793, .int .i64 t794, .int .i64 t795, .int .i64 t796, .int .i64 t797, .slice aa x803006_3.length ab]] rfl ?_; (with_reducible refine (spec_l2Build.calls kj3 t792 t793 t794 t795 t796 t797 _ _ x803006_3 t808 _ ?side1 ?side2 ad.out).mono ?_); (case side1 => repeat (first | exact (Kd.R_reads' a0.out).2.2 | (with_reducible refine Kd.C_alloc ?_ _) | (with_reducible refine Kd.C_drewN ?_ _) | (with_reducible refine Kd.C_drew ?_))); (case side2 => exact (Kd.R_reads' a0.out).2.1); rintro e w79 ⟨v809, rfl, ho0, hb⟩; refine ⟨_, rfl, ?_⟩; have n0_ := Aside0.mk (Kd.R_elder' a0.out (Kd.R_base ho0) hb); have n1_ := Aside0.mk (Kd.R_lower (Kd.R_new' ho0 (Kd.R_lt a0.out)) (keep_size (w := w) (g := g) (row := none) HK.out)); have n2_ := Aside0.mk (bB_ a3.out hb); have n3_ := Aside0.mk (IsS70.below HI0.out hb); have n4_ := Aside0.mk (KeepBut.trans HK.out (KeepBut.of_below hb g none) (.inl rfl)); have n5_ := Aside0.mk (lP_ HB.out hb); clear a0 a3 HI0 HK HB; have a0 := n0_; have a1 := n1_; have a3 := n2_; have HI0 := n3_; have HK := n4_; have HB := n5_; clear n0_ n1_ n2_ n3_ n4_ n5_; (try clear hb); (try clear hb2); (try clear hk); (try clear hi); (try clear ho0)) | ((with_reducible refine gate_callee (f := 41) rfl ?_); refine goesA_ (some 16) rfl rfl Try.func41 (by kernel_rfl) rfl #[.pointer (some ⟨g, 0, none⟩), .int .i64 3] rfl ?_; (with_reducible refine (spec_l1Chance.calls g s0_0 t804 3 true t812 w0 _ ?side1 ?side2 ae.out).mono ?_); (case side1 => exact HI0.out); (case side2 => exact HB.out); rintro e w80 ⟨rfl, hi, hb, hk⟩; refine ⟨_, rfl, ?_⟩; have n0_ := Aside0.mk (Kd.R_mono (Kd.R_keep (IsS70.apart (show IsS70 w0 _ g s0_0 t804 from HI0.out) a0.out (by decide)) hk (fun _ h => h.2)) (fun _ h => h.1)); have n1_ := Aside0.mk (KeepBut.blk hk a3.out a6.out (by simp)); have n2_ := Aside0.mk (Kd.R_mono (Kd.R_keep (IsS70.apart (show IsS70 w0 _ g s0_0 t804 from HI0.out) a1.out (by decide)) hk (fun _ h => h.2)) (fun _ h => h.1)); have n3_ := Aside0.mk (KeepBut.trans HK.out hk (.inl rfl)); have n4_ := Aside0.mk (hb); have n5_ := Aside0.mk (hi); clear a0 a3 a1 HK HB HI0; have a0 := n0_; have a3 := n1_; have a1 := n2_; have HK := n3_; have HB := n4_; have HI0 := n5_; clear n0_ n1_ n2_ n3_ n4_ n5_; (try clear hb); (try clear hb2); (try clear hk); (try clear hi); obtain ⟨d1, a7, eo81⟩ := Kd.R_slice a1.out; subst eo81) | ((with_reducible refine gate_callee (f := 38) rfl ?_); refine goesA_ (some 22) rfl rfl Try.func38 (by kernel_rfl) rfl #[.pointer (some ⟨g, 0, none⟩), .int .i64 (t808.length : Int)] rfl ?_; (with_reducible refine (spec_l1Next.calls g s0_0 t812 (t808.length : Int) t813 t814 w0 _ ?side1 ?side2 ag.out).mono ?_); (case side1 => exact HI0.out); (case side2 => exact HB.out); rintro e w82 ⟨rfl, hi, hb, hk⟩; refine ⟨_, rfl, ?_⟩; have n0_ := Aside0.mk (Kd.R_mono (Kd.R_keep (IsS70.apart (show IsS70 w0 _ g s0_0 t812 from HI0.out) a0.out (by decide)) hk (fun _ h => h.2)) (fun _ h => h.1)); have n1_ := Aside0.mk (KeepBut.blk hk a3.out a6.out (by simp)); have n2_ := Aside0.mk (Kd.R_mono (Kd.R_keep (IsS70.apart (show IsS70 w0 _ g s0_0 t812 from HI0.out) a1.out (by decide)) hk (fun _ h => h.2)) (fun _ h => h.1)); have n3_ := Aside0.mk (KeepBut.trans HK.out hk (.inl rfl)); have n4_ := Aside0.mk (hb); have n5_ := Aside0.mk (hi); clear a0 a3 a1 HK HB HI0; have a0 := n0_; have a3 := n1_; have a1 := n2_; have HK := n3_; have HB := n4_; have HI0 := n5_; clear n0_ n1_ n2_ n3_ n4_ n5_; (try clear hb); (try clear hb2); (try clear hk); (try clear hi)) | ((with_reducible refine gate_callee (f := 38) rfl ?_); refine goesA_ (some 24) rfl rfl Try.func38 (by kernel_rfl) rfl #[.pointer (some ⟨g, 0, none⟩), .int .i64 6] rfl ?_; (with_reducible refine (spec_l1Next.calls g s0_0 t814 6 t815 t816 w0 _ ?side1 ?side2 ah.out).mono ?_); (case side1 => exact HI0.out); (case side2 => exact HB.out); rintro e w83 ⟨rfl, hi, hb, hk⟩; refine ⟨_, rfl, ?_⟩; have n0_ := Aside0.mk (Kd.R_mono (Kd.R_keep (IsS70.apart (show IsS70 w0 _ g s0_0 t814 from HI0.out) a0.out (by decide)) hk (fun _ h => h.2)) (fun _ h => h.1)); have n1_ := Aside0.mk (KeepBut.blk hk a3.out a6.out (by simp)); have n2_ := Aside0.mk (Kd.R_mono (Kd.R_keep (IsS70.apart (show IsS70 w0 _ g s0_0 t814 from HI0.out) a1.out (by decide)) hk (fun _ h => h.2)) (fun _ h => h.1)); have n3_ := Aside0.mk (KeepBut.trans HK.out hk (.inl rfl)); have n4_ := Aside0.mk (hb); have n5_ := Aside0.mk (hi); clear a0 a3 a1 HK HB HI0; have a0 := n0_; have a3 := n1_; have a1 := n2_; have HK := n3_; have HB := n4_; have HI0 := n5_; clear n0_ n1_ n2_ n3_ n4_ n5_; (try clear hb); (try clear hb2); (try clear hk); (try clear hi)) | ((with_reducible refine gate_callee (f := 38) rfl ?_); refine goesA_ (some 47) rfl rfl Try.func38 (by kernel_rfl) rfl #[.pointer (some ⟨g, 0, none⟩), .int .i64 10] rfl ?_; (with_reducible refine (spec_l1Next.calls g s0_0 t816 10 t826 t827 w0 _ ?side1 ?side2 cb.out).mono ?_); (case side1 => exact HI0.out); (case side2 => exact HB.out); rintro e w84 ⟨rfl, hi, hb, hk⟩; refine ⟨_, rfl, ?_⟩; have n0_ := Aside0.mk (Kd.R_mono (Kd.R_keep (IsS70.apart (show IsS70 w0 _ g s0_0 t816 from HI0.out) a0.out (by decide)) hk (fun _ h => h.2)) (fun _ h => h.1)); have n1_ := Aside0.mk (KeepBut.blk hk a3.out a6.out (by simp)); have n2_ := Aside0.mk (Kd.R_mono (Kd.R_keep (IsS70.apart (show IsS70 w0 _ g s0_0 t816 from HI0.out) a1.out (by decide)) hk (fun _ h => h.2)) (fun _ h => h.1)); have n3_ := Aside0.mk (KeepBut.trans HK.out hk (.inl rfl)); have n4_ := Aside0.mk (hb); have n5_ := Aside0.mk (hi); clear a0 a3 a1 HK HB HI0; have a0 := n0_; have a3 := n1_; have a1 := n2_; have HK := n3_; have HB := n4_; have HI0 := n5_; clear n0_ n1_ n2_ n3_ n4_ n5_; (try clear hb); (try clear hb2); (try clear hk); (try clear hi)) | ((with_reducible refine gate_callee (f := 38) rfl ?_); refine goesA_ (some 49) rfl rfl Try.func38 (by kernel_rfl) rfl #[.pointer (some ⟨g, 0, none⟩), .int .i64 3] rfl ?_; (with_reducible refine (spec_l1Next.calls g s0_0 t827 3 t828 t829 w0 _ ?side1 ?side2 cc.out).mono ?_); (case side1 => exact HI0.out); (case side2 => exact HB.out); rintro e w85 ⟨rfl, hi, hb, hk⟩; refine ⟨_, rfl, ?_⟩; have n0_ := Aside0.mk (Kd.R_mono (Kd.R_keep (IsS70.apart (show IsS70 w0 _ g s0_0 t827 from HI0.out) a0.out (by decide)) hk (fun _ h => h.2)) (fun _ h => h.1)); have n1_ := Aside0.mk (KeepBut.blk hk a3.out a6.out (by simp)); have n2_ := Aside0.mk (Kd.R_mono (Kd.R_keep (IsS70.apart (show IsS70 w0 _ g s0_0 t827 from HI0.out) a1.out (by decide)) hk (fun _ h => h.2)) (fun _ h => h.1)); have n3_ := Aside0.mk (KeepBut.trans HK.out hk (.inl rfl)); have n4_ := Aside0.mk (hb); have n5_ := Aside0.mk (hi); clear a0 a3 a1 HK HB HI0; have a0 := n0_; have a3 := n1_; have a1 := n2_; have HK := n3_; have HB := n4_; have HI0 := n5_; clear n0_ n1_ n2_ n3_ n4_ n5_; (try clear hb); (try clear hb2); (try clear hk); (try clear hi); have p67 : 0 ≤ (t826 : Int) := of_decide_eq_true (by first | (with_reducible assumption) | assumption); have q67 : (t826 : Int) < ((t808.length : Int) : Int) := of_decide_eq_true (by first | (with_reducible assumption) | assumption); obtain ⟨go67, d2, eo67, b9, gl67, cl67, HG67⟩ := Kd.R_form a1.out (by omega); (first | cases eo67 | (injection eo67 with ea_ en_ ec_; (first | subst ea_ | (injection ea_ with ea_; subst ea_)); subst ec_; clear en_)); have af := Aside0.mk b9; have GG67 := Aside0.mk HG67; clear b9 gl67 HG67; obtain ⟨hx67_0, hf67_0⟩ := Kd.R_celln 0 a1.out (t826 : Int) p67 q67; replace p67 := eq_true p67; replace q67 := eq_true q67; have n_ := Aside0.mk (Kd.R_mono (ok' := (fun k_ => some k_ ≠ (.slice aa x803006_3.length ab : Value).ownBlock)) a1.out (fun k_ hk => hk.2)); clear a1; have a1 := n_; clear n_; obtain ⟨hy86_, hz86_⟩ := Kd.R_celln 0 a1.out (t826 : Int) (of_decide_eq_true (by first | (with_reducible assumption) | assumption)) (of_decide_eq_true (by first | (with_reducible assumption) | assumption)); have HP86 := Kd.R_putg a1.out (t826 : Int) ((t828) % 256)) | ((with_reducible refine gate_store (t := 5) (p := 51) rfl ?_); refine store_event (t := 5) (p := 51) (v := ?vo_w87) (w1 := (w85.setCell ⟨go67, (t826 : Int).toNat, none⟩ (.int .u8 ((t828) % 256)))) ?hg ?ho ?hn ?hr ?_; (case ho => rfl); (case hg => rfl); (case hn => rfl); (case hr => first | (go_simp; done) | (go_simp; rfl)); intro w87 hw; have hg : w85.grownBy w87 (some go67) := (by rw [hw]; exact HP86.2); have hp_ : Kd.R (Kd.int .u8) 5 w87 w.heap.size (fun k_ => some k_ ≠ (.slice aa x803006_3.length ab : Value).ownBlock) (.slice (some ⟨go67, 0, none⟩) t808.length a7) y830 := (by rw [hw, bg.out]; exact HP86.1); clear HP86; have n0_ := Aside0.mk (Kd.R_after (v := (.slice (some ⟨go67, 0, none⟩) t808.length a7)) (v1 := (.slice (some ⟨go67, 0, none⟩) t808.length a7)) (ok := (fun _ => True)) a0.out hg (.inl rfl)); have n1_ := Aside0.mk (blk_grown a3.out hg (Kd.R_ne a1.out a3.out (by decide))); have n2_ := Aside0.mk (IsS70.grown HI0.out hg (IsS70.own_ne HI0.out a1.out (by decide))); have n3_ := Aside0.mk (hp_); have n4_ := Aside0.mk ((by rw [hw]; exact lS1_ (HB.out) (Nat.le_trans HL.out af.out) : Below w0.heap.size w0 w87)); have n5_ := Aside0.mk (KeepBut.trans HK.out (KeepBut.of_grown hg g) (Kd.R_base2 a1.out)); clear a0 a3 HI0 a1 HB HK; have a0 := n0_; have a3 := n1_; have HI0 := n2_; have a1 := n3_; have HB := n4_; have HK := n5_; clear n0_ n1_ n2_ n3_ n4_ n5_ hg hw hp_; have p69 : 0 ≤ (10 : Int) := (by omega); have q69 : (10 : Int) < ((t808.length : Int) : Int) := of_decide_eq_true (by first | (with_reducible assumption) | assumption); have qi69 : (10 < t808.length) = True := eq_true (by omega); obtain ⟨hx69_0, hf69_0⟩ := Kd.R_celln 0 a1.out (10 : Int) p69 q69; (try rw [show ((10 : Int)).toNat = 10 from rfl] at hx69_0); (try simp only [Nat.reduceMul, Nat.zero_mul, Nat.zero_add, Nat.reduceAdd] at hx69_0); (try rw [show ((10 : Int)).toNat = 10 from rfl] at hf69_0); (try simp only [Nat.reduceMul, Nat.zero_mul, Nat.zero_add, Nat.reduceAdd] at hf69_0); replace p69 := eq_true p69; replace q69 := eq_true q69; obtain ⟨hy88_, hz88_⟩ := Kd.R_celln 0 a1.out (10 : Int) (by omega) (of_decide_eq_true (by first | (with_reducible assumption) | assumption)); (try simp only [Int.reduceToNat, Int.toNat_zero, Int.toNat_ofNat, Nat.reduceMul, Nat.zero_mul, Nat.zero_add] at hy88_ hz88_); (try rw [show ((10 : Int)).toNat = 10 from rfl] at hy88_); (try rw [show ((10 : Int)).toNat = 10 from rfl] at hz88_); have HP88 := Kd.R_putg a1.out (10 : Int) 0) | ((with_reducible refine gate_store (t := 5) (p := 53) rfl ?_); refine store_event (t := 5) (p := 53) (v := ?vo_w89) (w1 := (w87.setCell ⟨go67, (10 : Int).toNat, none⟩ (.int .u8 0))) ?hg ?ho ?hn ?hr ?_; (case ho => rfl); (case hg => rfl); (case hn => rfl); (case hr => first | (go_simp; done) | (go_simp; rfl)); intro w89 hw; have hg : w87.grownBy w89 (some go67) := (by rw [hw]; exact HP88.2); have hp_ : Kd.R (Kd.int .u8) 5 w89 w.heap.size (fun k_ => some k_ ≠ (.slice aa x803006_3.length ab : Value).ownBlock) (.slice (some ⟨go67, 0, none⟩) t808.length a7) y831 := (by rw [hw, bh.out]; exact HP88.1); clear HP88; have n0_ := Aside0.mk (Kd.R_after (v := (.slice (some ⟨go67, 0, none⟩) t808.length a7)) (v1 := (.slice (some ⟨go67, 0, none⟩) t808.length a7)) (ok := (fun _ => True)) a0.out hg (.inl rfl)); have n1_ := Aside0.mk (blk_grown a3.out hg (Kd.R_ne a1.out a3.out (by decide))); have n2_ := Aside0.mk (IsS70.grown HI0.out hg (IsS70.own_ne HI0.out a1.out (by decide))); have n3_ := Aside0.mk (hp_); have n4_ := Aside0.mk ((by rw [hw]; exact lS1_ (HB.out) (Nat.le_trans HL.out af.out) : Below w0.heap.size w0 w89)); have n5_ := Aside0.mk (KeepBut.trans HK.out (KeepBut.of_grown hg g) (Kd.R_base2 a1.out)); clear a0 a3 HI0 a1 HB HK; have a0 := n0_; have a3 := n1_; have HI0 := n2_; have a1 := n3_; have HB := n4_; have HK := n5_; clear n0_ n1_ n2_ n3_ n4_ n5_ hg hw hp_; have p71 : 0 ≤ (11 : Int) := (by omega); have q71 : (11 : Int) < ((t808.length : Int) : Int) := of_decide_eq_true (by first | (with_reducible assumption) | assumption); have qi71 : (11 < t808.length) = True := eq_true (by omega); obtain ⟨hx71_0, hf71_0⟩ := Kd.R_celln 0 a1.out (11 : Int) p71 q71; (try rw [show ((11 : Int)).toNat = 11 from rfl] at hx71_0); (try simp only [Nat.reduceMul, Nat.zero_mul, Nat.zero_add, Nat.reduceAdd] at hx71_0); (try rw [show ((11 : Int)).toNat = 11 from rfl] at hf71_0); (try simp only [Nat.reduceMul, Nat.zero_mul, Nat.zero_add, Nat.reduceAdd] at hf71_0); replace p71 := eq_true p71; replace q71 := eq_true q71; obtain ⟨hy90_, hz90_⟩ := Kd.R_celln 0 a1.out (11 : Int) (by omega) (of_decide_eq_true (by first | (with_reducible assumption) | assumption)); (try simp only [Int.reduceToNat, Int.toNat_zero, Int.toNat_ofNat, Nat.reduceMul, Nat.zero_mul, Nat.zero_add] at hy90_ hz90_); (try rw [show ((11 : Int)).toNat = 11 from rfl] at hy90_); (try rw [show ((11 : Int)).toNat = 11 from rfl] at hz90_); have HP90 := Kd.R_putg a1.out (11 : Int) 0) | ((with_reducible refine gate_store (t := 5) (p := 55) rfl ?_); refine store_event (t := 5) (p := 55) (v := ?vo_w91) (w1 := (w89.setCell ⟨go67, (11 : Int).toNat, none⟩ (.int .u8 0))) ?hg ?ho ?hn ?hr ?_; (case ho => rfl); (case hg => rfl); (case hn => rfl); (case hr => first | (go_simp; done) | (go_simp; rfl)); intro w91 hw; have hg : w89.grownBy w91 (some go67) := (by rw [hw]; exact HP90.2); have hp_ : Kd.R (Kd.int .u8) 5 w91 w.heap.size (fun k_ => some k_ ≠ (.slice aa x803006_3.length ab : Value).ownBlock) (.slice (some ⟨go67, 0, none⟩) t808.length a7) y832 := (by rw [hw, bi.out]; exact HP90.1); clear HP90; have n0_ := Aside0.mk (Kd.R_after (v := (.slice (some ⟨go67, 0, none⟩) t808.length a7)) (v1 := (.slice (some ⟨go67, 0, none⟩) t808.length a7)) (ok := (fun _ => True)) a0.out hg (.inl rfl)); have n1_ := Aside0.mk (blk_grown a3.out hg (Kd.R_ne a1.out a3.out (by decide))); have n2_ := Aside0.mk (IsS70.grown HI0.out hg (IsS70.own_ne HI0.out a1.out (by decide))); have n3_ := Aside0.mk (hp_); have n4_ := Aside0.mk ((by rw [hw]; exact lS1_ (HB.out) (Nat.le_trans HL.out af.out) : Below w0.heap.size w0 w91)); have n5_ := Aside0.mk (KeepBut.trans HK.out (KeepBut.of_grown hg g) (Kd.R_base2 a1.out)); clear a0 a3 HI0 a1 HB HK; have a0 := n0_; have a3 := n1_; have HI0 := n2_; have a1 := n3_; have HB := n4_; have HK := n5_; clear n0_ n1_ n2_ n3_ n4_ n5_ hg hw hp_; have hlx92 := (Kd.R_reads' a1.out).1; have q92 : (20 : Int) ≤ ((t808.length : Int) : Int) := of_decide_eq_true (by first | (with_reducible assumption) | assumption); obtain ⟨i092, hi092, _, hsz92, _⟩ := info_parts info5; have hroom92 : t808.length ≤ a7 := (Kd.R_reads' a1.out).2.1; have hroomc92 : y832.length ≤ a7 := (by rw [← hlx92]; exact hroom92); have hC92 : Kd.C (Kd.int .u8) _ (some ⟨go67, 0, none⟩) y832.length y832 := (Kd.R_reads' a1.out).2.2; have ba := cut_to (P := Try.prog) 22 5 .i64 Try.underlying22 hi092 (some ⟨go67, 0, none⟩) t808.length a7 20 (by omega) q92 hroom92; have hr92 := Kd.C_take (m := 20) hC92 (by omega); have hy92 : y833.length = (20 : Int).toNat := (by rw [ar.out, List.length_take]; omega); rw [← ar.out] at hr92; rw [← hy92] at ba; have ac := Aside0.mk hr92; have bl := Aside0.mk (show y833.length ≤ a7 from by omega); clear hr92 hC92 hroom92 hi092 hsz92 hroomc92; have KY92 := Aside0.mk hy92; clear hy92; have KE92 := Aside0.mk hlx92; have KL92 := Aside0.mk (show 20 ≤ y832.length from by omega); clear hlx92; replace q92 := eq_true q92) | ((with_reducible refine gate_callee (f := 74) rfl ?_); refine goesA_ (some 58) rfl rfl Try.func74 (by kernel_rfl) rfl #[.slice (some ⟨go67, 0, none⟩) y833.length a7] rfl ?_; (with_reducible refine (spec_SumWords.calls kj3 _ _ y833 t837 _ ?side1 ?side2 cd.out).mono ?_); (case side1 => repeat (first | exact (by repeat (first | (with_reducible exact ac.out) | (with_reducible refine Kd.C_alloc ?_ _) | (with_reducible refine Kd.C_drewN ?_ _) | (with_reducible refine Kd.C_drew ?_) | exact ac.out)) | (with_reducible refine Kd.C_alloc ?_ _) | (with_reducible refine Kd.C_drewN ?_ _) | (with_reducible refine Kd.C_drew ?_))); (case side2 => exact bl.out); rintro e w' ⟨rfl, ⟨nd, rfl⟩⟩; refine ⟨_, rfl, ?_⟩; (try (rw [drewN_self w91]; generalize hq_ : World.drewN w91 _ = w91; have n0_ : Aside0 (Kd.R (Kd.int .u8) 5 w91 w.heap.size (fun k_ => some k_ ≠ (.slice aa x803006_3.length ab : Value).ownBlock) (.slice (some ⟨go67, 0, none⟩) t808.length a7) y832) := ⟨by rw [← hq_]; exact (by (with_reducible repeat first | apply rA_ | apply rN_ | apply rD_); exact a1.out)⟩; have n1_ : Aside0 (Kd.R (Kd.int .u8) 5 w91 w.heap.size (fun k_ => True ∧ some k_ ≠ (.slice (some ⟨go67, 0, none⟩) t808.length a7 : Value).ownBlock) (.slice aa x803006_3.length ab) x803006_3) := ⟨by rw [← hq_]; exact (by (with_reducible repeat first | apply rA_ | apply rN_ | apply rD_); exact Kd.R_mono a0.out (fun _ hk => ⟨trivial, hk.2⟩))⟩; have n2_ : Aside0 (w91.heap[a8]? = some (.cells #[.int .i64 t792, .int .i64 t793, .int .i64 t794, .int .i64 t795, .int .i64 t796, .int .i64 t797, .slice aa x803006_3.length ab] 34 (0, 0))) := ⟨by rw [← hq_]; exact (by (with_reducible repeat first | apply bN_ | apply bD_ | apply bA_); exact a3.out)⟩; have n3_ : Aside0 (IsS70 w0 w91 g s0_0 t829) := ⟨by rw [← hq_]; exact (by repeat (first | (with_reducible first | exact HI0.out | apply IsS70.alloc | apply IsS70.drewN | apply IsS70.drew | apply IsS70.set_1 | refine IsS70.far ?_ a2.out _) | exact HI0.out))⟩; have n4_ : Aside0 (KeepBut w w91 g none) := ⟨by rw [← hq_]; exact (by repeat (first | (with_reducible first | exact HK.out | apply KeepBut.set_ | apply kN_ | apply kD_ | apply kA_ | refine kF_ ?_ a4.out _) | exact HK.out))⟩; have n5_ : Aside0 (Below w0.heap.size w0 w91) := ⟨by rw [← hq_]; exact (by repeat (first | (with_reducible first | exact HB.out | apply lA1_ | apply lN_ | apply lD_ | refine lS1_ ?_ (IsS70.ge HI0.out) | refine lS1_ ?_ a5.out) | exact HB.out))⟩; have n6_ : Aside0 (Kd.C (Kd.int .u8) w91 (some ⟨go67, 0, none⟩) y833.length y833) := ⟨by rw [← hq_]; exact (by repeat (first | (with_reducible exact ac.out) | (with_reducible refine Kd.C_alloc ?_ _) | (with_reducible refine Kd.C_drewN ?_ _) | (with_reducible refine Kd.C_drew ?_) | exact ac.out))⟩; clear a1 a0 a3 HI0 HK HB ac hq_; have a1 := n0_; have a0 := n1_; have a3 := n2_; have HI0 := n3_; have HK := n4_; have HB := n5_; have ac := n6_; clear n0_ n1_ n2_ n3_ n4_ n5_ n6_)); have p74 : 0 ≤ (10 : Int) := (by omega); have q74 : (10 : Int) < ((t808.length : Int) : Int) := of_decide_eq_true (by first | (with_reducible assumption) | assumption); have qi74 : (10 < t808.length) = True := eq_true (by omega); obtain ⟨hx74_0, hf74_0⟩ := Kd.R_celln 0 a1.out (10 : Int) p74 q74; (try rw [show ((10 : Int)).toNat = 10 from rfl] at hx74_0); (try simp only [Nat.reduceMul, Nat.zero_mul, Nat.zero_add, Nat.reduceAdd] at hx74_0); (try rw [show ((10 : Int)).toNat = 10 from rfl] at hf74_0); (try simp only [Nat.reduceMul, Nat.zero_mul, Nat.zero_add, Nat.reduceAdd] at hf74_0); replace p74 := eq_true p74; replace q74 := eq_true q74; obtain ⟨hy93_, hz93_⟩ := Kd.R_celln 0 a1.out (10 : Int) (by omega) (of_decide_eq_true (by first | (with_reducible assumption) | assumption)); (try simp only [Int.reduceToNat, Int.toNat_zero, Int.toNat_ofNat, Nat.reduceMul, Nat.zero_mul, Nat.zero_add] at hy93_ hz93_); (try rw [show ((10 : Int)).toNat = 10 from rfl] at hy93_); (try rw [show ((10 : Int)).toNat = 10 from rfl] at hz93_); have HP93 := Kd.R_putg a1.out (10 : Int) ((wrap64 (Int.tdiv t837 256)) % 256)) | ((with_reducible refine gate_store (t := 5) (p := 63) rfl ?_); refine store_event (t := 5) (p := 63) (v := ?vo_w94) (w1 := (w91.setCell ⟨go67, (10 : Int).toNat, none⟩ (.int .u8 ((wrap64 (Int.tdiv t837 256)) % 256)))) ?hg ?ho ?hn ?hr ?_; (case ho => rfl); (case hg => rfl); (case hn => rfl); (case hr => first | (go_simp; done) | (go_simp; rfl)); intro w94 hw; have hg : w91.grownBy w94 (some go67) := (by rw [hw]; exact HP93.2); have hp_ : Kd.R (Kd.int .u8) 5 w94 w.heap.size (fun k_ => some k_ ≠ (.slice aa x803006_3.length ab : Value).ownBlock) (.slice (some ⟨go67, 0, none⟩) t808.length a7) y838 := (by rw [hw, bj.out]; exact HP93.1); clear HP93; have n2_ := Aside0.mk (IsS70.grown (by repeat (first | (with_reducible first | exact HI0.out | apply IsS70.alloc | apply IsS70.drewN | apply IsS70.drew | apply IsS70.set_1 | refine IsS70.far ?_ a2.out _) | exact HI0.out)) hg (IsS70.own_ne HI0.out a1.out (by decide))); have n3_ := Aside0.mk (hp_); have n4_ := Aside0.mk ((by rw [hw]; exact lS1_ (HB.out) (Nat.le_trans HL.out af.out) : Below w0.heap.size w0 w94)); have n5_ := Aside0.mk (KeepBut.trans (by repeat (first | (with_reducible first | exact HK.out | apply KeepBut.set_ | apply kN_ | apply kD_ | apply kA_ | refine kF_ ?_ a4.out _) | exact HK.out)) (KeepBut.of_grown hg g) (Kd.R_base2 a1.out)); clear HI0 a1 HB HK; have HI0 := n2_; have a1 := n3_; have HB := n4_; have HK := n5_; clear n2_ n3_ n4_ n5_ hg hw hp_; have p75 : 0 ≤ (11 : Int) := (by omega); have q75 : (11 : Int) < ((t808.length : Int) : Int) := of_decide_eq_true (by first | (with_reducible assumption) | assumption); have qi75 : (11 < t808.length) = True := eq_true (by omega); obtain ⟨hx75_0, hf75_0⟩ := Kd.R_celln 0 a1.out (11 : Int) p75 q75; (try rw [show ((11 : Int)).toNat = 11 from rfl] at hx75_0); (try simp only [Nat.reduceMul, Nat.zero_mul, Nat.zero_add, Nat.reduceAdd] at hx75_0); (try rw [show ((11 : Int)).toNat = 11 from rfl] at hf75_0); (try simp only [Nat.reduceMul, Nat.zero_mul, Nat.zero_add, Nat.reduceAdd] at hf75_0); replace p75 := eq_true p75; replace q75 := eq_true q75; obtain ⟨hy95_, hz95_⟩ := Kd.R_celln 0 a1.out (11 : Int) (by omega) (of_decide_eq_true (by first | (with_reducible assumption) | assumption)); (try simp only [Int.reduceToNat, Int.toNat_zero, Int.toNat_ofNat, Nat.reduceMul, Nat.zero_mul, Nat.zero_add] at hy95_ hz95_); (try rw [show ((11 : Int)).toNat = 11 from rfl] at hy95_); (try rw [show ((11 : Int)).toNat = 11 from rfl] at hz95_); have HP95 := Kd.R_putg a1.out (11 : Int) ((Int.tmod t837 256) % 256)) | ((with_reducible refine gate_store (t := 5) (p := 68) rfl ?_); refine store_event (t := 5) (p := 68) (v := ?vo_w96) (w1 := (w94.setCell ⟨go67, (11 : Int).toNat, none⟩ (.int .u8 ((Int.tmod t837 256) % 256)))) ?hg ?ho ?hn ?hr ?_; (case ho => rfl); (case hg => rfl); (case hn => rfl); (case hr => first | (go_simp; done) | (go_simp; rfl)); intro w96 hw; have hg : w94.grownBy w96 (some go67) := (by rw [hw]; exact HP95.2); have hp_ : Kd.R (Kd.int .u8) 5 w96 w.heap.size (fun k_ => some k_ ≠ (.slice aa x803006_3.length ab : Value).ownBlock) (.slice (some ⟨go67, 0, none⟩) t808.length a7) y839 := (by rw [hw, bk.out]; exact HP95.1); clear HP95; have n2_ := Aside0.mk (IsS70.grown (by repeat (first | (with_reducible first | exact HI0.out | apply IsS70.alloc | apply IsS70.drewN | apply IsS70.drew | apply IsS70.set_1 | refine IsS70.far ?_ a2.out _) | exact HI0.out)) hg (IsS70.own_ne HI0.out a1.out (by decide))); have n3_ := Aside0.mk (hp_); have n4_ := Aside0.mk ((by rw [hw]; exact lS1_ (HB.out) (Nat.le_trans HL.out af.out) : Below w0.heap.size w0 w96)); have n5_ := Aside0.mk (KeepBut.trans (by repeat (first | (with_reducible first | exact HK.out | apply KeepBut.set_ | apply kN_ | apply kD_ | apply kA_ | refine kF_ ?_ a4.out _) | exact HK.out)) (KeepBut.of_grown hg g) (Kd.R_base2 a1.out)); clear HI0 a1 HB HK; have HI0 := n2_; have a1 := n3_; have HB := n4_; have HK := n5_; clear n2_ n3_ n4_ n5_ hg hw hp_))
             go_ret
             exact ⟨_, by first | rfl | (simp [errW_none, errW_some] <;> rfl) | (simp [*, errW_none, errW_some] <;> rfl), by (with_reducible repeat first | apply rA_ | apply rN_ | apply rD_); exact Kd.R_mono a1.out (fun _ hk => trivial), by repeat (first | (with_reducible first | exact HI0.out | apply IsS70.alloc | apply IsS70.drewN | apply IsS70.drew | apply IsS70.set_1 | refine IsS70.far ?_ a2.out _) | exact HI0.out), by repeat (first | (with_reducible first | exact HB.out | apply lA1_ | apply lN_ | apply lD_ | refine lS1_ ?_ (IsS70.ge HI0.out) | refine lS1_ ?_ a5.out) | exact HB.out), by repeat (first | (with_reducible first | exact HK.out | apply KeepBut.set_ | apply kN_ | apply kD_ | apply kA_ | refine kF_ ?_ a4.out _) | exact HK.out)⟩
            ·rw [if_neg c72] at H
             exact absurd H (by simp)
           ·rw [if_neg c70] at H
            exact absurd H (by simp)
          ·rw [if_neg c68] at H
           exact absurd H (by simp)
         ·rw [if_neg c66] at H
          exact absurd H (by simp)
        ·rw [if_neg c65] at H
         exact absurd H (by simp)
       ·rw [if_neg c62] at H
        have c62b0 : (t815 == 3) = false := beq_eq_false_iff_ne.mpr c62
        have c62b1 : (t815 != 3) = true := bne_iff_ne.mpr c62
        by_cases c97 : t815 = 4
        ·rw [if_pos c97] at H
         have c97b0 : (t815 == 4) = true := beq_iff_eq.mpr c97
         have c97b1 : (t815 != 4) = false := bne_eq_false_iff_eq.mpr c97
         clear c97
         by_cases c98 : t808.length + 200 < 140737488355328
         ·rw [if_pos c98] at H
          have bm := Aside0.mk c98
          clear c98
          obtain ⟨y840, hy840⟩ : ∃ y_ : List Int, y_ = (t808 ++ List.replicate 200 0) := ⟨_, rfl⟩
          replace H : (some (y840, t816)) = some (r1, r2) := by first | (rw [hy840]; with_reducible exact H) | (have H2_ := (Option.bind_some _ _).symm.trans H; rw [hy840]; with_reducible exact H2_) | (have H2_ := (Option.bind_some _ _).symm.trans H; with_reducible exact H2_) | with_reducible exact H | (rw [hy840]; exact H) | exact H
          have bn := Aside0.mk hy840
          clear hy840
          simp only [Option.some.injEq, Prod.mk.injEq] at H
          obtain ⟨rfl, rfl⟩ := H
          have ct := a6.out
          have cu := a2.out
          obtain ⟨_, _, _, _, _, _, _, _, _, _, _, _, _, _⟩ := bc7 a3.out
          obtain ⟨ai, aj, eo101⟩ := Kd.R_slice a0.out
          subst eo101
          go_wp2_with (first | ((with_reducible refine gate_callee (f := 61) rfl ?_); refine goesA_ (some 14) rfl rfl Try.func61 (by kernel_rfl) rfl #[.agg #[.int .i64 t792, .int .i64 t793, .int .i64 t794, .int .i64 t795, .int .i64 t796, .int .i64 t797, .slice ai x803006_3.length aj]] rfl ?_; (with_reducible refine (spec_l2Build.calls kj3 t792 t793 t794 t795 t796 t797 _ _ x803006_3 t808 _ ?side1 ?side2 ad.out).mono ?_); (case side1 => repeat (first | exact (Kd.R_reads' a0.out).2.2 | (with_reducible refine Kd.C_alloc ?_ _) | (with_reducible refine Kd.C_drewN ?_ _) | (with_reducible refine Kd.C_drew ?_))); (case side2 => exact (Kd.R_reads' a0.out).2.1); rintro e w102 ⟨v809, rfl, ho0, hb⟩; refine ⟨_, rfl, ?_⟩; have n0_ := Aside0.mk (Kd.R_elder' (by (with_reducible repeat first | apply rA_ | apply rN_ | apply rD_); exact a0.out) (Kd.R_base ho0) hb); have n1_ := Aside0.mk (Kd.R_lower (Kd.R_new' ho0 (Kd.R_lt (by (with_reducible repeat first | apply rA_ | apply rN_ | apply rD_); exact a0.out))) (keep_size (w := w) (g := g) (row := none) (by repeat (first | (with_reducible first | exact HK.out | apply KeepBut.set_ | apply kN_ | apply kD_ | apply kA_ | refine kF_ ?_ a4.out _) | exact HK.out)))); have n2_ := Aside0.mk (bB_ (g := a8) (o := .cells #[.int .i64 t792, .int .i64 t793, .int .i64 t794, .int .i64 t795, .int .i64 t796, .int .i64 t797, .slice ai x803006_3.length aj] 34 (0, 0)) (by (with_reducible repeat first | apply bN_ | apply bD_ | apply bA_); exact a3.out) hb); have n3_ := Aside0.mk (IsS70.below (by repeat (first | (with_reducible first | exact HI0.out | apply IsS70.alloc | apply IsS70.drewN | apply IsS70.drew | apply IsS70.set_1 | refine IsS70.far ?_ a2.out _) | exact HI0.out)) hb); have n4_ := Aside0.mk (KeepBut.trans (by repeat (first | (with_reducible first | exact HK.out | apply KeepBut.set_ | apply kN_ | apply kD_ | apply kA_ | refine kF_ ?_ a4.out _) | exact HK.out)) (KeepBut.of_below hb g none) (.inl rfl)); have n5_ := Aside0.mk (lP_ (by repeat (first | (with_reducible first | exact HB.out | apply lA1_ | apply lN_ | apply lD_ | refine lS1_ ?_ (IsS70.ge HI0.out) | refine lS1_ ?_ a5.out) | exact HB.out)) hb); clear a0 a3 HI0 HK HB; have a0 := n0_; have a1 := n1_; have a3 := n2_; have HI0 := n3_; have HK := n4_; have HB := n5_; clear n0_ n1_ n2_ n3_ n4_ n5_; (try clear hb); (try clear hb2); (try clear hk); (try clear hi); (try clear ho0)) | ((with_reducible refine gate_callee (f := 41) rfl ?_); refine goesA_ (some 16) rfl rfl Try.func41 (by kernel_rfl) rfl #[.pointer (some ⟨g, 0, none⟩), .int .i64 3] rfl ?_; (with_reducible refine (spec_l1Chance.calls g s0_0 t804 3 true t812 w0 _ ?side1 ?side2 ae.out).mono ?_); (case side1 => exact HI0.out); (case side2 => exact HB.out); rintro e w103 ⟨rfl, hi, hb, hk⟩; refine ⟨_, rfl, ?_⟩; have n0_ := Aside0.mk (Kd.R_mono (Kd.R_keep (IsS70.apart (show IsS70 w0 _ g s0_0 t804 from HI0.out) a0.out (by decide)) hk (fun _ h => h.2)) (fun _ h => h.1)); have n1_ := Aside0.mk (KeepBut.blk hk a3.out a6.out (by simp)); have n2_ := Aside0.mk (Kd.R_mono (Kd.R_keep (IsS70.apart (show IsS70 w0 _ g s0_0 t804 from HI0.out) a1.out (by decide)) hk (fun _ h => h.2)) (fun _ h => h.1)); have n3_ := Aside0.mk (KeepBut.trans HK.out hk (.inl rfl)); have n4_ := Aside0.mk (hb); have n5_ := Aside0.mk (hi); clear a0 a3 a1 HK HB HI0; have a0 := n0_; have a3 := n1_; have a1 := n2_; have HK := n3_; have HB := n4_; have HI0 := n5_; clear n0_ n1_ n2_ n3_ n4_ n5_; (try clear hb); (try clear hb2); (try clear hk); (try clear hi); obtain ⟨bo, bp, eo104⟩ := Kd.R_slice a1.out; subst eo104) | ((with_reducible refine gate_callee (f := 38) rfl ?_); refine goesA_ (some 22) rfl rfl Try.func38 (by kernel_rfl) rfl #[.pointer (some ⟨g, 0, none⟩), .int .i64 (t808.length : Int)] rfl ?_; (with_reducible refine (spec_l1Next.calls g s0_0 t812 (t808.length : Int) t813 t814 w0 _ ?side1 ?side2 ag.out).mono ?_); (case side1 => exact HI0.out); (case side2 => exact HB.out); rintro e w105 ⟨rfl, hi, hb, hk⟩; refine ⟨_, rfl, ?_⟩; have n0_ := Aside0.mk (Kd.R_mono (Kd.R_keep (IsS70.apart (show IsS70 w0 _ g s0_0 t812 from HI0.out) a0.out (by decide)) hk (fun _ h => h.2)) (fun _ h => h.1)); have n1_ := Aside0.mk (KeepBut.blk hk a3.out a6.out (by simp)); have n2_ := Aside0.mk (Kd.R_mono (Kd.R_keep (IsS70.apart (show IsS70 w0 _ g s0_0 t812 from HI0.out) a1.out (by decide)) hk (fun _ h => h.2)) (fun _ h => h.1)); have n3_ := Aside0.mk (KeepBut.trans HK.out hk (.inl rfl)); have n4_ := Aside0.mk (hb); have n5_ := Aside0.mk (hi); clear a0 a3 a1 HK HB HI0; have a0 := n0_; have a3 := n1_; have a1 := n2_; have HK := n3_; have HB := n4_; have HI0 := n5_; clear n0_ n1_ n2_ n3_ n4_ n5_; (try clear hb); (try clear hb2); (try clear hk); (try clear hi)) | ((with_reducible refine gate_callee (f := 38) rfl ?_); refine goesA_ (some 24) rfl rfl Try.func38 (by kernel_rfl) rfl #[.pointer (some ⟨g, 0, none⟩), .int .i64 6] rfl ?_; (with_reducible refine (spec_l1Next.calls g s0_0 t814 6 t815 t816 w0 _ ?side1 ?side2 ah.out).mono ?_); (case side1 => exact HI0.out); (case side2 => exact HB.out); rintro e w106 ⟨rfl, hi, hb, hk⟩; refine ⟨_, rfl, ?_⟩; have n0_ := Aside0.mk (Kd.R_mono (Kd.R_keep (IsS70.apart (show IsS70 w0 _ g s0_0 t814 from HI0.out) a0.out (by decide)) hk (fun _ h => h.2)) (fun _ h => h.1)); have n1_ := Aside0.mk (KeepBut.blk hk a3.out a6.out (by simp)); have n2_ := Aside0.mk (Kd.R_mono (Kd.R_keep (IsS70.apart (show IsS70 w0 _ g s0_0 t814 from HI0.out) a1.out (by decide)) hk (fun _ h => h.2)) (fun _ h => h.1)); have n3_ := Aside0.mk (KeepBut.trans HK.out hk (.inl rfl)); have n4_ := Aside0.mk (hb); have n5_ := Aside0.mk (hi); clear a0 a3 a1 HK HB HI0; have a0 := n0_; have a3 := n1_; have a1 := n2_; have HK := n3_; have HB := n4_; have HI0 := n5_; clear n0_ n1_ n2_ n3_ n4_ n5_; (try clear hb); (try clear hb2); (try clear hk); (try clear hi)) | (at_builtin; refine Kd.R_append_zeros (Kd.int .u8) w.heap.size rfl (.tmp 71) (.const (.int .i64 200)) 22 3 5 (.int .u8 0) 1 rfl Try.underlying22 Try.underlying3 info5 rfl (by decide) (by omega) (.slice bo t808.length bp) t808 0 (200 : Int) (fun k_ => some k_ ≠ (.slice ai x803006_3.length aj : Value).ownBlock) rfl rfl rfl ?aF ?aO (by omega) (Below.refl _ _) ?aS ?aL ?_; (case aF => exact (fun k_ hk => Kd.fresh' (Kd.R_lt a0.out) k_ hk)); (case aO => exact (Kd.R_mono a1.out (fun _ hk => hk.2))); (case aS => exact (keep_size (w := w) (g := g) (row := none) HK.out)); (case aL => have := bm.out; omega); intro v841 w107 ho hb hg hat; (try rw [show ((200 : Int)).toNat = 200 from rfl] at ho); rw [← bn.out] at ho; have n0_ := Aside0.mk (Kd.R_after (ok := (fun _ => True)) a0.out hg hat); have n1_ := Aside0.mk (blk_grown a3.out hg (Kd.R_ne a1.out a3.out (by decide))); have n2_ := Aside0.mk (IsS70.grown HI0.out hg (IsS70.own_ne HI0.out a1.out (by decide))); have n3_ := Aside0.mk (below_weaken HB.out HL.out hb); have n4_ := Aside0.mk (KeepBut.trans HK.out (KeepBut.of_grown hg g) (Kd.R_base2 a1.out)); have n5_ := Aside0.mk (ho); clear a0 a3 HI0 HB HK a1; have a0 := n0_; have a3 := n1_; have HI0 := n2_; have HB := n3_; have HK := n4_; have bq := n5_; clear n0_ n1_ n2_ n3_ n4_ n5_ ho hb hg hat))
          go_ret
          exact ⟨_, by first | rfl | (simp [errW_none, errW_some] <;> rfl) | (simp [*, errW_none, errW_some] <;> rfl), by (with_reducible repeat first | apply rA_ | apply rN_ | apply rD_); exact Kd.R_mono bq.out (fun _ hk => trivial), by repeat (first | (with_reducible first | exact HI0.out | apply IsS70.alloc | apply IsS70.drewN | apply IsS70.drew | apply IsS70.set_1 | refine IsS70.far ?_ a2.out _) | exact HI0.out), by repeat (first | (with_reducible first | exact HB.out | apply lA1_ | apply lN_ | apply lD_ | refine lS1_ ?_ (IsS70.ge HI0.out) | refine lS1_ ?_ a5.out) | exact HB.out), by repeat (first | (with_reducible first | exact HK.out | apply KeepBut.set_ | apply kN_ | apply kD_ | apply kA_ | refine kF_ ?_ a4.out _) | exact HK.out)⟩
         ·rw [if_neg c98] at H
          exact absurd H (by simp)
        ·rw [if_neg c97] at H
         have c97b0 : (t815 == 4) = false := beq_eq_false_iff_ne.mpr c97
         have c97b1 : (t815 != 4) = true := bne_iff_ne.mpr c97
         simp only [Option.some.injEq, Prod.mk.injEq] at H
         obtain ⟨rfl, rfl⟩ := H
         have ce := a6.out
         have cf := a2.out
         obtain ⟨_, _, _, _, _, _, _, _, _, _, _, _, _, _⟩ := bc7 a3.out
         obtain ⟨br, bs, eo110⟩ := Kd.R_slice a0.out
         subst eo110
         go_wp2_with (first | ((with_reducible refine gate_callee (f := 61) rfl ?_); refine goesA_ (some 14) rfl rfl Try.func61 (by kernel_rfl) rfl #[.agg #[.int .i64 t792, .int .i64 t793, .int .i64 t794, .int .i64 t795, .int .i64 t796, .int .i64 t797, .slice br x803006_3.length bs]] rfl ?_; (with_reducible refine (spec_l2Build.calls kj3 t792 t793 t794 t795 t796 t797 _ _ x803006_3 t808 _ ?side1 ?side2 ad.out).mono ?_); (case side1 => repeat (first | exact (Kd.R_reads' a0.out).2.2 | (with_reducible refine Kd.C_alloc ?_ _) | (with_reducible refine Kd.C_drewN ?_ _) | (with_reducible refine Kd.C_drew ?_))); (case side2 => exact (Kd.R_reads' a0.out).2.1); rintro e w111 ⟨v809, rfl, ho0, hb⟩; refine ⟨_, rfl, ?_⟩; have n1_ := Aside0.mk (Kd.R_lower (Kd.R_new' ho0 (Kd.R_lt (by (with_reducible repeat first | apply rA_ | apply rN_ | apply rD_); exact a0.out))) (keep_size (w := w) (g := g) (row := none) (by repeat (first | (with_reducible first | exact HK.out | apply KeepBut.set_ | apply kN_ | apply kD_ | apply kA_ | refine kF_ ?_ a4.out _) | exact HK.out)))); have n3_ := Aside0.mk (IsS70.below (by repeat (first | (with_reducible first | exact HI0.out | apply IsS70.alloc | apply IsS70.drewN | apply IsS70.drew | apply IsS70.set_1 | refine IsS70.far ?_ a2.out _) | exact HI0.out)) hb); have n4_ := Aside0.mk (KeepBut.trans (by repeat (first | (with_reducible first | exact HK.out | apply KeepBut.set_ | apply kN_ | apply kD_ | apply kA_ | refine kF_ ?_ a4.out _) | exact HK.out)) (KeepBut.of_below hb g none) (.inl rfl)); have n5_ := Aside0.mk (lP_ (by repeat (first | (with_reducible first | exact HB.out | apply lA1_ | apply lN_ | apply lD_ | refine lS1_ ?_ (IsS70.ge HI0.out) | refine lS1_ ?_ a5.out) | exact HB.out)) hb); clear HI0 HK HB; have a1 := n1_; have HI0 := n3_; have HK := n4_; have HB := n5_; clear n1_ n3_ n4_ n5_; (try clear hb); (try clear hb2); (try clear hk); (try clear hi); (try clear ho0)) | ((with_reducible refine gate_callee (f := 41) rfl ?_); refine goesA_ (some 16) rfl rfl Try.func41 (by kernel_rfl) rfl #[.pointer (some ⟨g, 0, none⟩), .int .i64 3] rfl ?_; (with_reducible refine (spec_l1Chance.calls g s0_0 t804 3 true t812 w0 _ ?side1 ?side2 ae.out).mono ?_); (case side1 => repeat (first | (with_reducible first | exact HI0.out | apply IsS70.alloc | apply IsS70.drewN | apply IsS70.drew | apply IsS70.set_1 | refine IsS70.far ?_ a2.out _) | exact HI0.out)); (case side2 => repeat (first | (with_reducible first | exact HB.out | apply lA1_ | apply lN_ | apply lD_ | refine lS1_ ?_ (IsS70.ge HI0.out) | refine lS1_ ?_ a5.out) | exact HB.out)); rintro e w112 ⟨rfl, hi, hb, hk⟩; refine ⟨_, rfl, ?_⟩; have n2_ := Aside0.mk (Kd.R_mono (Kd.R_keep (IsS70.apart (show IsS70 w0 _ g s0_0 t804 from by repeat (first | (with_reducible first | exact HI0.out | apply IsS70.alloc | apply IsS70.drewN | apply IsS70.drew | apply IsS70.set_1 | refine IsS70.far ?_ a2.out _) | exact HI0.out)) (by (with_reducible repeat first | apply rA_ | apply rN_ | apply rD_); exact a1.out) (by decide)) hk (fun _ h => h.2)) (fun _ h => h.1)); have n3_ := Aside0.mk (KeepBut.trans (by repeat (first | (with_reducible first | exact HK.out | apply KeepBut.set_ | apply kN_ | apply kD_ | apply kA_ | refine kF_ ?_ a4.out _) | exact HK.out)) hk (.inl rfl)); have n4_ := Aside0.mk (hb); have n5_ := Aside0.mk (hi); clear a1 HK HB HI0; have a1 := n2_; have HK := n3_; have HB := n4_; have HI0 := n5_; clear n2_ n3_ n4_ n5_; (try clear hb); (try clear hb2); (try clear hk); (try clear hi); obtain ⟨cv, cw, eo113⟩ := Kd.R_slice a1.out; subst eo113) | ((with_reducible refine gate_callee (f := 38) rfl ?_); refine goesA_ (some 22) rfl rfl Try.func38 (by kernel_rfl) rfl #[.pointer (some ⟨g, 0, none⟩), .int .i64 (t808.length : Int)] rfl ?_; (with_reducible refine (spec_l1Next.calls g s0_0 t812 (t808.length : Int) t813 t814 w0 _ ?side1 ?side2 ag.out).mono ?_); (case side1 => repeat (first | (with_reducible first | exact HI0.out | apply IsS70.alloc | apply IsS70.drewN | apply IsS70.drew | apply IsS70.set_1 | refine IsS70.far ?_ a2.out _) | exact HI0.out)); (case side2 => repeat (first | (with_reducible first | exact HB.out | apply lA1_ | apply lN_ | apply lD_ | refine lS1_ ?_ (IsS70.ge HI0.out) | refine lS1_ ?_ a5.out) | exact HB.out)); rintro e w114 ⟨rfl, hi, hb, hk⟩; refine ⟨_, rfl, ?_⟩; have n2_ := Aside0.mk (Kd.R_mono (Kd.R_keep (IsS70.apart (show IsS70 w0 _ g s0_0 t812 from by repeat (first | (with_reducible first | exact HI0.out | apply IsS70.alloc | apply IsS70.drewN | apply IsS70.drew | apply IsS70.set_1 | refine IsS70.far ?_ a2.out _) | exact HI0.out)) (by (with_reducible repeat first | apply rA_ | apply rN_ | apply rD_); exact a1.out) (by decide)) hk (fun _ h => h.2)) (fun _ h => h.1)); have n3_ := Aside0.mk (KeepBut.trans (by repeat (first | (with_reducible first | exact HK.out | apply KeepBut.set_ | apply kN_ | apply kD_ | apply kA_ | refine kF_ ?_ a4.out _) | exact HK.out)) hk (.inl rfl)); have n4_ := Aside0.mk (hb); have n5_ := Aside0.mk (hi); clear a1 HK HB HI0; have a1 := n2_; have HK := n3_; have HB := n4_; have HI0 := n5_; clear n2_ n3_ n4_ n5_; (try clear hb); (try clear hb2); (try clear hk); (try clear hi)) | ((with_reducible refine gate_callee (f := 38) rfl ?_); refine goesA_ (some 24) rfl rfl Try.func38 (by kernel_rfl) rfl #[.pointer (some ⟨g, 0, none⟩), .int .i64 6] rfl ?_; (with_reducible refine (spec_l1Next.calls g s0_0 t814 6 t815 t816 w0 _ ?side1 ?side2 ah.out).mono ?_); (case side1 => repeat (first | (with_reducible first | exact HI0.out | apply IsS70.alloc | apply IsS70.drewN | apply IsS70.drew | apply IsS70.set_1 | refine IsS70.far ?_ a2.out _) | exact HI0.out)); (case side2 => repeat (first | (with_reducible first | exact HB.out | apply lA1_ | apply lN_ | apply lD_ | refine lS1_ ?_ (IsS70.ge HI0.out) | refine lS1_ ?_ a5.out) | exact HB.out)); rintro e w115 ⟨rfl, hi, hb, hk⟩; refine ⟨_, rfl, ?_⟩; have n2_ := Aside0.mk (Kd.R_mono (Kd.R_keep (IsS70.apart (show IsS70 w0 _ g s0_0 t814 from by repeat (first | (with_reducible first | exact HI0.out | apply IsS70.alloc | apply IsS70.drewN | apply IsS70.drew | apply IsS70.set_1 | refine IsS70.far ?_ a2.out _) | exact HI0.out)) (by (with_reducible repeat first | apply rA_ | apply rN_ | apply rD_); exact a1.out) (by decide)) hk (fun _ h => h.2)) (fun _ h => h.1)); have n3_ := Aside0.mk (KeepBut.trans (by repeat (first | (with_reducible first | exact HK.out | apply KeepBut.set_ | apply kN_ | apply kD_ | apply kA_ | refine kF_ ?_ a4.out _) | exact HK.out)) hk (.inl rfl)); have n4_ := Aside0.mk (hb); have n5_ := Aside0.mk (hi); clear a1 HK HB HI0; have a1 := n2_; have HK := n3_; have HB := n4_; have HI0 := n5_; clear n2_ n3_ n4_ n5_; (try clear hb); (try clear hb2); (try clear hk); (try clear hi)))
         go_ret
         exact ⟨_, by first | rfl | (simp [errW_none, errW_some] <;> rfl) | (simp [*, errW_none, errW_some] <;> rfl), by (with_reducible repeat first | apply rA_ | apply rN_ | apply rD_); exact Kd.R_mono a1.out (fun _ hk => trivial), by repeat (first | (with_reducible first | exact HI0.out | apply IsS70.alloc | apply IsS70.drewN | apply IsS70.drew | apply IsS70.set_1 | refine IsS70.far ?_ a2.out _) | exact HI0.out), by repeat (first | (with_reducible first | exact HB.out | apply lA1_ | apply lN_ | apply lD_ | refine lS1_ ?_ (IsS70.ge HI0.out) | refine lS1_ ?_ a5.out) | exact HB.out), by repeat (first | (with_reducible first | exact HK.out | apply KeepBut.set_ | apply kN_ | apply kD_ | apply kA_ | refine kF_ ?_ a4.out _) | exact HK.out)⟩
   ·replace c20 := Bool.eq_false_iff.mpr c20
    subst c20
    rw [if_neg (show ¬ (false = true) by decide)] at H
    simp only [Option.some.injEq, Prod.mk.injEq] at H
    obtain ⟨rfl, rfl⟩ := H
    have cg := a6.out
    have ch := a2.out
    obtain ⟨_, _, _, _, _, _, _, _, _, _, _, _, _, _⟩ := bc7 a3.out
    obtain ⟨bt, bu, eo118⟩ := Kd.R_slice a0.out
    subst eo118
    go_wp2_with (first | ((with_reducible refine gate_callee (f := 61) rfl ?_); refine goesA_ (some 14) rfl rfl Try.func61 (by kernel_rfl) rfl #[.agg #[.int .i64 t792, .int .i64 t793, .int .i64 t794, .int .i64 t795, .int .i64 t796, .int .i64 t797, .slice bt x803006_3.length bu]] rfl ?_; (with_reducible refine (spec_l2Build.calls kj3 t792 t793 t794 t795 t796 t797 _ _ x803006_3 t808 _ ?side1 ?side2 ad.out).mono ?_); (case side1 => repeat (first | exact (Kd.R_reads' a0.out).2.2 | (with_reducible refine Kd.C_alloc ?_ _) | (with_reducible refine Kd.C_drewN ?_ _) | (with_reducible refine Kd.C_drew ?_))); (case side2 => exact (Kd.R_reads' a0.out).2.1); rintro e w119 ⟨v809, rfl, ho0, hb⟩; refine ⟨_, rfl, ?_⟩; have n1_ := Aside0.mk (Kd.R_lower (Kd.R_new' ho0 (Kd.R_lt (by (with_reducible repeat first | apply rA_ | apply rN_ | apply rD_); exact a0.out))) (keep_size (w := w) (g := g) (row := none) (by repeat (first | (with_reducible first | exact HK.out | apply KeepBut.set_ | apply kN_ | apply kD_ | apply kA_ | refine kF_ ?_ a4.out _) | exact HK.out)))); have n3_ := Aside0.mk (IsS70.below (by repeat (first | (with_reducible first | exact HI0.out | apply IsS70.alloc | apply IsS70.drewN | apply IsS70.drew | apply IsS70.set_1 | refine IsS70.far ?_ a2.out _) | exact HI0.out)) hb); have n4_ := Aside0.mk (KeepBut.trans (by repeat (first | (with_reducible first | exact HK.out | apply KeepBut.set_ | apply kN_ | apply kD_ | apply kA_ | refine kF_ ?_ a4.out _) | exact HK.out)) (KeepBut.of_below hb g none) (.inl rfl)); have n5_ := Aside0.mk (lP_ (by repeat (first | (with_reducible first | exact HB.out | apply lA1_ | apply lN_ | apply lD_ | refine lS1_ ?_ (IsS70.ge HI0.out) | refine lS1_ ?_ a5.out) | exact HB.out)) hb); clear HI0 HK HB; have a1 := n1_; have HI0 := n3_; have HK := n4_; have HB := n5_; clear n1_ n3_ n4_ n5_; (try clear hb); (try clear hb2); (try clear hk); (try clear hi); (try clear ho0)) | ((with_reducible refine gate_callee (f := 41) rfl ?_); refine goesA_ (some 16) rfl rfl Try.func41 (by kernel_rfl) rfl #[.pointer (some ⟨g, 0, none⟩), .int .i64 3] rfl ?_; (with_reducible refine (spec_l1Chance.calls g s0_0 t804 3 false t812 w0 _ ?side1 ?side2 ae.out).mono ?_); (case side1 => repeat (first | (with_reducible first | exact HI0.out | apply IsS70.alloc | apply IsS70.drewN | apply IsS70.drew | apply IsS70.set_1 | refine IsS70.far ?_ a2.out _) | exact HI0.out)); (case side2 => repeat (first | (with_reducible first | exact HB.out | apply lA1_ | apply lN_ | apply lD_ | refine lS1_ ?_ (IsS70.ge HI0.out) | refine lS1_ ?_ a5.out) | exact HB.out)); rintro e w120 ⟨rfl, hi, hb, hk⟩; refine ⟨_, rfl, ?_⟩; have n2_ := Aside0.mk (Kd.R_mono (Kd.R_keep (IsS70.apart (show IsS70 w0 _ g s0_0 t804 from by repeat (first | (with_reducible first | exact HI0.out | apply IsS70.alloc | apply IsS70.drewN | apply IsS70.drew | apply IsS70.set_1 | refine IsS70.far ?_ a2.out _) | exact HI0.out)) (by (with_reducible repeat first | apply rA_ | apply rN_ | apply rD_); exact a1.out) (by decide)) hk (fun _ h => h.2)) (fun _ h => h.1)); have n3_ := Aside0.mk (KeepBut.trans (by repeat (first | (with_reducible first | exact HK.out | apply KeepBut.set_ | apply kN_ | apply kD_ | apply kA_ | refine kF_ ?_ a4.out _) | exact HK.out)) hk (.inl rfl)); have n4_ := Aside0.mk (hb); have n5_ := Aside0.mk (hi); clear a1 HK HB HI0; have a1 := n2_; have HK := n3_; have HB := n4_; have HI0 := n5_; clear n2_ n3_ n4_ n5_; (try clear hb); (try clear hb2); (try clear hk); (try clear hi)))
    go_ret
    exact ⟨_, by first | rfl | (simp [errW_none, errW_some] <;> rfl) | (simp [*, errW_none, errW_some] <;> rfl), by (with_reducible repeat first | apply rA_ | apply rN_ | apply rD_); exact Kd.R_mono a1.out (fun _ hk => trivial), by repeat (first | (with_reducible first | exact HI0.out | apply IsS70.alloc | apply IsS70.drewN | apply IsS70.drew | apply IsS70.set_1 | refine IsS70.far ?_ a2.out _) | exact HI0.out), by repeat (first | (with_reducible first | exact HB.out | apply lA1_ | apply lN_ | apply lD_ | refine lS1_ ?_ (IsS70.ge HI0.out) | refine lS1_ ?_ a5.out) | exact HB.out), by repeat (first | (with_reducible first | exact HK.out | apply KeepBut.set_ | apply kN_ | apply kD_ | apply kA_ | refine kF_ ?_ a4.out _) | exact HK.out)⟩
def spec_DrawParsePacket.f (k : Nat) (l0 : List Int) : Option (List Int) := (spec_l1Source.f l0).bind fun bt889 => ((spec_l2Wire.f k bt889.1 bt889.2).bind fun bt892 => (some bt892.1))
set_option maxHeartbeats 8000000 in
set_option maxRecDepth 100000 in
theorem spec_DrawParsePacket.calls (k : Nat) (A0 : Option Addr) (c0 : Nat) (l0 : List Int) (r : List Int) (w : World) (hr0 : Kd.C (Kd.int .u8) w A0 l0.length l0) (hc0 : l0.length ≤ c0) (h : spec_DrawParsePacket.f k l0 = some r) :
  Calls Try.prog 30 #[.slice A0 l0.length c0] w fun e w' => ∃ v0_ : Value, e = .returned (v0_) ∧ Kd.R (Kd.int .u8) 5 w' w.heap.size (fun _ => True) v0_ r ∧ Below w.heap.size w w' := by
 have HR0 := Aside0.mk hr0
 have HC0 := Aside0.mk hc0
 clear hr0 hc0
 have HB := Aside0.mk (Below.refl w.heap.size w)
 have H : ((spec_l1Source.f l0).bind fun bt889 => ((spec_l2Wire.f k bt889.1 bt889.2).bind fun bt892 => (some bt892.1))) = some r := h
 clear h
 replace H := Option.bind_eq_some_iff.mp H
 obtain ⟨⟨t889, t890⟩, A20, H⟩ := H
 try dsimp only at H
 have A2 := Aside0.mk A20
 clear A20
 replace H := Option.bind_eq_some_iff.mp H
 obtain ⟨⟨t892, t895⟩, A30, H⟩ := H
 try dsimp only at H
 have A3 := Aside0.mk A30
 clear A30
 obtain rfl := Option.some.inj H
 go_enter Try.func30, Try.ntmps30
 go_wp2_with (first | ((with_reducible refine gate_callee (f := 37) rfl ?_); refine goesA_ (some 4) rfl rfl Try.func37 (by kernel_rfl) rfl #[.slice A0 l0.length c0] rfl ?_; (with_reducible refine (spec_l1Source.calls _ _ l0 t889 t890 w _ ?side1 ?side2 ?side3 A2.out).mono ?_); (case side1 => repeat (first | (with_reducible first | exact HB.out) | exact HB.out)); (case side2 => exact HR0.out); (case side3 => exact HC0.out); rintro e w4 ⟨g891, rfl, hi, hb, hb2⟩; refine ⟨_, rfl, ?_⟩; have n0_ := Aside0.mk (hb); have n1_ := Aside0.mk (hi); clear HB; have HB := n0_; have HI891 := n1_; clear n0_ n1_; (try clear hb); (try clear hb2); (try clear hk); (try clear hi)) | ((with_reducible refine gate_callee (f := 65) rfl ?_); refine goesA_ (some 5) rfl rfl Try.func65 (by kernel_rfl) rfl #[.pointer (some ⟨g891, 0, none⟩)] rfl ?_; (with_reducible refine (spec_l2Wire.calls k g891 t889 t890 t892 t895 w _ ?side1 ?side2 A3.out).mono ?_); (case side1 => repeat (first | (with_reducible first | exact HI891.out | apply IsS70.set_1) | exact HI891.out)); (case side2 => repeat (first | (with_reducible first | exact HB.out | refine lS1_ ?_ (IsS70.ge HI891.out)) | exact HB.out)); rintro e w5 ⟨v893, rfl, ho0, hi, hb, hk⟩; refine ⟨_, rfl, ?_⟩; have n0_ := Aside0.mk (Kd.R_lower ho0 (below_size (by repeat (first | (with_reducible first | exact HB.out | refine lS1_ ?_ (IsS70.ge HI891.out)) | exact HB.out)))); have n1_ := Aside0.mk (hb); have n2_ := Aside0.mk (hi); clear HB HI891; have HO894 := n0_; have HB := n1_; have HI891 := n2_; clear n0_ n1_ n2_; (try clear hb); (try clear hb2); (try clear hk); (try clear hi); (try clear ho0)))
 go_ret
 exact ⟨_, by first | rfl | (simp [errW_none, errW_some] <;> rfl) | (simp [*, errW_none, errW_some] <;> rfl), by (with_reducible repeat first | apply rA_ | apply rN_ | apply rD_); exact HO894.out, by repeat (first | (with_reducible first | exact HB.out | apply lA1_ | apply lN_ | apply lD_ | refine lS1_ ?_ (IsS70.ge HI891.out)) | exact HB.out)⟩
def impl_isAddress.f (a0 : Int) : Option (Bool) := (impl_in.f a0 0 4294967295).bind fun t896 => (some t896)
set_option maxHeartbeats 8000000 in
set_option maxRecDepth 100000 in
theorem impl_isAddress.calls (a0 : Int) (r : Bool) (w : World) (h : impl_isAddress.f a0 = some r) :
  Calls Try.prog 66 #[.int .i64 a0] w fun e w' => e = .returned (.bool r) ∧ Drawn0 w w' := by
 have H : ((impl_in.f a0 0 4294967295).bind fun t896 => (some t896)) = some r := h
 clear h
 replace H := Option.bind_eq_some_iff.mp H
 obtain ⟨t896, A20, H⟩ := H
 try dsimp only at H
 have A2 := Aside0.mk A20
 clear A20
 obtain rfl := Option.some.inj H
 go_enter Try.func66, Try.ntmps66
 go_wp2_with (first | ((with_reducible refine gate_callee (f := 47) rfl ?_); refine goesA_ (some 4) rfl rfl Try.func47 (by kernel_rfl) rfl #[.int .i64 a0, .int .i64 0, .int .i64 4294967295] rfl ?_; (with_reducible refine (impl_in.calls a0 0 4294967295 t896 _ A2.out).mono ?_); rintro e w' ⟨rfl, ⟨nd, rfl⟩⟩; refine ⟨_, rfl, ?_⟩))
 go_ret
 exact ⟨by first | rfl | (simp; done) | (simp [*]; done), by repeat (first | exact Drawn0.refl _ | apply Drawn0.step)⟩
def impl_isPort.f (a0 : Int) : Option (Bool) := (impl_in.f a0 0 65535).bind fun t897 => (some t897)
set_option maxHeartbeats 8000000 in
set_option maxRecDepth 100000 in
theorem impl_isPort.calls (a0 : Int) (r : Bool) (w : World) (h : impl_isPort.f a0 = some r) :
  Calls Try.prog 67 #[.int .i64 a0] w fun e w' => e = .returned (.bool r) ∧ Drawn0 w w' := by
 have H : ((impl_in.f a0 0 65535).bind fun t897 => (some t897)) = some r := h
 clear h
 replace H := Option.bind_eq_some_iff.mp H
 obtain ⟨t897, A20, H⟩ := H
 try dsimp only at H
 have A2 := Aside0.mk A20
 clear A20
 obtain rfl := Option.some.inj H
 go_enter Try.func67, Try.ntmps67
 go_wp2_with (first | ((with_reducible refine gate_callee (f := 47) rfl ?_); refine goesA_ (some 4) rfl rfl Try.func47 (by kernel_rfl) rfl #[.int .i64 a0, .int .i64 0, .int .i64 65535] rfl ?_; (with_reducible refine (impl_in.calls a0 0 65535 t897 _ A2.out).mono ?_); rintro e w' ⟨rfl, ⟨nd, rfl⟩⟩; refine ⟨_, rfl, ?_⟩))
 go_ret
 exact ⟨by first | rfl | (simp; done) | (simp [*]; done), by repeat (first | exact Drawn0.refl _ | apply Drawn0.step)⟩
mutual
def impl_PacketFault.j0 : Nat → Bool → Int → Int → Int → Int → Int → Int → List Int → Option (Int)
 | 0, _, _, _, _, _, _, _, _ => none
 | k + 1, x3, x899000, x899001, x899002, x899003, x899004, x899005, x899006 => if x3 = true then (some 3) else ((impl_HasPorts.f x899002).bind fun t905 => (if t905 = true then (impl_PacketFault.j1 k false x899000 x899001 x899002 x899003 x899004 x899005 x899006) else (if x899004 = 0 then (impl_PacketFault.j1 k (x899005 != 0) x899000 x899001 x899002 x899003 x899004 x899005 x899006) else (impl_PacketFault.j1 k true x899000 x899001 x899002 x899003 x899004 x899005 x899006))))
def impl_PacketFault.j1 : Nat → Bool → Int → Int → Int → Int → Int → Int → List Int → Option (Int)
 | 0, _, _, _, _, _, _, _, _ => none
 | k + 1, x38, x899000, x899001, x899002, x899003, x899004, x899005, x899006 => if x38 = true then (some 1) else (if (x899006.length : Int) > 200 then (some 2) else (some 0))
end
def impl_PacketFault.f (k : Nat) (a0_0 : Int) (a0_1 : Int) (a0_2 : Int) (a0_3 : Int) (a0_4 : Int) (a0_5 : Int) (l0_6 : List Int) : Option (Int) := (impl_isAddress.f a0_0).bind fun t899 => (if t899 = true then ((impl_isAddress.f a0_1).bind fun t900 => (if t900 = true then ((impl_in.f a0_2 1 255).bind fun t901 => (if t901 = true then ((impl_in.f a0_3 1 255).bind fun t902 => (if t902 = true then ((impl_isPort.f a0_4).bind fun t903 => (if t903 = true then ((impl_isPort.f a0_5).bind fun t904 => (impl_PacketFault.j0 k (!t904) a0_0 a0_1 a0_2 a0_3 a0_4 a0_5 l0_6)) else (impl_PacketFault.j0 k true a0_0 a0_1 a0_2 a0_3 a0_4 a0_5 l0_6))) else (impl_PacketFault.j0 k true a0_0 a0_1 a0_2 a0_3 a0_4 a0_5 l0_6))) else (impl_PacketFault.j0 k true a0_0 a0_1 a0_2 a0_3 a0_4 a0_5 l0_6))) else (impl_PacketFault.j0 k true a0_0 a0_1 a0_2 a0_3 a0_4 a0_5 l0_6))) else (impl_PacketFault.j0 k true a0_0 a0_1 a0_2 a0_3 a0_4 a0_5 l0_6))
set_option maxHeartbeats 8000000 in
set_option maxRecDepth 100000 in
theorem impl_PacketFault.calls (k : Nat) (a0_0 : Int) (a0_1 : Int) (a0_2 : Int) (a0_3 : Int) (a0_4 : Int) (a0_5 : Int) (A0_6 : Option Addr) (c0_6 : Nat) (l0_6 : List Int) (r : Int) (w : World) (hr0_6 : Kd.C (Kd.int .u8) w A0_6 l0_6.length l0_6) (hc0_6 : l0_6.length ≤ c0_6) (h : impl_PacketFault.f k a0_0 a0_1 a0_2 a0_3 a0_4 a0_5 l0_6 = some r) :
  Calls Try.prog 32 #[.agg #[.int .i64 a0_0, .int .i64 a0_1, .int .i64 a0_2, .int .i64 a0_3, .int .i64 a0_4, .int .i64 a0_5, .slice A0_6 l0_6.length c0_6]] w fun e w' => e = .returned (.int .i64 r) ∧ Below w.heap.size w w' := by
 have hu34 := Try.underlying34
 have HR0_6 := Aside0.mk hr0_6
 have HC0_6 := Aside0.mk hc0_6
 clear hr0_6 hc0_6
 have HB := Aside0.mk (Below.refl w.heap.size w)
 have H : ((impl_isAddress.f a0_0).bind fun t899 => (if t899 = true then ((impl_isAddress.f a0_1).bind fun t900 => (if t900 = true then ((impl_in.f a0_2 1 255).bind fun t901 => (if t901 = true then ((impl_in.f a0_3 1 255).bind fun t902 => (if t902 = true then ((impl_isPort.f a0_4).bind fun t903 => (if t903 = true then ((impl_isPort.f a0_5).bind fun t904 => (impl_PacketFault.j0 k (!t904) a0_0 a0_1 a0_2 a0_3 a0_4 a0_5 l0_6)) else (impl_PacketFault.j0 k true a0_0 a0_1 a0_2 a0_3 a0_4 a0_5 l0_6))) else (impl_PacketFault.j0 k true a0_0 a0_1 a0_2 a0_3 a0_4 a0_5 l0_6))) else (impl_PacketFault.j0 k true a0_0 a0_1 a0_2 a0_3 a0_4 a0_5 l0_6))) else (impl_PacketFault.j0 k true a0_0 a0_1 a0_2 a0_3 a0_4 a0_5 l0_6))) else (impl_PacketFault.j0 k true a0_0 a0_1 a0_2 a0_3 a0_4 a0_5 l0_6))) = some r := h
 clear h
 have a4 := Aside0.mk H
 clear H
 go_enter Try.func32, Try.ntmps32
 go_upto_region 1 with (first | ((with_reducible refine gate_dst (N := 1) rfl ?_); refine box_event ?hg (N := 1) ?hd (cs := #[.int .i64 a0_0, .int .i64 a0_1, .int .i64 a0_2, .int .i64 a0_3, .int .i64 a0_4, .int .i64 a0_5, .slice A0_6 l0_6.length c0_6]) (t := 34) ?hr ?_; (case hd => rfl); (case hg => rfl); (case hr => first | (go_simp; done) | (go_simp; rfl)); intro a2 hg w3 hbox hb; have n0_ := Aside0.mk (lP_ (by repeat (first | (with_reducible first | exact HB.out | apply lA1_ | apply lN_ | apply lD_) | exact HB.out)) hb); have n1_ := Aside0.mk (hbox); have n2_ := Aside0.mk ((by rw [hg]; exact (below_size (by repeat (first | (with_reducible first | exact HB.out | apply lA1_ | apply lN_ | apply lD_) | exact HB.out))) : w.heap.size ≤ a2)); have n3_ := Aside0.mk ((by rw [hg]; exact (below_size (by repeat (first | (with_reducible first | exact HB.out | apply lA1_ | apply lN_ | apply lD_) | exact HB.out))) : w.heap.size ≤ a2)); clear HB; have HB := n0_; have a0 := n1_; have ag := n2_; have a1 := n3_; clear n0_ n1_ n2_ n3_ hb hbox hg))
 (try simp only [Act.put, lA_, lZ_, lS_])
 go_cut [3] (fun v3 wc => ∃ (kq : Nat) (x3_1 : Bool), v3 = .bool x3_1 ∧ Aside0 (impl_PacketFault.j0 kq x3_1 a0_0 a0_1 a0_2 a0_3 a0_4 a0_5 l0_6 = some r) ∧ Aside0 (kq ≤ k) ∧ Aside0 (wc.heap[a2]? = some (.cells #[.int .i64 a0_0, .int .i64 a0_1, .int .i64 a0_2, .int .i64 a0_3, .int .i64 a0_4, .int .i64 a0_5, (.slice A0_6 l0_6.length c0_6)] 34 (0, 0))) ∧ Aside0 (Below w.heap.size w wc))
 case first =>
  have H := a4.out
  clear a4
  replace H := Option.bind_eq_some_iff.mp H
  obtain ⟨t899, ab, H⟩ := H
  try dsimp only at H
  have A4 := Aside0.mk ab
  clear ab
  by_cases c5 : t899 = true
  ·subst c5
   rw [if_pos rfl] at H
   replace H := Option.bind_eq_some_iff.mp H
   obtain ⟨t900, ac, H⟩ := H
   try dsimp only at H
   have A6 := Aside0.mk ac
   clear ac
   by_cases c7 : t900 = true
   ·subst c7
    rw [if_pos rfl] at H
    replace H := Option.bind_eq_some_iff.mp H
    obtain ⟨t901, ad, H⟩ := H
    try dsimp only at H
    have A8 := Aside0.mk ad
    clear ad
    by_cases c9 : t901 = true
    ·subst c9
     rw [if_pos rfl] at H
     replace H := Option.bind_eq_some_iff.mp H
     obtain ⟨t902, a5, H⟩ := H
     try dsimp only at H
     have a6 := Aside0.mk a5
     clear a5
     by_cases c11 : t902 = true
     ·subst c11
      rw [if_pos rfl] at H
      replace H := Option.bind_eq_some_iff.mp H
      obtain ⟨t903, a7, H⟩ := H
      try dsimp only at H
      have ae := Aside0.mk a7
      clear a7
      by_cases c13 : t903 = true
      ·subst c13
       rw [if_pos rfl] at H
       replace H := Option.bind_eq_some_iff.mp H
       obtain ⟨t904, a8, H⟩ := H
       try dsimp only at H
       have af := Aside0.mk a8
       clear a8
       have H' := Aside0.mk H
       clear H
       obtain ⟨_, _, _, _, _, _, _, _, _, _, _, _, _, _⟩ := bc7 a0.out
       go_wp2_with (first | ((with_reducible refine gate_callee (f := 66) rfl ?_); refine goesA_ (some 6) rfl rfl Try.func66 (by kernel_rfl) rfl #[.int .i64 a0_0] rfl ?_; (with_reducible refine (impl_isAddress.calls a0_0 true _ A4.out).mono ?_); rintro e w' ⟨rfl, ⟨nd, rfl⟩⟩; refine ⟨_, rfl, ?_⟩) | (go_at_call 66; (with_reducible refine (impl_isAddress.calls a0_1 true _ A6.out).mono ?_); rintro e w' ⟨rfl, ⟨nd, rfl⟩⟩) | (go_at_call 47; (with_reducible refine (impl_in.calls a0_2 1 255 true _ A8.out).mono ?_); rintro e w' ⟨rfl, ⟨nd, rfl⟩⟩) | (go_at_call 47; (with_reducible refine (impl_in.calls a0_3 1 255 true _ a6.out).mono ?_); rintro e w' ⟨rfl, ⟨nd, rfl⟩⟩) | (go_at_call 67; (with_reducible refine (impl_isPort.calls a0_4 true _ ae.out).mono ?_); rintro e w' ⟨rfl, ⟨nd, rfl⟩⟩) | (go_at_call 67; (with_reducible refine (impl_isPort.calls a0_5 t904 _ af.out).mono ?_); rintro e w' ⟨rfl, ⟨nd, rfl⟩⟩))
       go_meet
       case rel => exact ⟨_, (!t904), (by first | rfl | (simp; done) | (simp [*]; done)), H', ⟨by first | omega | exact Nat.le_refl _⟩, ⟨by (with_reducible repeat first | apply bN_ | apply bD_ | apply bA_); exact a0.out⟩, ⟨by repeat (first | (with_reducible first | exact HB.out | apply lA1_ | apply lN_ | apply lD_ | refine lS1_ ?_ a1.out) | exact HB.out)⟩⟩
      ·replace c13 := Bool.eq_false_iff.mpr c13
       subst c13
       rw [if_neg (show ¬ (false = true) by decide)] at H
       have H' := Aside0.mk H
       clear H
       obtain ⟨_, _, _, _, _, _, _, _, _, _, _, _, _, _⟩ := bc7 a0.out
       go_wp2_with (first | ((with_reducible refine gate_callee (f := 66) rfl ?_); refine goesA_ (some 6) rfl rfl Try.func66 (by kernel_rfl) rfl #[.int .i64 a0_0] rfl ?_; (with_reducible refine (impl_isAddress.calls a0_0 true _ A4.out).mono ?_); rintro e w' ⟨rfl, ⟨nd, rfl⟩⟩; refine ⟨_, rfl, ?_⟩) | (go_at_call 66; (with_reducible refine (impl_isAddress.calls a0_1 true _ A6.out).mono ?_); rintro e w' ⟨rfl, ⟨nd, rfl⟩⟩) | (go_at_call 47; (with_reducible refine (impl_in.calls a0_2 1 255 true _ A8.out).mono ?_); rintro e w' ⟨rfl, ⟨nd, rfl⟩⟩) | (go_at_call 47; (with_reducible refine (impl_in.calls a0_3 1 255 true _ a6.out).mono ?_); rintro e w' ⟨rfl, ⟨nd, rfl⟩⟩) | (go_at_call 67; (with_reducible refine (impl_isPort.calls a0_4 false _ ae.out).mono ?_); rintro e w' ⟨rfl, ⟨nd, rfl⟩⟩))
       go_meet
       case rel => exact ⟨_, (true), (by first | rfl | (simp; done) | (simp [*]; done)), H', ⟨by first | omega | exact Nat.le_refl _⟩, ⟨by (with_reducible repeat first | apply bN_ | apply bD_ | apply bA_); exact a0.out⟩, ⟨by repeat (first | (with_reducible first | exact HB.out | apply lA1_ | apply lN_ | apply lD_ | refine lS1_ ?_ a1.out) | exact HB.out)⟩⟩
     ·replace c11 := Bool.eq_false_iff.mpr c11
      subst c11
      rw [if_neg (show ¬ (false = true) by decide)] at H
      have H' := Aside0.mk H
      clear H
      obtain ⟨_, _, _, _, _, _, _, _, _, _, _, _, _, _⟩ := bc7 a0.out
      go_wp2_with (first | ((with_reducible refine gate_callee (f := 66) rfl ?_); refine goesA_ (some 6) rfl rfl Try.func66 (by kernel_rfl) rfl #[.int .i64 a0_0] rfl ?_; (with_reducible refine (impl_isAddress.calls a0_0 true _ A4.out).mono ?_); rintro e w' ⟨rfl, ⟨nd, rfl⟩⟩; refine ⟨_, rfl, ?_⟩) | (go_at_call 66; (with_reducible refine (impl_isAddress.calls a0_1 true _ A6.out).mono ?_); rintro e w' ⟨rfl, ⟨nd, rfl⟩⟩) | (go_at_call 47; (with_reducible refine (impl_in.calls a0_2 1 255 true _ A8.out).mono ?_); rintro e w' ⟨rfl, ⟨nd, rfl⟩⟩) | (go_at_call 47; (with_reducible refine (impl_in.calls a0_3 1 255 false _ a6.out).mono ?_); rintro e w' ⟨rfl, ⟨nd, rfl⟩⟩))
      go_meet
      case rel => exact ⟨_, (true), (by first | rfl | (simp; done) | (simp [*]; done)), H', ⟨by first | omega | exact Nat.le_refl _⟩, ⟨by (with_reducible repeat first | apply bN_ | apply bD_ | apply bA_); exact a0.out⟩, ⟨by repeat (first | (with_reducible first | exact HB.out | apply lA1_ | apply lN_ | apply lD_ | refine lS1_ ?_ a1.out) | exact HB.out)⟩⟩
    ·replace c9 := Bool.eq_false_iff.mpr c9
     subst c9
     rw [if_neg (show ¬ (false = true) by decide)] at H
     have H' := Aside0.mk H
     clear H
     obtain ⟨_, _, _, _, _, _, _, _, _, _, _, _, _, _⟩ := bc7 a0.out
     go_wp2_with (first | ((with_reducible refine gate_callee (f := 66) rfl ?_); refine goesA_ (some 6) rfl rfl Try.func66 (by kernel_rfl) rfl #[.int .i64 a0_0] rfl ?_; (with_reducible refine (impl_isAddress.calls a0_0 true _ A4.out).mono ?_); rintro e w' ⟨rfl, ⟨nd, rfl⟩⟩; refine ⟨_, rfl, ?_⟩) | (go_at_call 66; (with_reducible refine (impl_isAddress.calls a0_1 true _ A6.out).mono ?_); rintro e w' ⟨rfl, ⟨nd, rfl⟩⟩) | (go_at_call 47; (with_reducible refine (impl_in.calls a0_2 1 255 false _ A8.out).mono ?_); rintro e w' ⟨rfl, ⟨nd, rfl⟩⟩))
     go_meet
     case rel => exact ⟨_, (true), (by first | rfl | (simp; done) | (simp [*]; done)), H', ⟨by first | omega | exact Nat.le_refl _⟩, ⟨by (with_reducible repeat first | apply bN_ | apply bD_ | apply bA_); exact a0.out⟩, ⟨by repeat (first | (with_reducible first | exact HB.out | apply lA1_ | apply lN_ | apply lD_ | refine lS1_ ?_ a1.out) | exact HB.out)⟩⟩
   ·replace c7 := Bool.eq_false_iff.mpr c7
    subst c7
    rw [if_neg (show ¬ (false = true) by decide)] at H
    have H' := Aside0.mk H
    clear H
    obtain ⟨_, _, _, _, _, _, _, _, _, _, _, _, _, _⟩ := bc7 a0.out
    go_wp2_with (first | ((with_reducible refine gate_callee (f := 66) rfl ?_); refine goesA_ (some 6) rfl rfl Try.func66 (by kernel_rfl) rfl #[.int .i64 a0_0] rfl ?_; (with_reducible refine (impl_isAddress.calls a0_0 true _ A4.out).mono ?_); rintro e w' ⟨rfl, ⟨nd, rfl⟩⟩; refine ⟨_, rfl, ?_⟩) | (go_at_call 66; (with_reducible refine (impl_isAddress.calls a0_1 false _ A6.out).mono ?_); rintro e w' ⟨rfl, ⟨nd, rfl⟩⟩))
    go_meet
    case rel => exact ⟨_, (true), (by first | rfl | (simp; done) | (simp [*]; done)), H', ⟨by first | omega | exact Nat.le_refl _⟩, ⟨by (with_reducible repeat first | apply bN_ | apply bD_ | apply bA_); exact a0.out⟩, ⟨by repeat (first | (with_reducible first | exact HB.out | apply lA1_ | apply lN_ | apply lD_ | refine lS1_ ?_ a1.out) | exact HB.out)⟩⟩
  ·replace c5 := Bool.eq_false_iff.mpr c5
   subst c5
   rw [if_neg (show ¬ (false = true) by decide)] at H
   have H' := Aside0.mk H
   clear H
   obtain ⟨_, _, _, _, _, _, _, _, _, _, _, _, _, _⟩ := bc7 a0.out
   go_wp2_with (first | ((with_reducible refine gate_callee (f := 66) rfl ?_); refine goesA_ (some 6) rfl rfl Try.func66 (by kernel_rfl) rfl #[.int .i64 a0_0] rfl ?_; (with_reducible refine (impl_isAddress.calls a0_0 false _ A4.out).mono ?_); rintro e w' ⟨rfl, ⟨nd, rfl⟩⟩; refine ⟨_, rfl, ?_⟩))
   go_meet
   case rel => exact ⟨_, (true), (by first | rfl | (simp; done) | (simp [*]; done)), H', ⟨by first | omega | exact Nat.le_refl _⟩, ⟨by (with_reducible repeat first | apply bN_ | apply bD_ | apply bA_); exact a0.out⟩, ⟨by repeat (first | (with_reducible first | exact HB.out | apply lA1_ | apply lN_ | apply lD_ | refine lS1_ ?_ a1.out) | exact HB.out)⟩⟩
 case rest =>
  clear a4
  try clear c1
  try clear p2
  try clear c3
  try clear c5
  try clear c6
  try clear c7
  try clear c9
  try clear c11
  try clear c13
  try clear hcz15_0
  try clear hcz15_1
  try clear hcz15_2
  try clear hcz15_3
  try clear hcz15_4
  try clear hcz15_5
  try clear hcz15_6
  try clear hcz16_0
  try clear hcz16_1
  try clear hcz16_2
  try clear hcz16_3
  try clear hcz16_4
  try clear hcz16_5
  try clear hcz16_6
  try clear hcz17_0
  try clear hcz17_1
  try clear hcz17_2
  try clear hcz17_3
  try clear hcz17_4
  try clear hcz17_5
  try clear hcz17_6
  try clear hcz18_0
  try clear hcz18_1
  try clear hcz18_2
  try clear hcz18_3
  try clear hcz18_4
  try clear hcz18_5
  try clear hcz18_6
  try clear hcz19_0
  try clear hcz19_1
  try clear hcz19_2
  try clear hcz19_3
  try clear hcz19_4
  try clear hcz19_5
  try clear hcz19_6
  try clear hcz20_0
  try clear hcz20_1
  try clear hcz20_2
  try clear hcz20_3
  try clear hcz20_4
  try clear hcz20_5
  try clear hcz20_6
  try clear hfz15_0
  try clear hfz15_1
  try clear hfz15_2
  try clear hfz15_3
  try clear hfz15_4
  try clear hfz15_5
  try clear hfz15_6
  try clear hfz16_0
  try clear hfz16_1
  try clear hfz16_2
  try clear hfz16_3
  try clear hfz16_4
  try clear hfz16_5
  try clear hfz16_6
  try clear hfz17_0
  try clear hfz17_1
  try clear hfz17_2
  try clear hfz17_3
  try clear hfz17_4
  try clear hfz17_5
  try clear hfz17_6
  try clear hfz18_0
  try clear hfz18_1
  try clear hfz18_2
  try clear hfz18_3
  try clear hfz18_4
  try clear hfz18_5
  try clear hfz18_6
  try clear hfz19_0
  try clear hfz19_1
  try clear hfz19_2
  try clear hfz19_3
  try clear hfz19_4
  try clear hfz19_5
  try clear hfz19_6
  try clear hfz20_0
  try clear hfz20_1
  try clear hfz20_2
  try clear hfz20_3
  try clear hfz20_4
  try clear hfz20_5
  try clear hfz20_6
  obtain ⟨kq, x3_1, rfl, HA, HJ1, a0, HB⟩ := hcut
  cases kq with
  | zero => exact absurd HA.out (by simp [impl_PacketFault.j0])
  | succ kj1 =>
   have H := HA.out
   clear HA
   simp only [impl_PacketFault.j0] at H
   by_cases c21 : x3_1 = true
   ·subst c21
    rw [if_pos rfl] at H
    obtain rfl := Option.some.inj H
    go_wp2
    go_ret
    exact ⟨by first | rfl | (simp [errW_none, errW_some] <;> rfl) | (simp [*, errW_none, errW_some] <;> rfl), by repeat (first | (with_reducible first | exact HB.out | apply lA1_ | apply lN_ | apply lD_ | refine lS1_ ?_ a1.out) | exact HB.out)⟩
   ·replace c21 := Bool.eq_false_iff.mpr c21
    subst c21
    rw [if_neg (show ¬ (false = true) by decide)] at H
    have a3 := Aside0.mk H
    clear H
    go_upto_region 3 with (fail)
    go_cut [38] (fun v38 wc => ∃ (kq : Nat) (x38_21 : Bool), v38 = .bool x38_21 ∧ Aside0 (impl_PacketFault.j1 kq x38_21 a0_0 a0_1 a0_2 a0_3 a0_4 a0_5 l0_6 = some r) ∧ Aside0 (kq ≤ kj1) ∧ Aside0 (wc.heap[a2]? = some (.cells #[.int .i64 a0_0, .int .i64 a0_1, .int .i64 a0_2, .int .i64 a0_3, .int .i64 a0_4, .int .i64 a0_5, (.slice A0_6 l0_6.length c0_6)] 34 (0, 0))) ∧ Aside0 (Below w.heap.size w wc))
    case first =>
     have H := a3.out
     clear a3
     replace H := Option.bind_eq_some_iff.mp H
     obtain ⟨t905, a9, H⟩ := H
     try dsimp only at H
     have aa := Aside0.mk a9
     clear a9
     by_cases c24 : t905 = true
     ·subst c24
      rw [if_pos rfl] at H
      have H' := Aside0.mk H
      clear H
      obtain ⟨_, _, _, _, _, _, _, _, _, _, _, _, _, _⟩ := bc7 a0.out
      go_wp2_with (first | ((with_reducible refine gate_callee (f := 57) rfl ?_); refine goesA_ (some 41) rfl rfl Try.func57 (by kernel_rfl) rfl #[.int .i64 a0_2] rfl ?_; (with_reducible refine (impl_HasPorts.calls a0_2 true _ aa.out).mono ?_); rintro e w' ⟨rfl, ⟨nd, rfl⟩⟩; refine ⟨_, rfl, ?_⟩))
      go_meet
      case rel => exact ⟨_, (false), (by first | rfl | (simp; done) | (simp [*]; done)), H', ⟨by have := HJ1.out; first | omega | exact Nat.le_refl _⟩, ⟨by (with_reducible repeat first | apply bN_ | apply bD_ | apply bA_); exact a0.out⟩, ⟨by repeat (first | (with_reducible first | exact HB.out | apply lA1_ | apply lN_ | apply lD_ | refine lS1_ ?_ a1.out) | exact HB.out)⟩⟩
     ·replace c24 := Bool.eq_false_iff.mpr c24
      subst c24
      rw [if_neg (show ¬ (false = true) by decide)] at H
      by_cases c26 : a0_4 = 0
      ·rw [if_pos c26] at H
       have c26b0 : (a0_4 == 0) = true := beq_iff_eq.mpr c26
       have c26b1 : (a0_4 != 0) = false := bne_eq_false_iff_eq.mpr c26
       clear c26
       (first | rw [c26b0] | (simp only [i64_w, i32_w]; rw [c26b0]) | skip)
       have H' := Aside0.mk H
       clear H
       obtain ⟨_, _, _, _, _, _, _, _, _, _, _, _, _, _⟩ := bc7 a0.out
       go_wp2_with (first | ((with_reducible refine gate_callee (f := 57) rfl ?_); refine goesA_ (some 41) rfl rfl Try.func57 (by kernel_rfl) rfl #[.int .i64 a0_2] rfl ?_; (with_reducible refine (impl_HasPorts.calls a0_2 false _ aa.out).mono ?_); rintro e w' ⟨rfl, ⟨nd, rfl⟩⟩; refine ⟨_, rfl, ?_⟩))
       go_meet
       case rel => exact ⟨_, ((a0_5 != 0)), (by first | rfl | (simp; done) | (simp [*]; done)), H', ⟨by have := HJ1.out; first | omega | exact Nat.le_refl _⟩, ⟨by (with_reducible repeat first | apply bN_ | apply bD_ | apply bA_); exact a0.out⟩, ⟨by repeat (first | (with_reducible first | exact HB.out | apply lA1_ | apply lN_ | apply lD_ | refine lS1_ ?_ a1.out) | exact HB.out)⟩⟩
      ·rw [if_neg c26] at H
       have c26b0 : (a0_4 == 0) = false := beq_eq_false_iff_ne.mpr c26
       have c26b1 : (a0_4 != 0) = true := bne_iff_ne.mpr c26
       (first | rw [c26b0] | (simp only [i64_w, i32_w]; rw [c26b0]) | skip)
       have H' := Aside0.mk H
       clear H
       obtain ⟨_, _, _, _, _, _, _, _, _, _, _, _, _, _⟩ := bc7 a0.out
       go_wp2_with (first | ((with_reducible refine gate_callee (f := 57) rfl ?_); refine goesA_ (some 41) rfl rfl Try.func57 (by kernel_rfl) rfl #[.int .i64 a0_2] rfl ?_; (with_reducible refine (impl_HasPorts.calls a0_2 false _ aa.out).mono ?_); rintro e w' ⟨rfl, ⟨nd, rfl⟩⟩; refine ⟨_, rfl, ?_⟩))
       go_meet
       case rel => exact ⟨_, (true), (by first | rfl | (simp; done) | (simp [*]; done)), H', ⟨by have := HJ1.out; first | omega | exact Nat.le_refl _⟩, ⟨by (with_reducible repeat first | apply bN_ | apply bD_ | apply bA_); exact a0.out⟩, ⟨by repeat (first | (with_reducible first | exact HB.out | apply lA1_ | apply lN_ | apply lD_ | refine lS1_ ?_ a1.out) | exact HB.out)⟩⟩
    case rest =>
     clear a3
     try clear c1
     try clear c2
     try clear p2
     try clear c3
     try clear c5
     try clear c6
     try clear c7
     try clear c9
     try clear c11
     try clear c13
     try clear c21
     try clear c24
     try clear c26
     try clear c26b0
     try clear c26b1
     try clear hcz15_0
     try clear hcz15_1
     try clear hcz15_2
     try clear hcz15_3
     try clear hcz15_4
     try clear hcz15_5
     try clear hcz15_6
     try clear hcz16_0
     try clear hcz16_1
     try clear hcz16_2
     try clear hcz16_3
     try clear hcz16_4
     try clear hcz16_5
     try clear hcz16_6
     try clear hcz17_0
     try clear hcz17_1
     try clear hcz17_2
     try clear hcz17_3
     try clear hcz17_4
     try clear hcz17_5
     try clear hcz17_6
     try clear hcz18_0
     try clear hcz18_1
     try clear hcz18_2
     try clear hcz18_3
     try clear hcz18_4
     try clear hcz18_5
     try clear hcz18_6
     try clear hcz19_0
     try clear hcz19_1
     try clear hcz19_2
     try clear hcz19_3
     try clear hcz19_4
     try clear hcz19_5
     try clear hcz19_6
     try clear hcz20_0
     try clear hcz20_1
     try clear hcz20_2
     try clear hcz20_3
     try clear hcz20_4
     try clear hcz20_5
     try clear hcz20_6
     try clear hcz25_0
     try clear hcz25_1
     try clear hcz25_2
     try clear hcz25_3
     try clear hcz25_4
     try clear hcz25_5
     try clear hcz25_6
     try clear hcz27_0
     try clear hcz27_1
     try clear hcz27_2
     try clear hcz27_3
     try clear hcz27_4
     try clear hcz27_5
     try clear hcz27_6
     try clear hcz28_0
     try clear hcz28_1
     try clear hcz28_2
     try clear hcz28_3
     try clear hcz28_4
     try clear hcz28_5
     try clear hcz28_6
     try clear hfz15_0
     try clear hfz15_1
     try clear hfz15_2
     try clear hfz15_3
     try clear hfz15_4
     try clear hfz15_5
     try clear hfz15_6
     try clear hfz16_0
     try clear hfz16_1
     try clear hfz16_2
     try clear hfz16_3
     try clear hfz16_4
     try clear hfz16_5
     try clear hfz16_6
     try clear hfz17_0
     try clear hfz17_1
     try clear hfz17_2
     try clear hfz17_3
     try clear hfz17_4
     try clear hfz17_5
     try clear hfz17_6
     try clear hfz18_0
     try clear hfz18_1
     try clear hfz18_2
     try clear hfz18_3
     try clear hfz18_4
     try clear hfz18_5
     try clear hfz18_6
     try clear hfz19_0
     try clear hfz19_1
     try clear hfz19_2
     try clear hfz19_3
     try clear hfz19_4
     try clear hfz19_5
     try clear hfz19_6
     try clear hfz20_0
     try clear hfz20_1
     try clear hfz20_2
     try clear hfz20_3
     try clear hfz20_4
     try clear hfz20_5
     try clear hfz20_6
     try clear hfz25_0
     try clear hfz25_1
     try clear hfz25_2
     try clear hfz25_3
     try clear hfz25_4
     try clear hfz25_5
     try clear hfz25_6
     try clear hfz27_0
     try clear hfz27_1
     try clear hfz27_2
     try clear hfz27_3
     try clear hfz27_4
     try clear hfz27_5
     try clear hfz27_6
     try clear hfz28_0
     try clear hfz28_1
     try clear hfz28_2
     try clear hfz28_3
     try clear hfz28_4
     try clear hfz28_5
     try clear hfz28_6
     try clear p2
     obtain ⟨kq, x38_21, rfl, HA, HJ21, a0, HB⟩ := hcut
     cases kq with
     | zero => exact absurd HA.out (by simp [impl_PacketFault.j1])
     | succ kj21 =>
      have H := HA.out
      clear HA
      simp only [impl_PacketFault.j1] at H
      by_cases c29 : x38_21 = true
      ·subst c29
       rw [if_pos rfl] at H
       obtain rfl := Option.some.inj H
       go_wp2
       go_ret
       exact ⟨by first | rfl | (simp [errW_none, errW_some] <;> rfl) | (simp [*, errW_none, errW_some] <;> rfl), by repeat (first | (with_reducible first | exact HB.out | apply lA1_ | apply lN_ | apply lD_ | refine lS1_ ?_ a1.out) | exact HB.out)⟩
      ·replace c29 := Bool.eq_false_iff.mpr c29
       subst c29
       rw [if_neg (show ¬ (false = true) by decide)] at H
       by_cases c30 : (l0_6.length : Int) > 200
       ·rw [if_pos c30] at H
        have c30b0 : decide (200 < (l0_6.length : Int)) = true := decide_eq_true c30
        have c30b1 : decide (200 < l0_6.length) = true := decide_eq_true (by omega)
        clear c30
        obtain rfl := Option.some.inj H
        obtain ⟨_, _, _, _, _, _, _, _, _, _, _, _, _, _⟩ := bc7 a0.out
        go_wp2
        go_ret
        exact ⟨by first | rfl | (simp [errW_none, errW_some] <;> rfl) | (simp [*, errW_none, errW_some] <;> rfl), by repeat (first | (with_reducible first | exact HB.out | apply lA1_ | apply lN_ | apply lD_ | refine lS1_ ?_ a1.out) | exact HB.out)⟩
       ·rw [if_neg c30] at H
        have c30b0 : decide (200 < (l0_6.length : Int)) = false := decide_eq_false c30
        have c30b1 : decide (200 < l0_6.length) = false := decide_eq_false (by omega)
        clear c30
        obtain rfl := Option.some.inj H
        obtain ⟨_, _, _, _, _, _, _, _, _, _, _, _, _, _⟩ := bc7 a0.out
        go_wp2
        go_ret
        exact ⟨by first | rfl | (simp [errW_none, errW_some] <;> rfl) | (simp [*, errW_none, errW_some] <;> rfl), by repeat (first | (with_reducible first | exact HB.out | apply lA1_ | apply lN_ | apply lD_ | refine lS1_ ?_ a1.out) | exact HB.out)⟩
set_option maxHeartbeats 4000000 in
set_option maxRecDepth 100000 in
theorem slices_Concat_byte_byte.grow (n : Int) (w : World) (h0 : 0 ≤ n) (h1 : n ≤ 140737488355328) :
    Calls Try.prog 73 #[.slice none 0 0, .int .i64 n] w fun e w' => ∃ v0_ : Value, e = .returned (v0_) ∧ Kd.R (Kd.int .u8) 5 w' w.heap.size (fun _ => True) v0_ ([] : List (Int)) ∧ Below w.heap.size w w' := by
  by_cases hn : 0 < n
  · have HB := Aside0.mk (Below.refl w.heap.size w)
    have HN := Aside0.mk h1
    have hd : decide (n < 0) = false := decide_eq_false (by omega)
    have hd2 : decide (0 < n) = true := decide_eq_true hn
    go_enter Try.func73, Try.ntmps73
    go_wp2_with (first | ((with_reducible refine gate_builtin (b := .append) (xs := #[.tmp 20, .tmp 21]) rfl ?_); at_builtin; refine Kd.R_append_zeros (Kd.int .u8) (w0 := w) w.heap.size rfl (.tmp 20) (.tmp 21) 22 3 5 (.int .u8 0) 1 rfl Try.underlying22 Try.underlying3 info5 rfl (by decide) (by omega) (.slice none 0 0) [] 0 n (fun _ => True) rfl rfl rfl (fun _ _ => trivial) ?aO h0 ?aB ?aS ?aL ?_; (case aO => exact Kd.R_nil _ _ _ _ _); (case aB => exact HB.out); (case aS => exact below_size HB.out); (case aL => have := HN.out; simp; omega); intro v1 w1 ho hb hg hat; obtain ⟨ad, c1, hv1⟩ := Kd.R_slice1 ho (by simp; omega); subst hv1; have n0_ := Aside0.mk hb; have n1_ := Aside0.mk (Kd.R_take (m := 0) ho (Nat.zero_le _)); clear HB; have HB := n0_; have HO := n1_; clear n0_ n1_ ho hb hg hat))
    go_ret
    exact ⟨_, rfl, HO.out, HB.out⟩
  · obtain rfl : n = 0 := by omega
    go_enter Try.func73, Try.ntmps73
    go_wp2
    go_ret
    exact ⟨_, rfl, Kd.R_nil _ _ _ _ _, Below.refl _ _⟩
def slices_Concat_byte_byte.f (l0 : List (List (Int))) : Option (List (Int)) := if l0.flatten.length * 1 ≤ 140737488355328 then some l0.flatten else none
theorem slices_Concat_byte_byte.flat_take {α : Type} (l : List (List α)) (i : Nat) (h : i < l.length) : (l.take (i + 1)).flatten = (l.take i).flatten ++ l.getD i [] := by
  rw [List.take_succ_eq_append_getElem h, List.flatten_append]
  simp [List.getD, List.getElem?_eq_getElem h]
theorem slices_Concat_byte_byte.flat_take_le {α : Type} (l : List (List α)) (i : Nat) : (l.take i).flatten.length ≤ l.flatten.length := by
  have h := congrArg List.length (congrArg List.flatten (List.take_append_drop i l))
  rw [List.flatten_append, List.length_append] at h
  omega
set_option maxHeartbeats 4000000 in
set_option maxRecDepth 100000 in
theorem slices_Concat_byte_byte.calls (A0 : Option Addr) (c0 : Nat) (l0 : List (List (Int))) (r : List (Int)) (w : World) (hr0 : Kd.C (Kd.slice 5 (Kd.int .u8)) w A0 l0.length l0) (hc0 : l0.length ≤ c0) (h : slices_Concat_byte_byte.f l0 = some r) :
    Calls Try.prog 49 #[.slice A0 l0.length c0] w fun e w' => ∃ v0_ : Value, e = .returned (v0_) ∧ Kd.R (Kd.int .u8) 5 w' w.heap.size (fun _ => True) v0_ r ∧ Below w.heap.size w w' := by
  unfold slices_Concat_byte_byte.f at h
  by_cases hb : l0.flatten.length * 1 ≤ 140737488355328
  · rw [if_pos hb] at h
    obtain rfl := Option.some.inj h
    clear h
    have HL := Aside0.mk hb
    clear hb
    have HN := Aside0.mk hr0.2.1
    have HR := Aside0.mk hr0
    clear hr0
    go_enter Try.func49, Try.ntmps49
    go_wp2_with fail
    go_loopg [3, 11] l0.length (fun kq v3 v11 w' => ∃ i m : Nat, v11 = .int .i64 i ∧ v3 = .int .i64 m ∧ Aside0 (m = (l0.take i).flatten.length) ∧ Aside0 (i + kq = l0.length) ∧ Aside0 (w = w'))
    case atStart => exact ⟨0, 0, rfl, by simp, ⟨by simp⟩, ⟨by omega⟩, ⟨rfl⟩⟩
    case round =>
      obtain ⟨i, m, rfl, rfl, HM, HI, HW⟩ := hrel
      obtain rfl := HW.out
      clear HW
      have hi1 : i ≤ l0.length := by have := HI.out; omega
      have hi2 : l0.length ≤ 9223372036854775807 := HN.out
      by_cases hlt : i < l0.length
      · obtain ⟨ad, A1, c1, hA, hcell, hle, hin⟩ := at_L2 HR.out (i : Int) (by omega) (by omega)
        subst hA
        obtain ⟨ys, hys⟩ : ∃ ys, ys = rd_L2 l0 (i : Int) := ⟨_, rfl⟩
        have hE := slices_Concat_byte_byte.flat_take l0 i hlt
        have hE2 : l0.getD i [] = ys := by rw [hys]; simp [rd_L2]
        rw [hE2] at hE
        rw [← hys, Int.toNat_natCast] at hcell
        clear hin hle hE2 hys
        have hb1 : (l0.take (i + 1)).flatten.length ≤ 140737488355328 := by have := slices_Concat_byte_byte.flat_take_le l0 (i + 1); have := HL.out; omega
        have hb2 : m + ys.length = (l0.take (i + 1)).flatten.length := by
          have := congrArg List.length hE
          rw [List.length_append, ← HM.out] at this
          omega
        have hb3 : m + ys.length ≤ 140737488355328 := by omega
        have HE := Aside0.mk hb2
        clear hE hb1 hb2
        go_wp2
        go_roundg (gk - 1)
        case measure => have := HI.out; omega
        case rel => exact ⟨i + 1, m + ys.length, by go_num, by go_num, HE, ⟨by have := HI.out; omega⟩, ⟨rfl⟩⟩
      · have HC0 := HR
        have hm1 : (m : Int) ≤ 140737488355328 := by have := slices_Concat_byte_byte.flat_take_le l0 i; have := HL.out; have := HM.out; omega
        have hm0 : (0 : Int) ≤ m := by omega
        clear HM HI
        go_wp2_with (go_at_call 73; refine (slices_Concat_byte_byte.grow (m : Int) _ hm0 hm1).mono ?_; rintro e w1 ⟨v1, rfl, ho, hb⟩; have HO := Aside0.mk ho; have HB := Aside0.mk hb; clear ho hb HR)
        go_loopg [6, 27] l0.length (fun kq v6 v27 w' => ∃ i : Nat, v27 = .int .i64 i ∧ Aside0 (i + kq = l0.length) ∧ Aside0 (Kd.R (Kd.int .u8) 5 w' w.heap.size (fun _ => True) v6 (l0.take i).flatten) ∧ Aside0 (Below w.heap.size w w'))
        case atStart => exact ⟨0, rfl, ⟨by omega⟩, ⟨by simpa using HO.out⟩, HB⟩
        case round =>
          clear HO HB hm0 hm1
          obtain ⟨i, rfl, HI, HO, HB⟩ := hrel
          have hi1 : i ≤ l0.length := by have := HI.out; omega
          by_cases hlt : i < l0.length
          · have HC' := Kd.C_below HC0.out HB.out
            obtain ⟨ad, A1, c1, hA, hcell, hle, hin⟩ := at_L2 HC' (i : Int) (by omega) (by omega)
            subst hA
            obtain ⟨ys, hys⟩ : ∃ ys, ys = rd_L2 l0 (i : Int) := ⟨_, rfl⟩
            have hE := slices_Concat_byte_byte.flat_take l0 i hlt
            have hE2 : l0.getD i [] = ys := by rw [hys]; simp [rd_L2]
            rw [hE2] at hE
            rw [← hys] at hin
            rw [← hys, Int.toNat_natCast] at hcell
            have hb1 : (l0.take (i + 1)).flatten.length ≤ 140737488355328 := by have := slices_Concat_byte_byte.flat_take_le l0 (i + 1); have := HL.out; omega
            have hb2 : (l0.take i).flatten.length + ys.length = (l0.take (i + 1)).flatten.length := by
              have := congrArg List.length hE
              rw [List.length_append] at this
              omega
            have HE := Aside0.mk hE
            have HS := Aside0.mk (show ((l0.take i).flatten.length + ys.length) * 1 ≤ 140737488355328 by omega)
            have HIN := Aside0.mk hin
            obtain ⟨xs, hxs⟩ : ∃ xs, xs = (l0.take i).flatten := ⟨_, rfl⟩
            rw [← hxs] at HO HE HS
            clear hle hE2 hys hE hb1 hb2 hin HC' hxs
            go_wp2_with ((with_reducible refine gate_builtin (b := .append) (xs := #[.tmp 31, .tmp 32]) rfl ?_); at_builtin; refine Kd.R_append_rows (Kd.int .u8) (Rr := (Kd.int .u8).K wr) (w0 := w) w.heap.size rfl (.tmp 31) (.tmp 32) 22 5 (.int .u8 0) 1 rfl Try.underlying22 info5 rfl (by decide) (by omega) u6 xs ys A1 ys.length c1 (fun _ => True) (fun _ => False) rfl rfl ?aO ?aR (fun _ _ h => h) (fun _ hk => hk.elim) (fun _ _ => trivial) ?aB ?aS ?aL ?_; (case aO => exact HO.out); (case aR => exact HIN.out); (case aB => exact HB.out); (case aS => exact below_size HB.out); (case aL => exact HS.out); intro v1 w2 ho hb hg hat; have HO2 := Aside0.mk ho; have HB2 := Aside0.mk hb; clear ho hb hg hat)
            go_roundg (gk - 1)
            case measure => have := HI.out; omega
            case rel => exact ⟨i + 1, by go_num, ⟨by have := HI.out; omega⟩, ⟨by rw [HE.out]; exact HO2.out⟩, HB2⟩
          · go_wp2
            go_ret
            exact ⟨u6, rfl, by have := HO.out; rwa [List.take_of_length_le (by omega)] at this, HB.out⟩
  · rw [if_neg hb] at h; cases h
def impl_put.l0 : Nat → Int → List Int → Int → Option (List Int)
 | 0, _, _, _ => none
 | k + 1, x0, x5, x6 => if x6 ≥ 0 then (if 0 ≤ x6 then (if x6 < (x5.length : Int) then (impl_put.l0 k (x0 / 256) (x5.set (x6 : Int).toNat ((x0) % 256)) (wrap64 (x6 - 1))) else (none)) else (none)) else (some x5)
def impl_put.f (k : Nat) (a0 : Int) (a1 : Int) : Option (List Int) := if 0 ≤ a1 then (if (a1 : Int).toNat ≤ 281474976710656 then (impl_put.l0 k a0 (List.replicate (a1 : Int).toNat 0) (wrap64 (a1 - 1))) else (none)) else (none)
set_option maxHeartbeats 8000000 in
set_option maxRecDepth 100000 in
theorem impl_put.calls (k : Nat) (a0 : Int) (a1 : Int) (r : List Int) (w : World) (h : impl_put.f k a0 a1 = some r) :
  Calls Try.prog 50 #[.int .i64 a0, .int .i64 a1] w fun e w' => ∃ v0_ : Value, e = .returned (v0_) ∧ Kd.R (Kd.int .u8) 5 w' w.heap.size (fun _ => True) v0_ r ∧ Below w.heap.size w w' := by
 have HB := Aside0.mk (Below.refl w.heap.size w)
 have H : (if 0 ≤ a1 then (if (a1 : Int).toNat ≤ 281474976710656 then (impl_put.l0 k a0 (List.replicate (a1 : Int).toNat 0) (wrap64 (a1 - 1))) else (none)) else (none)) = some r := h
 clear h
 by_cases c3 : 0 ≤ a1
 ·rw [if_pos c3] at H
  have c3b0 := eq_true c3
  have c3b1 : decide (0 ≤ a1) = true := decide_eq_true c3
  clear c3
  by_cases c4 : (a1 : Int).toNat ≤ 281474976710656
  ·rw [if_pos c4] at H
   have c4b0 := eq_true c4
   have c4b1 : decide ((a1 : Int).toNat ≤ 281474976710656) = true := decide_eq_true c4
   clear c4
   obtain ⟨y208, hy208⟩ : ∃ y_ : List Int, y_ = (List.replicate (a1 : Int).toNat 0) := ⟨_, rfl⟩
   replace H : (impl_put.l0 k a0 y208 (wrap64 (a1 - 1))) = some r := by first | (rw [hy208]; with_reducible exact H) | (have H2_ := (Option.bind_some _ _).symm.trans H; rw [hy208]; with_reducible exact H2_) | (have H2_ := (Option.bind_some _ _).symm.trans H; with_reducible exact H2_) | with_reducible exact H | (rw [hy208]; exact H) | exact H
   have a3 := Aside0.mk hy208
   clear hy208
   have H' := Aside0.mk H
   clear H
   go_enter Try.func50, Try.ntmps50
   go_wp2_with (first | ((with_reducible refine gate_dst (N := 8) rfl ?_); refine Kd.R_make (Kd.int .u8) _ 5 rfl (N := 8) rfl 22 _ _ rfl a1 rfl rfl Try.underlying22 (.int .u8 0) 1 info5 rfl (by decide) (by omega) 0 (ok := fun _ => True) (okp := fun _ => True) rfl (fun _ hk => hk) trivial (of_decide_eq_true (by first | (with_reducible assumption) | assumption)) (Nat.le_trans (Nat.mul_le_mul_right _ (of_decide_eq_true (by first | (with_reducible assumption) | assumption) : a1.toNat ≤ 281474976710656)) (by omega)) (Below.refl _ _) (Nat.le_refl _) ?_; intro v209 w5 ho6 hb hg_ hnew_; clear hg_ hnew_; (first | rw [← a3.out] at ho6 | (simp only [Int.reduceToNat] at ho6; rw [← a3.out] at ho6)); have n0_ := Aside0.mk (Kd.R_lower ho6 (below_size HB.out)); have n1_ := Aside0.mk (lP_ HB.out hb); clear HB; have a5 := n0_; have HB := n1_; clear n0_ n1_ hb ho6))
   go_loopg [0, 6] k (fun kq v0 v6 w' => ∃ (x0_1 : Int) (x5_1 : List Int) (x6_1 : Int), v0 = .int .i64 x0_1 ∧ v6 = .int .i64 x6_1 ∧ Aside0 (impl_put.l0 kq x0_1 x5_1 x6_1 = some r) ∧ Aside0 (kq ≤ k) ∧ Aside0 (Kd.R (Kd.int .u8) 5 w' w.heap.size (fun _ => True) v209 x5_1) ∧ Aside0 (Below w.heap.size w w'))
   case atStart => exact ⟨(a0), (y208), (wrap64 (a1 - 1)), (by first | rfl | (simp; done) | (simp [*]; done)), (by first | rfl | (simp; done) | (simp [*]; done)), H', ⟨Nat.le_refl _⟩, ⟨by (with_reducible repeat first | apply rA_ | apply rN_ | apply rD_); exact a5.out⟩, ⟨by repeat (first | (with_reducible first | exact HB.out | apply lA1_ | apply lN_ | apply lD_) | exact HB.out)⟩⟩
   case round =>
    clear H'
    try clear p2
    try clear c3
    try clear c3b0
    try clear c3b1
    try clear c4
    try clear c4b0
    try clear c4b1
    try clear c5
    try clear p6
    obtain ⟨x0_1, x5_1, x6_1, rfl, rfl, HA, HK1, a2, HB⟩ := hrel
    cases gk with
    | zero => exact absurd HA.out (by simp [impl_put.l0])
    | succ k1 =>
     have H := HA.out
     clear HA
     simp only [impl_put.l0] at H
     by_cases c7 : x6_1 ≥ 0
     ·rw [if_pos c7] at H
      have c7b0 : decide (0 ≤ x6_1) = true := decide_eq_true c7
      clear c7
      by_cases c8 : 0 ≤ x6_1
      ·rw [if_pos c8] at H
       have c8b0 : decide (0 ≤ x6_1) = true := decide_eq_true c8
       clear c8
       by_cases c9 : x6_1 < (x5_1.length : Int)
       ·rw [if_pos c9] at H
        have c9b0 : decide (x6_1 < (x5_1.length : Int)) = true := decide_eq_true c9
        clear c9
        obtain ⟨y211, hy211⟩ : ∃ y_ : List Int, y_ = (x5_1.set (x6_1 : Int).toNat ((x0_1) % 256)) := ⟨_, rfl⟩
        replace H : (impl_put.l0 k1 (x0_1 / 256) y211 (wrap64 (x6_1 - 1))) = some r := by first | (rw [hy211]; with_reducible exact H) | (have H2_ := (Option.bind_some _ _).symm.trans H; rw [hy211]; with_reducible exact H2_) | (have H2_ := (Option.bind_some _ _).symm.trans H; with_reducible exact H2_) | with_reducible exact H | (rw [hy211]; exact H) | exact H
        have a6 := Aside0.mk hy211
        clear hy211
        have H' := Aside0.mk H
        clear H
        have p10 : 0 ≤ (x6_1 : Int) := of_decide_eq_true (by first | (with_reducible assumption) | assumption)
        have q10 : (x6_1 : Int) < ((x5_1.length : Int) : Int) := of_decide_eq_true (by first | (with_reducible assumption) | assumption)
        obtain ⟨go10, a7, eo10, a4, gl10, cl10, HG10⟩ := Kd.R_form a2.out (by omega)
        (first | cases eo10 | (injection eo10 with ea_ en_ ec_; (first | subst ea_ | (injection ea_ with ea_; subst ea_)); subst ec_; clear en_))
        have a8 := Aside0.mk a4
        have GG10 := Aside0.mk HG10
        clear a4 gl10 HG10
        obtain ⟨hx10_0, hf10_0⟩ := Kd.R_celln 0 a2.out (x6_1 : Int) p10 q10
        replace p10 := eq_true p10
        replace q10 := eq_true q10
        have HP11 := Kd.R_putg a2.out (x6_1 : Int) ((x0_1) % 256)
        go_wp2_with (first | ((with_reducible refine gate_store (t := 5) (p := 19) rfl ?_); refine store_event (t := 5) (p := 19) (v := ?vo_w12) (w1 := (wr.setCell ⟨go10, (x6_1 : Int).toNat, none⟩ (.int .u8 ((x0_1) % 256)))) ?hg ?ho ?hn ?hr ?_; (case ho => rfl); (case hg => rfl); (case hn => rfl); (case hr => first | (go_simp; done) | (go_simp; rfl)); intro w12 hw; have hg : wr.grownBy w12 (some go10) := (by rw [hw]; exact HP11.2); have hp_ : Kd.R (Kd.int .u8) 5 w12 w.heap.size (fun _ => True) (.slice (some ⟨go10, 0, none⟩) x5_1.length a7) y211 := (by rw [hw, a6.out]; exact HP11.1); clear HP11; have n0_ := Aside0.mk (hp_); have n1_ := Aside0.mk ((by rw [hw]; exact lS1_ (HB.out) a8.out : Below w.heap.size w w12)); clear a2 HB; have a2 := n0_; have HB := n1_; clear n0_ n1_ hg hw hp_))
        go_roundg k1
        case measure => have := HK1.out; omega
        case rel => exact ⟨(x0_1 / 256), (y211), (wrap64 (x6_1 - 1)), (by first | rfl | (simp; done) | (simp [*]; done)), (by first | rfl | (simp; done) | (simp [*]; done)), H', ⟨by have := HK1.out; omega⟩, ⟨by (with_reducible repeat first | apply rA_ | apply rN_ | apply rD_); exact a2.out⟩, ⟨by repeat (first | (with_reducible first | exact HB.out | apply lA1_ | apply lN_ | apply lD_) | exact HB.out)⟩⟩
       ·rw [if_neg c9] at H
        exact absurd H (by simp)
      ·rw [if_neg c8] at H
       exact absurd H (by simp)
     ·rw [if_neg c7] at H
      have c7b0 : decide (0 ≤ x6_1) = false := decide_eq_false c7
      clear c7
      obtain rfl := Option.some.inj H
      go_wp2
      go_ret
      exact ⟨_, by first | rfl | (simp [errW_none, errW_some] <;> rfl) | (simp [*, errW_none, errW_some] <;> rfl), by (with_reducible repeat first | apply rA_ | apply rN_ | apply rD_); exact a2.out, by repeat (first | (with_reducible first | exact HB.out | apply lA1_ | apply lN_ | apply lD_) | exact HB.out)⟩
  ·rw [if_neg c4] at H
   exact absurd H (by simp)
 ·rw [if_neg c3] at H
  exact absurd H (by simp)
theorem step_copy_row {P : Program} {ops : Array Oper} {o : Oper} {a : Act} {w : World} {K : Act → World → Prop} {Q : Exit → Act → World → Prop} {E : Prop} (hgd : o.guard = none) (d s : Operand) (dT sT : TypeId)
    (ho : o.op = .call { callee := .builtin .copy, args := #[d, s], argTypes := #[dT, sT] }) (elem : TypeId) (hu : P.underlying dT = some (.slice elem)) (hsz : (P.info? elem).map (·.size) = some 1)
    (g off dLen dCap : Nat) (ad : Addr) (sLen sCap : Nat) (hd : a.eval d = .slice (some ⟨g, off, none⟩) dLen dCap) (hs : a.eval s = .slice (some ad) sLen sCap)
    (cur : Array Value) (t : TypeId) (hg : w.heap[g]? = some (.cells cur t (0, 0))) (cs : List Value) (hn : cs.length = Nat.min sLen dLen)
    (hsrc : ∀ j v, cs[j]? = some v → w.cell? (ad.add j) = some v) (hfit : off + cs.length ≤ cur.size) (h1 : ∀ v ∈ cs, v.oneCell' = true)
    (h : K (a.put o.dst (goInt cs.length)) (w.setRow g (cur.toList.take off ++ (cs ++ cur.toList.drop (off + cs.length))).toArray)) :
    if Region.wanted o (yielded ops a.tmps) = true then Oper.wp P o a w K Q else E := by
  have hw : Region.wanted o (yielded ops a.tmps) = true := by simp [Region.wanted, hgd]
  rw [if_pos hw]
  have hrun := run_copy_row (P := P) w dT sT o.type elem g off dLen dCap ad sLen sCap cur t cs hu hsz hg hn hsrc hfit h1
  unfold Oper.wp
  simp [execOp, ho, resolve, invoke, builtin, hd, hs, hrun, Result.andThen]
  exact h
theorem build_open {w : World} {base : Nat} {ok : Nat → Prop} {v : Value} {xs : List Int} (h : Kd.R (Kd.int .u8) 5 w base ok v xs) (hx : 0 < xs.length) :
    ∃ (g c : Nat) (cur : Array Value), v = .slice (some ⟨g, 0, none⟩) xs.length c ∧ w.heap[g]? = some (.cells cur 5 (0, 0)) ∧ ok g ∧ base ≤ g ∧ xs.length ≤ c ∧ c ≤ maxLen ∧ cur.size = c ∧ cur.toList.take xs.length = xs.map (Value.int .u8) := by
  obtain ⟨_, ho⟩ := Kd.own_of_R h
  rcases ho with ⟨_, e0⟩ | ⟨g, cap, cur, e, hb, hg, h3, h4, h5, h6⟩
  · omega
  · subst e
    exact ⟨g, cap, cur, rfl, hg, h.1 g rfl, hb, h3, h4, by omega, by rw [Nat.mul_one] at h6; exact h6⟩
theorem build_src {w : World} {g : Nat} {cur : Array Value} {xs : List Int} (hg : w.heap[g]? = some (.cells cur 5 (0, 0))) (ht : cur.toList.take xs.length = xs.map (Value.int .u8)) :
    ∀ j v, (xs.map (Value.int .u8))[j]? = some v → w.cell? ((⟨g, 0, none⟩ : Addr).add j) = some v := by
  intro j v hv
  have e : (⟨g, 0, none⟩ : Addr).add j = ⟨g, j, none⟩ := by simp [Addr.add, eq_comm]
  have hj : j < xs.length := by
    have := (List.getElem?_eq_some_iff.1 hv).1
    simpa using this
  rw [e, blk_cell hg j, ← Array.getElem?_toList]
  rw [← ht, List.getElem?_take_of_lt hj] at hv
  exact hv
theorem splice_len {α : Type} (L : List α) (off : Nat) (cs : List α) (h : off + cs.length ≤ L.length) : (splice L off cs).length = L.length := by
  simp [splice]; omega
theorem build_after {w : World} {base g c : Nat} {cur : Array Value} {xs zs : List Int} (hb : base ≤ g) (hg : w.heap[g]? = some (.cells cur 5 (0, 0))) (hc : xs.length ≤ c) (hm : c ≤ maxLen) (hs : cur.size = c)
    (ht : cur.toList.take xs.length = xs.map (Value.int .u8)) (hx : xs.length = 20) (hz : zs.length = 2) :
    Kd.R (Kd.int .u8) 5 (w.setRow g (cur.toList.take 10 ++ (zs.map (Value.int .u8) ++ cur.toList.drop (10 + 2))).toArray) base (fun _ => True) (.slice (some ⟨g, 0, none⟩) xs.length c) (splice xs 10 zs) := by
  have hl : (splice xs 10 zs).length = xs.length := splice_len _ _ _ (by omega)
  have hcl : cur.toList.length = c := by simpa using hs
  have hcur : cur.toList = xs.map (Value.int .u8) ++ cur.toList.drop xs.length := by rw [← ht, List.take_append_drop]
  refine Kd.R_of_own ⟨by simp [encs], .inr ⟨g, c, _, by rw [hl], hb, setRow_heap w g cur _ 5 (0, 0) hg, by omega, hm, ?_, ?_⟩⟩ (fun _ _ => trivial)
  · simp; omega
  · rw [hl, Nat.mul_one]
    have e1 : cur.toList.take 10 = (xs.take 10).map (Value.int .u8) := by
      rw [hcur, List.take_append_of_le_length (by simp; omega), List.map_take]
    have e2 : cur.toList.drop (10 + 2) = (xs.drop 12).map (Value.int .u8) ++ cur.toList.drop xs.length := by
      conv => lhs; rw [hcur]
      rw [List.drop_append_of_le_length (by simp; omega), List.map_drop]
    have e3 : (cur.toList.take 10 ++ (zs.map (Value.int .u8) ++ cur.toList.drop (10 + 2))).toArray.toList = (splice xs 10 zs).map (Value.int .u8) ++ cur.toList.drop xs.length := by
      rw [e1, e2]
      simp [splice, hz]
    rw [e3, List.take_append_of_le_length (by simp [hl]), List.take_of_length_le (by simp [hl])]
    rfl
theorem build_keep {w w' : World} {base : Nat} {ok : Nat → Prop} {v : Value} {xs : List Int} (h : Kd.R (Kd.int .u8) 5 w base ok v xs) (hk : ∀ k, v.ownBlock = some k → w'.heap[k]? = w.heap[k]?) : Kd.R (Kd.int .u8) 5 w' base ok v xs := by
  obtain ⟨hl, ho⟩ := Kd.own_of_R h
  refine Kd.R_of_own ⟨hl, ?_⟩ h.1
  rcases ho with h0 | ⟨g, cap, cur, e, hb, hg, hr⟩
  · exact .inl h0
  · exact .inr ⟨g, cap, cur, e, hb, (hk g (by rw [e]; rfl)).trans hg, hr⟩
theorem build_FK {w : World} {base : Nat} {ok : Nat → Prop} {A : Option Addr} {n c : Nat} {xs : List Int} (hn : n = xs.length) (h : Kd.R (Kd.int .u8) 5 w base ok (.slice A n c) xs) : Kd.FK (Kd.slice 5 (Kd.int .u8)) w ok xs [.slice A n c] := by
  subst hn
  exact Kd.FK_slice_mk (Kd.R_reads' h).2.1 (Kd.R_F h)
def impl_build.j0 : Nat → List Int → Int → Int → Int → Int → Int → Int → List Int → Option (List Int)
 | 0, _, _, _, _, _, _, _, _ => none
 | k + 1, x3, x674000, x674001, x674002, x674003, x674004, x674005, x674006 => (impl_put.f k (wrap64 ((wrap64 (20 + (x3.length : Int))) + (x674006.length : Int))) 2).bind fun t690 => ((impl_put.f k x674000 4).bind fun t699 => ((impl_put.f k x674001 4).bind fun t702 => ((slices_Concat_byte_byte.f (([(([69, 0] : List Int)), t690, (([0, 0, 64, 0, (x674003) % 256, (x674002) % 256, 0, 0] : List Int)), t699, t702] : List (List Int)))).bind fun t708 => ((impl_SumWords.f k t708).bind fun ts_ => ((impl_put.f k ts_ 2).bind fun tz_ => (if t708.length = 20 ∧ tz_.length = 2 then ((slices_Concat_byte_byte.f (([splice t708 10 tz_, x3, x674006] : List (List Int)))).bind fun t714 => (some t714)) else (none)))))))
def impl_build.f (k : Nat) (a0_0 : Int) (a0_1 : Int) (a0_2 : Int) (a0_3 : Int) (a0_4 : Int) (a0_5 : Int) (l0_6 : List Int) : Option (List Int) := (impl_HasPorts.f a0_2).bind fun t677 => (if t677 = true then ((impl_put.f k a0_4 2).bind fun t678 => ((impl_put.f k a0_5 2).bind fun t681 => ((slices_Concat_byte_byte.f (([t678, t681] : List (List Int)))).bind fun t687 => (impl_build.j0 k t687 a0_0 a0_1 a0_2 a0_3 a0_4 a0_5 l0_6)))) else (impl_build.j0 k (([] : List Int)) a0_0 a0_1 a0_2 a0_3 a0_4 a0_5 l0_6))
def impl_build.T3 : Bool × List (List Nat × List Nat) := (true, [([], []), ([0], [0]), ([1], [1]), ([], []), ([3], [3]), ([4, 2], [4]), ([2, 5], [2, 5]), ([6, 5], [6]), ([7, 7, 0, 1, 2, 3, 4, 5, 6, 7], [7])])
def impl_build.B3 : List Nat := [0, 1, 3, 0, 8, 31, 63, 127, 255]
theorem impl_build.tab3 : rtab .any (opsOf Try.f62 3) = impl_build.T3 := by kernel_rfl
theorem impl_build.bits3 : waitsOk impl_build.T3.2 impl_build.B3 = true := by kernel_rfl
def impl_build.T5 : Bool × List (List Nat × List Nat) := (true, [([], []), ([], []), ([], []), ([2], [2]), ([3], [3]), ([], []), ([5], [5]), ([6], [6]), ([4, 7], [4, 7]), ([], []), ([9], [9]), ([10], [10]), ([], []), ([12], [12]), ([13, 11], [13]), ([0, 1, 8, 11, 14], [0, 1, 8, 11, 14]), ([15, 14], [15]), ([16, 16, 0, 1, 2, 3, 4, 5, 6, 7, 8, 9, 10, 11, 12, 13, 14, 15, 16], [16])])
def impl_build.B5 : List Nat := [0, 0, 0, 4, 12, 0, 32, 96, 252, 0, 512, 1536, 0, 4096, 15872, 32767, 65535, 131071]
theorem impl_build.tab5 : rtab .any (opsOf Try.f62 5) = impl_build.T5 := by kernel_rfl
theorem impl_build.bits5 : waitsOk impl_build.T5.2 impl_build.B5 = true := by kernel_rfl
set_option maxHeartbeats 8000000 in
set_option maxRecDepth 100000 in
theorem impl_build.callsV (k : Nat) (a0_0 : Int) (a0_1 : Int) (a0_2 : Int) (a0_3 : Int) (a0_4 : Int) (a0_5 : Int) (P0_6_ : Nat → Prop) (A0_6 : Option Addr) (c0_6 : Nat) (l0_6 : List Int) (r : List Int) (w : World) (hs0_6 : Kd.V (Kd.int .u8) 5 w w.heap.size (fun k_ => P0_6_ k_) (.slice A0_6 l0_6.length c0_6) l0_6) (h : impl_build.f k a0_0 a0_1 a0_2 a0_3 a0_4 a0_5 l0_6 = some r) :
  Calls Try.prog 62 #[.agg #[.int .i64 a0_0, .int .i64 a0_1, .int .i64 a0_2, .int .i64 a0_3, .int .i64 a0_4, .int .i64 a0_5, .slice A0_6 l0_6.length c0_6]] w fun e w' => ∃ v0_ : Value, e = .returned (v0_) ∧ Kd.R (Kd.int .u8) 5 w' w.heap.size (fun k_ => (w.heap.size ≤ k_)) v0_ r ∧ Below w.heap.size w w' := by
 have hu34 := Try.underlying34
 have a8 := Aside0.mk (show Kd.V (Kd.int .u8) 5 w w.heap.size (fun k_ => (P0_6_ k_ ∨ w.heap.size ≤ k_)) (.slice A0_6 l0_6.length c0_6) l0_6 from Kd.V_mono hs0_6 (fun k_ hk => .inl hk))
 have HB := Aside0.mk (Below.refl w.heap.size w)
 have H : ((impl_HasPorts.f a0_2).bind fun t677 => (if t677 = true then ((impl_put.f k a0_4 2).bind fun t678 => ((impl_put.f k a0_5 2).bind fun t681 => ((slices_Concat_byte_byte.f (([t678, t681] : List (List Int)))).bind fun t687 => (impl_build.j0 k t687 a0_0 a0_1 a0_2 a0_3 a0_4 a0_5 l0_6)))) else (impl_build.j0 k (([] : List Int)) a0_0 a0_1 a0_2 a0_3 a0_4 a0_5 l0_6))) = some r := h
 clear h
 obtain ⟨y674, hy674⟩ : ∃ y_ : List Int, y_ = (([] : List Int)) := ⟨_, rfl⟩
 replace H : ((impl_HasPorts.f a0_2).bind fun t677 => (if t677 = true then ((impl_put.f k a0_4 2).bind fun t678 => ((impl_put.f k a0_5 2).bind fun t681 => ((slices_Concat_byte_byte.f (([t678, t681] : List (List Int)))).bind fun t687 => (impl_build.j0 k t687 a0_0 a0_1 a0_2 a0_3 a0_4 a0_5 l0_6)))) else (impl_build.j0 k y674 a0_0 a0_1 a0_2 a0_3 a0_4 a0_5 l0_6))) = some r := by first | (rw [hy674]; with_reducible exact H) | (have H2_ := (Option.bind_some _ _).symm.trans H; rw [hy674]; with_reducible exact H2_) | (have H2_ := (Option.bind_some _ _).symm.trans H; with_reducible exact H2_) | with_reducible exact H | (rw [hy674]; exact H) | exact H
 have av := Aside0.mk hy674
 clear hy674
 replace H := Option.bind_eq_some_iff.mp H
 obtain ⟨t677, bj, H⟩ := H
 try dsimp only at H
 have A2 := Aside0.mk bj
 clear bj
 have b0 := Aside0.mk H
 clear H
 go_enter Try.func62, Try.ntmps62
 go_upto_if 9 with (first | ((with_reducible refine gate_dst (N := 1) rfl ?_); refine box_event ?hg (N := 1) ?hd (cs := #[.int .i64 a0_0, .int .i64 a0_1, .int .i64 a0_2, .int .i64 a0_3, .int .i64 a0_4, .int .i64 a0_5, .slice A0_6 l0_6.length c0_6]) (t := 34) ?hr ?_; (case hd => rfl); (case hg => rfl); (case hr => first | (go_simp; done) | (go_simp; rfl)); intro a2 hg w4 hbox hb; have n0_ := Aside0.mk (Kd.V_below (Kd.V_elderB (by (with_reducible repeat (first | apply Kd.V_alloc | apply Kd.V_drewN | apply Kd.V_drew)); exact a8.out) a2 (Nat.le_of_eq hg.symm)) hb); have n1_ := Aside0.mk (lP_ (by repeat (first | (with_reducible first | exact HB.out | apply lA1_ | apply lN_ | apply lD_) | exact HB.out)) hb); have n2_ := Aside0.mk (hbox); have n3_ := Aside0.mk ((by rw [hg]; exact (below_size (by repeat (first | (with_reducible first | exact HB.out | apply lA1_ | apply lN_ | apply lD_) | exact HB.out))) : w.heap.size ≤ a2)); have n4_ := Aside0.mk ((by rw [hg]; exact (below_size (by repeat (first | (with_reducible first | exact HB.out | apply lA1_ | apply lN_ | apply lD_) | exact HB.out))) : w.heap.size ≤ a2)); clear a8 HB; have a8 := n0_; have HB := n1_; have a0 := n2_; have bw := n3_; have a4 := n4_; clear n0_ n1_ n2_ n3_ n4_ hb hbox hg) | ((with_reducible refine gate_dst (N := 6) rfl ?_); refine Kd.R_lit (Kd.int .u8) _ 5 ?hg (N := 6) ?hd (xs := ([] : List Int)) (inner := []) (ok := fun _ => True) (okp := fun _ => True) ?hr ?hp (fun _ hk => hk) trivial (Below.refl _ _) (Nat.le_refl _) (by simp) ?_; (case hd => rfl); (case hg => rfl); (case hr => first | (go_simp; done) | (go_simp; rfl)); (case hp => exact (Reps.none _ _)); intro v675 w5 ho6 hb hg_ hnew_; clear hg_ hnew_; (first | rw [← av.out] at ho6 | (simp only [Int.reduceToNat] at ho6; rw [← av.out] at ho6)); have n0_ := Aside0.mk (Kd.V_elder' (by (with_reducible repeat (first | apply Kd.V_alloc | apply Kd.V_drewN | apply Kd.V_drew)); exact a8.out) (Kd.R_base ho6) hb); have n1_ := Aside0.mk (Kd.R_lower (Kd.R_newM (M := fun k_ => (w.heap.size ≤ k_)) ho6 (below_size (by repeat (first | (with_reducible first | exact HB.out | apply lA1_ | apply lN_ | apply lD_ | refine lS1_ ?_ a4.out) | exact HB.out))) (fun k_ h_ => h_)) (below_size (by repeat (first | (with_reducible first | exact HB.out | apply lA1_ | apply lN_ | apply lD_ | refine lS1_ ?_ a4.out) | exact HB.out)))); have n2_ := Aside0.mk (bB_ (g := a2) (o := .cells #[.int .i64 a0_0, .int .i64 a0_1, .int .i64 a0_2, .int .i64 a0_3, .int .i64 a0_4, .int .i64 a0_5, .slice A0_6 l0_6.length c0_6] 34 (0, 0)) (by (with_reducible repeat first | apply bN_ | apply bD_ | apply bA_); exact a0.out) hb); have n3_ := Aside0.mk (lP_ (by repeat (first | (with_reducible first | exact HB.out | apply lA1_ | apply lN_ | apply lD_ | refine lS1_ ?_ a4.out) | exact HB.out)) hb); clear a8 a0 HB; have a8 := n0_; have a9 := n1_; have a0 := n2_; have HB := n3_; clear n0_ n1_ n2_ n3_ hb ho6; obtain ⟨_, _, _, _, _, _, _, _, _, _, _, _, _, _⟩ := bc7 a0.out) | ((with_reducible refine gate_callee (f := 57) rfl ?_); refine goesA_ (some 9) rfl rfl Try.func57 (by kernel_rfl) rfl #[.int .i64 a0_2] rfl ?_; (with_reducible refine (impl_HasPorts.calls a0_2 t677 _ A2.out).mono ?_); rintro e w' ⟨rfl, ⟨nd, rfl⟩⟩; refine ⟨_, rfl, ?_⟩))
 (try simp only [Act.put, lA_, lZ_, lS_])
 go_cut [3] (fun v3 wc => ∃ (kq : Nat) (x3_2 : List Int), Aside0 (impl_build.j0 kq x3_2 a0_0 a0_1 a0_2 a0_3 a0_4 a0_5 l0_6 = some r) ∧ Aside0 (kq ≤ k) ∧ Aside0 (Kd.R (Kd.int .u8) 5 wc w.heap.size (fun k_ => (w.heap.size ≤ k_)) v3 x3_2) ∧ Aside0 (Kd.V (Kd.int .u8) 5 wc w.heap.size (fun k_ => (P0_6_ k_ ∨ w.heap.size ≤ k_) ∧ some k_ ≠ (v3 : Value).ownBlock ∧ k_ ≠ a2) (.slice A0_6 l0_6.length c0_6) l0_6) ∧ Aside0 (wc.heap[a2]? = some (.cells #[.int .i64 a0_0, .int .i64 a0_1, .int .i64 a0_2, .int .i64 a0_3, .int .i64 a0_4, .int .i64 a0_5, (.slice A0_6 l0_6.length c0_6)] 34 (0, 0))) ∧ Aside0 (Below w.heap.size w wc))
 case first =>
  have H := b0.out
  clear b0
  by_cases c8 : t677 = true
  ·subst c8
   rw [if_pos rfl] at H
   replace H := Option.bind_eq_some_iff.mp H
   obtain ⟨t678, bk, H⟩ := H
   try dsimp only at H
   have A9 := Aside0.mk bk
   clear bk
   replace H := Option.bind_eq_some_iff.mp H
   obtain ⟨t681, b1, H⟩ := H
   try dsimp only at H
   have bp := Aside0.mk b1
   clear b1
   obtain ⟨y684, hy684⟩ : ∃ y_ : List (List Int), y_ = (([t678, t681] : List (List Int))) := ⟨_, rfl⟩
   replace H : ((slices_Concat_byte_byte.f y684).bind fun t687 => (impl_build.j0 k t687 a0_0 a0_1 a0_2 a0_3 a0_4 a0_5 l0_6)) = some r := by first | (rw [hy684]; with_reducible exact H) | (have H2_ := (Option.bind_some _ _).symm.trans H; rw [hy684]; with_reducible exact H2_) | (have H2_ := (Option.bind_some _ _).symm.trans H; with_reducible exact H2_) | with_reducible exact H | (rw [hy684]; exact H) | exact H
   have aw := Aside0.mk hy684
   clear hy684
   replace H := Option.bind_eq_some_iff.mp H
   obtain ⟨t687, b2, H⟩ := H
   try dsimp only at H
   have bq := Aside0.mk b2
   clear b2
   have H' := Aside0.mk H
   clear H
   try go_wp2
   try (have m0_ := Aside0.mk (Kd.V_drewN a8.out nd); have m1_ := Aside0.mk (rN_ a9.out nd); have m2_ := Aside0.mk (bN_ a0.out nd); have m3_ := Aside0.mk (lN_ HB.out nd); clear a8 a9 a0 HB; generalize hw_ : World.drewN w5 nd = wz_ at m0_ m1_ m2_ m3_ ⊢; have a8 := m0_; have a9 := m1_; have a0 := m2_; have HB := m3_; clear m0_ m1_ m2_ m3_ hw_)
   have n0_ := Aside0.mk (Kd.V_drew a8.out)
   have n1_ := Aside0.mk (rD_ a9.out)
   have n2_ := Aside0.mk (bD_ a0.out)
   have n3_ := Aside0.mk (lD_ HB.out)
   clear a8
   clear a9
   clear a0
   clear HB
   have a8 := n0_
   have a9 := n1_
   have a0 := n2_
   have HB := n3_
   clear n0_ n1_ n2_ n3_
   refine start_ (n := 9) (S := fun w' => w'.cell? ⟨a2, 0, none⟩ = some (.int .i64 a0_0) ∧ w'.cell? ⟨a2, 1, none⟩ = some (.int .i64 a0_1) ∧ w'.cell? ⟨a2, 2, none⟩ = some (.int .i64 a0_2) ∧ w'.cell? ⟨a2, 3, none⟩ = some (.int .i64 a0_3) ∧ w'.cell? ⟨a2, 4, none⟩ = some (.int .i64 a0_4) ∧ w'.cell? ⟨a2, 5, none⟩ = some (.int .i64 a0_5) ∧ w'.cell? ⟨a2, 6, none⟩ = some (.slice A0_6 l0_6.length c0_6)) (ds := []) #[false, false, false, false, false, false, false, false, false] (by kernel_rfl) rfl rfl ⟨(blk_cell a0.out 0).trans rfl, (blk_cell a0.out 1).trans rfl, (blk_cell a0.out 2).trans rfl, (blk_cell a0.out 3).trans rfl, (blk_cell a0.out 4).trans rfl, (blk_cell a0.out 5).trans rfl, (blk_cell a0.out 6).trans rfl⟩ (fun hHeld => ?_); refine with_tabW impl_build.tab3 impl_build.bits3 (fun HT_ HW_ => ?_)
   first | generalize wz_.drew = w12 at a8 a9 a0 HB hHeld ⊢ | generalize w5.drew = w12 at a8 a9 a0 HB hHeld ⊢
   refine pure_ (i := 0) (N := some 10) (v := ?_) (a' := ?_) #[true, false, false, false, false, false, false, false, false] rfl rfl (any_of HT_.out (by kernel_rfl)) (fun _ _ _ h => h) (Or.inl ⟨by rfl, ?_⟩) ?_ ?_
   rotate_left
   ·intro w'
    go_simp
    with_reducible rfl
   rotate_left
   ·simp only [Act.put, lA_, lZ_, lS_, i64_w, i32_w]
    rfl
   refine pure_ (i := 3) (N := some 13) (v := ?_) (a' := ?_) #[true, false, false, true, false, false, false, false, false] rfl rfl (any_of HT_.out (by kernel_rfl)) (fun _ _ _ h => h) (Or.inl ⟨by rfl, ?_⟩) ?_ ?_
   rotate_left
   ·intro w'
    go_simp
    with_reducible rfl
   rotate_left
   ·simp only [Act.put, lA_, lZ_, lS_, i64_w, i32_w]
    rfl
   refine take_ (i := 1) (N := some 11) (v := ?_) (a' := ?_) #[true, true, false, true, false, false, false, false, false] rfl rfl (take_ofW HT_.out HW_.out (by kernel_rfl)) (fun _ _ _ h => h) (Or.inl ⟨by rfl, ?_⟩) hHeld ?_ ?_
   rotate_left
   ·rintro w' ⟨s0, s1, s2, s3, s4, s5, s6⟩
    go_simp
    with_reducible rfl
   rotate_left
   ·simp only [Act.put, lA_, lZ_, lS_, i64_w, i32_w]
    rfl
   refine take_ (i := 4) (N := some 14) (v := ?_) (a' := ?_) #[true, true, false, true, true, false, false, false, false] rfl rfl (take_ofW HT_.out HW_.out (by kernel_rfl)) (fun _ _ _ h => h) (Or.inl ⟨by rfl, ?_⟩) hHeld ?_ ?_
   rotate_left
   ·rintro w' ⟨s0, s1, s2, s3, s4, s5, s6⟩
    go_simp
    with_reducible rfl
   rotate_left
   ·simp only [Act.put, lA_, lZ_, lS_, i64_w, i32_w]
    rfl
   refine one_ (i := 2) (N := some 12) #[true, true, true, true, true, false, false, false, false] rfl rfl (one_of HT_.out (by kernel_rfl)) (by decide) (fun K hK => ?_)
   refine goes_ Try.func50 (by kernel_rfl) rfl #[.int .i64 a0_4, .int .i64 2] (by rfl) rfl rfl (by (try simp only [List.map_toArray, List.map_cons, List.map_nil]); first | done | rfl | (simp only [List.length_drop, List.length_take]; rfl)) ?_
   with_reducible refine (impl_put.calls k a0_4 2 t678 _ A9.out).mono ?_
   rintro e w13 ⟨v679, rfl, ho0, hb⟩
   refine ⟨_, rfl, ?_⟩
   have n0_ := Aside0.mk (Kd.V_elder' (by (with_reducible repeat (first | apply Kd.V_alloc | apply Kd.V_drewN | apply Kd.V_drew)); exact a8.out) (Kd.R_base ho0) hb)
   have n1_ := Aside0.mk (Kd.R_elder' (by (with_reducible repeat first | apply rA_ | apply rN_ | apply rD_); exact a9.out) (Kd.R_base ho0) hb)
   have n2_ := Aside0.mk (Kd.R_lower (Kd.R_new' (Kd.R_newM (M := fun k_ => (w.heap.size ≤ k_)) ho0 (below_size (by repeat (first | (with_reducible first | exact HB.out | apply lA1_ | apply lN_ | apply lD_ | refine lS1_ ?_ a4.out) | exact HB.out))) (fun k_ h_ => h_)) (Kd.R_lt (by (with_reducible repeat first | apply rA_ | apply rN_ | apply rD_); exact a9.out))) (below_size (by repeat (first | (with_reducible first | exact HB.out | apply lA1_ | apply lN_ | apply lD_ | refine lS1_ ?_ a4.out) | exact HB.out))))
   have n3_ := Aside0.mk (bB_ (g := a2) (o := .cells #[.int .i64 a0_0, .int .i64 a0_1, .int .i64 a0_2, .int .i64 a0_3, .int .i64 a0_4, .int .i64 a0_5, .slice A0_6 l0_6.length c0_6] 34 (0, 0)) (by (with_reducible repeat first | apply bN_ | apply bD_ | apply bA_); exact a0.out) hb)
   have n4_ := Aside0.mk (lP_ (by repeat (first | (with_reducible first | exact HB.out | apply lA1_ | apply lN_ | apply lD_ | refine lS1_ ?_ a4.out) | exact HB.out)) hb)
   clear a8
   clear a9
   clear a0
   clear HB
   have a8 := n0_
   have a9 := n1_
   have ad := n2_
   have a0 := n3_
   have HB := n4_
   clear n0_ n1_ n2_ n3_ n4_
   (try clear hb)
   (try clear hb2)
   (try clear hk)
   (try clear hi)
   (try clear ho0)
   refine hK.out _ _ ⟨(blk_cell a0.out 0).trans rfl, (blk_cell a0.out 1).trans rfl, (blk_cell a0.out 2).trans rfl, (blk_cell a0.out 3).trans rfl, (blk_cell a0.out 4).trans rfl, (blk_cell a0.out 5).trans rfl, (blk_cell a0.out 6).trans rfl⟩ (fun hHeld => ?_)
   clear hK K
   refine norm_ (a' := ?_) ?_ ?_
   rotate_left
   ·show Act.put _ (some 12) _ = _
    simp only [Act.put, lA_, lZ_, lS_, i64_w, i32_w]
    rfl
   refine one_ (i := 5) (N := some 15) #[true, true, true, true, true, true, false, false, false] rfl rfl (one_of HT_.out (by kernel_rfl)) (by decide) (fun K hK => ?_)
   refine goes_ Try.func50 (by kernel_rfl) rfl #[.int .i64 a0_5, .int .i64 2] (by rfl) rfl rfl (by (try simp only [List.map_toArray, List.map_cons, List.map_nil]); first | done | rfl | (simp only [List.length_drop, List.length_take]; rfl)) ?_
   with_reducible refine (impl_put.calls k a0_5 2 t681 _ bp.out).mono ?_
   rintro e w14 ⟨v682, rfl, ho0, hb⟩
   refine ⟨_, rfl, ?_⟩
   have n0_ := Aside0.mk (Kd.V_elder' (by (with_reducible repeat (first | apply Kd.V_alloc | apply Kd.V_drewN | apply Kd.V_drew)); exact a8.out) (Kd.R_base ho0) hb)
   have n1_ := Aside0.mk (Kd.R_elder' (by (with_reducible repeat first | apply rA_ | apply rN_ | apply rD_); exact a9.out) (Kd.R_base ho0) hb)
   have n2_ := Aside0.mk (Kd.R_elder' (by (with_reducible repeat first | apply rA_ | apply rN_ | apply rD_); exact ad.out) (Kd.R_base ho0) hb)
   have n3_ := Aside0.mk (Kd.R_lower (Kd.R_new' (Kd.R_new' (Kd.R_newM (M := fun k_ => (w.heap.size ≤ k_)) ho0 (below_size (by repeat (first | (with_reducible first | exact HB.out | apply lA1_ | apply lN_ | apply lD_ | refine lS1_ ?_ a4.out) | exact HB.out))) (fun k_ h_ => h_)) (Kd.R_lt (by (with_reducible repeat first | apply rA_ | apply rN_ | apply rD_); exact a9.out))) (Kd.R_lt (by (with_reducible repeat first | apply rA_ | apply rN_ | apply rD_); exact ad.out))) (below_size (by repeat (first | (with_reducible first | exact HB.out | apply lA1_ | apply lN_ | apply lD_ | refine lS1_ ?_ a4.out) | exact HB.out))))
   have n4_ := Aside0.mk (bB_ (g := a2) (o := .cells #[.int .i64 a0_0, .int .i64 a0_1, .int .i64 a0_2, .int .i64 a0_3, .int .i64 a0_4, .int .i64 a0_5, .slice A0_6 l0_6.length c0_6] 34 (0, 0)) (by (with_reducible repeat first | apply bN_ | apply bD_ | apply bA_); exact a0.out) hb)
   have n5_ := Aside0.mk (lP_ (by repeat (first | (with_reducible first | exact HB.out | apply lA1_ | apply lN_ | apply lD_ | refine lS1_ ?_ a4.out) | exact HB.out)) hb)
   clear a8
   clear a9
   clear ad
   clear a0
   clear HB
   have a8 := n0_
   have a9 := n1_
   have ad := n2_
   have ai := n3_
   have a0 := n4_
   have HB := n5_
   clear n0_ n1_ n2_ n3_ n4_ n5_
   (try clear hb)
   (try clear hb2)
   (try clear hk)
   (try clear hi)
   (try clear ho0)
   obtain ⟨b3, b4, eo15⟩ := Kd.R_slice ad.out
   (first | subst eo15 | (injection eo15 with f1_ f2_ f3_; have f4_ := f1_.symm; have f5_ := f3_.symm; clear f1_ f2_ f3_; subst f4_; subst f5_))
   obtain ⟨b5, b6, eo16⟩ := Kd.R_slice ai.out
   (first | subst eo16 | (injection eo16 with f1_ f2_ f3_; have f4_ := f1_.symm; have f5_ := f3_.symm; clear f1_ f2_ f3_; subst f4_; subst f5_))
   refine hK.out _ _ ⟨(blk_cell a0.out 0).trans rfl, (blk_cell a0.out 1).trans rfl, (blk_cell a0.out 2).trans rfl, (blk_cell a0.out 3).trans rfl, (blk_cell a0.out 4).trans rfl, (blk_cell a0.out 5).trans rfl, (blk_cell a0.out 6).trans rfl⟩ (fun hHeld => ?_)
   clear hK K
   refine norm_ (a' := ?_) ?_ ?_
   rotate_left
   ·show Act.put _ (some 15) _ = _
    simp only [Act.put, lA_, lZ_, lS_, i64_w, i32_w]
    rfl
   refine one_ (i := 6) (N := some 16) #[true, true, true, true, true, true, true, false, false] rfl rfl (one_of HT_.out (by kernel_rfl)) (by decide) (fun K hK => ?_)
   refine Kd.N_lit_step (Kd.slice 5 (Kd.int .u8)) _ 22 ?hg (N' := 16) ?hd (xs := ([t678, t681] : List (List Int))) (inner := [.slice b3 t678.length b4, .slice b5 t681.length b6]) (ok := (fun k_ => (P0_6_ k_ ∨ w.heap.size ≤ k_) ∧ some k_ ≠ (v675 : Value).ownBlock ∧ k_ ≠ a2)) (okp := (fun k_ => (P0_6_ k_ ∨ w.heap.size ≤ k_) ∧ some k_ ≠ (v675 : Value).ownBlock ∧ k_ ≠ a2)) ?hr ?hp (fun _ hk => hk) ((show ∀ k_, w14.heap.size ≤ k_ → (fun k_ => (P0_6_ k_ ∨ w.heap.size ≤ k_) ∧ some k_ ≠ (v675 : Value).ownBlock ∧ k_ ≠ a2) k_ from fun k_ hk => ⟨(.inr (Nat.le_trans (below_size (by repeat (first | (with_reducible first | exact HB.out | apply lA1_ | apply lN_ | apply lD_ | refine lS1_ ?_ a4.out) | exact HB.out))) hk)), Kd.fresh' (Kd.R_lt (by (with_reducible repeat first | apply rA_ | apply rN_ | apply rD_); exact a9.out)) k_ hk, Kd.freshB (g := a2) (o := .cells #[.int .i64 a0_0, .int .i64 a0_1, .int .i64 a0_2, .int .i64 a0_3, .int .i64 a0_4, .int .i64 a0_5, .slice A0_6 l0_6.length c0_6] 34 (0, 0)) (by (with_reducible repeat first | apply bN_ | apply bD_ | apply bA_); exact a0.out) k_ hk⟩) _ (Nat.le_refl _)) (Below.refl _ _) (Nat.le_refl _) (by simp) ?_; (case hd => rfl); (case hg => rfl); (case hr => first | (go_simp; done) | (go_simp; rfl)); (case hp => exact (Reps.one (show Kd.FK (Kd.slice 5 (Kd.int .u8)) _ _ t678 [.slice b3 t678.length b4] from (Kd.FK_slice_mk (Kd.R_reads' (Kd.R_mono (ok' := (fun k_ => (P0_6_ k_ ∨ w.heap.size ≤ k_) ∧ some k_ ≠ (v675 : Value).ownBlock ∧ k_ ≠ a2)) (Kd.R_types (ad.out) a0.out (by decide)) (fun k_ hk => ⟨(.inr (hk.1.1.1.1)), ⟨hk.1.1.2, hk.2⟩⟩))).2.1 (Kd.R_F (Kd.R_mono (ok' := (fun k_ => (P0_6_ k_ ∨ w.heap.size ≤ k_) ∧ some k_ ≠ (v675 : Value).ownBlock ∧ k_ ≠ a2)) (Kd.R_types (ad.out) a0.out (by decide)) (fun k_ hk => ⟨(.inr (hk.1.1.1.1)), ⟨hk.1.1.2, hk.2⟩⟩))))) (Reps.one (show Kd.FK (Kd.slice 5 (Kd.int .u8)) _ _ t681 [.slice b5 t681.length b6] from (Kd.FK_slice_mk (Kd.R_reads' (Kd.R_mono (ok' := (fun k_ => (P0_6_ k_ ∨ w.heap.size ≤ k_) ∧ some k_ ≠ (v675 : Value).ownBlock ∧ k_ ≠ a2)) (Kd.R_types (ai.out) a0.out (by decide)) (fun k_ hk => ⟨(.inr (hk.1.1.1.1)), ⟨hk.1.1.2, hk.2⟩⟩))).2.1 (Kd.R_F (Kd.R_mono (ok' := (fun k_ => (P0_6_ k_ ∨ w.heap.size ≤ k_) ∧ some k_ ≠ (v675 : Value).ownBlock ∧ k_ ≠ a2)) (Kd.R_types (ai.out) a0.out (by decide)) (fun k_ hk => ⟨(.inr (hk.1.1.1.1)), ⟨hk.1.1.2, hk.2⟩⟩))))) (Reps.none _ _))))
   intro v685 w17 ho18 hb hg_ hnew_
   clear hg_ hnew_
   (first | rw [← aw.out] at ho18 | (simp only [Int.reduceToNat] at ho18; rw [← aw.out] at ho18))
   have n0_ := Aside0.mk (Kd.V_elder' (by (with_reducible repeat (first | apply Kd.V_alloc | apply Kd.V_drewN | apply Kd.V_drew)); exact a8.out) (Kd.N_base ho18) hb)
   have n1_ := Aside0.mk (Kd.R_below (by (with_reducible repeat first | apply rA_ | apply rN_ | apply rD_); exact a9.out) hb)
   have n2_ := Aside0.mk (Kd.N_lower ho18 (below_size (by repeat (first | (with_reducible first | exact HB.out | apply lA1_ | apply lN_ | apply lD_ | refine lS1_ ?_ a4.out) | exact HB.out))))
   have n3_ := Aside0.mk (bB_ (g := a2) (o := .cells #[.int .i64 a0_0, .int .i64 a0_1, .int .i64 a0_2, .int .i64 a0_3, .int .i64 a0_4, .int .i64 a0_5, .slice A0_6 l0_6.length c0_6] 34 (0, 0)) (by (with_reducible repeat first | apply bN_ | apply bD_ | apply bA_); exact a0.out) hb)
   have n4_ := Aside0.mk (lP_ (by repeat (first | (with_reducible first | exact HB.out | apply lA1_ | apply lN_ | apply lD_ | refine lS1_ ?_ a4.out) | exact HB.out)) hb)
   clear a8
   clear a9
   clear a0
   clear HB
   clear ad
   clear ai
   have a8 := n0_
   have a9 := n1_
   have ae := n2_
   have a0 := n3_
   have HB := n4_
   clear n0_ n1_ n2_ n3_ n4_
   clear hb ho18
   obtain ⟨bl, bm, eo19⟩ := Kd.N_slice ae.out
   (first | subst eo19 | (injection eo19 with f1_ f2_ f3_; have f4_ := f1_.symm; have f5_ := f3_.symm; clear f1_ f2_ f3_; subst f4_; subst f5_))
   refine hK.out _ _ ⟨(blk_cell a0.out 0).trans rfl, (blk_cell a0.out 1).trans rfl, (blk_cell a0.out 2).trans rfl, (blk_cell a0.out 3).trans rfl, (blk_cell a0.out 4).trans rfl, (blk_cell a0.out 5).trans rfl, (blk_cell a0.out 6).trans rfl⟩ (fun hHeld => ?_)
   clear hK K
   refine norm_ (a' := ?_) ?_ ?_
   rotate_left
   ·show Act.put _ (some 16) _ = _
    simp only [Act.put, lA_, lZ_, lS_, i64_w, i32_w]
    rfl
   refine one_ (i := 7) (N := some 17) #[true, true, true, true, true, true, true, true, false] rfl rfl (one_of HT_.out (by kernel_rfl)) (by decide) (fun K hK => ?_)
   refine goes_ Try.func49 (by kernel_rfl) rfl #[.slice bl y684.length bm] (by rfl) rfl rfl (by (try simp only [List.map_toArray, List.map_cons, List.map_nil]); first | done | rfl | (simp only [List.length_drop, List.length_take]; rfl)) ?_
   with_reducible refine (slices_Concat_byte_byte.calls _ _ y684 t687 _ ?side1 ?side2 bq.out).mono ?_
   (case side1 => repeat (first | exact (Kd.N_reads' ae.out).2.2 | (with_reducible refine Kd.C_alloc ?_ _) | (with_reducible refine Kd.C_drewN ?_ _) | (with_reducible refine Kd.C_drew ?_)))
   (case side2 => exact (Kd.N_reads' ae.out).2.1)
   rintro e w20 ⟨v688, rfl, ho0, hb⟩
   refine ⟨_, rfl, ?_⟩
   have n0_ := Aside0.mk (Kd.V_elder' (by (with_reducible repeat (first | apply Kd.V_alloc | apply Kd.V_drewN | apply Kd.V_drew)); exact a8.out) (Kd.R_base ho0) hb)
   have n1_ := Aside0.mk (Kd.R_elder' (by (with_reducible repeat first | apply rA_ | apply rN_ | apply rD_); exact a9.out) (Kd.R_base ho0) hb)
   have n2_ := Aside0.mk (Kd.N_elder' (by (with_reducible repeat (first | apply Kd.N_alloc | apply Kd.N_drewN | apply Kd.N_drew)); exact ae.out) (Kd.R_base ho0) hb)
   have n3_ := Aside0.mk (Kd.R_lower (Kd.R_new' (Kd.R_newM (M := fun k_ => (w.heap.size ≤ k_)) ho0 (below_size (by repeat (first | (with_reducible first | exact HB.out | apply lA1_ | apply lN_ | apply lD_ | refine lS1_ ?_ a4.out) | exact HB.out))) (fun k_ h_ => h_)) (Kd.R_lt (by (with_reducible repeat first | apply rA_ | apply rN_ | apply rD_); exact a9.out))) (below_size (by repeat (first | (with_reducible first | exact HB.out | apply lA1_ | apply lN_ | apply lD_ | refine lS1_ ?_ a4.out) | exact HB.out))))
   have n4_ := Aside0.mk (bB_ (g := a2) (o := .cells #[.int .i64 a0_0, .int .i64 a0_1, .int .i64 a0_2, .int .i64 a0_3, .int .i64 a0_4, .int .i64 a0_5, .slice A0_6 l0_6.length c0_6] 34 (0, 0)) (by (with_reducible repeat first | apply bN_ | apply bD_ | apply bA_); exact a0.out) hb)
   have n5_ := Aside0.mk (lP_ (by repeat (first | (with_reducible first | exact HB.out | apply lA1_ | apply lN_ | apply lD_ | refine lS1_ ?_ a4.out) | exact HB.out)) hb)
   clear a8
   clear a9
   clear ae
   clear a0
   clear HB
   have a8 := n0_
   have a9 := n1_
   have ae := n2_
   have bg := n3_
   have a0 := n4_
   have HB := n5_
   clear n0_ n1_ n2_ n3_ n4_ n5_
   (try clear hb)
   (try clear hb2)
   (try clear hk)
   (try clear hi)
   (try clear ho0)
   refine hK.out _ _ ⟨(blk_cell a0.out 0).trans rfl, (blk_cell a0.out 1).trans rfl, (blk_cell a0.out 2).trans rfl, (blk_cell a0.out 3).trans rfl, (blk_cell a0.out 4).trans rfl, (blk_cell a0.out 5).trans rfl, (blk_cell a0.out 6).trans rfl⟩ (fun hHeld => ?_)
   clear hK K
   refine norm_ (a' := ?_) ?_ ?_
   rotate_left
   ·show Act.put _ (some 17) _ = _
    simp only [Act.put, lA_, lZ_, lS_, i64_w, i32_w]
    rfl
   refine pure_ (i := 8) (N := some 3) (v := ?_) (a' := ?_) #[true, true, true, true, true, true, true, true, true] rfl rfl (any_of HT_.out (by kernel_rfl)) (fun _ _ _ h => h) (Or.inl ⟨by rfl, ?_⟩) ?_ ?_
   rotate_left
   ·intro w'
    go_simp
    with_reducible rfl
   rotate_left
   ·simp only [Act.put, lA_, lZ_, lS_, i64_w, i32_w]
    rfl
   refine done_ (done_of HT_.out (by kernel_rfl)) ?_
   try go_wp2
   go_meet
   case rel => exact ⟨_, (t687), H', ⟨by first | omega | exact Nat.le_refl _⟩, ⟨by (with_reducible repeat first | apply rA_ | apply rN_ | apply rD_); exact Kd.R_mono bg.out (fun _ hk => hk.1.1)⟩, ⟨by (with_reducible repeat (first | apply Kd.V_alloc | apply Kd.V_drewN | apply Kd.V_drew)); exact Kd.V_mono a8.out (fun _ hk => ⟨hk.1.1.1.1.1.1, ⟨hk.2, hk.1.1.1.1.1.2⟩⟩)⟩, ⟨by (with_reducible repeat first | apply bN_ | apply bD_ | apply bA_); exact a0.out⟩, ⟨by repeat (first | (with_reducible first | exact HB.out | apply lA1_ | apply lN_ | apply lD_ | refine lS1_ ?_ a4.out) | exact HB.out)⟩⟩
  ·replace c8 := Bool.eq_false_iff.mpr c8
   subst c8
   rw [if_neg (show ¬ (false = true) by decide)] at H
   have H' := Aside0.mk H
   clear H
   go_wp2
   go_meet
   case rel => exact ⟨_, (y674), H', ⟨by first | omega | exact Nat.le_refl _⟩, ⟨by (with_reducible repeat first | apply rA_ | apply rN_ | apply rD_); exact Kd.R_mono a9.out (fun _ hk => hk.1)⟩, ⟨by (with_reducible repeat (first | apply Kd.V_alloc | apply Kd.V_drewN | apply Kd.V_drew)); exact Kd.V_mono a8.out (fun _ hk => ⟨hk.1.1, ⟨hk.2, hk.1.2⟩⟩)⟩, ⟨by (with_reducible repeat first | apply bN_ | apply bD_ | apply bA_); exact a0.out⟩, ⟨by repeat (first | (with_reducible first | exact HB.out | apply lA1_ | apply lN_ | apply lD_ | refine lS1_ ?_ a4.out) | exact HB.out)⟩⟩
 case rest =>
  clear b0
  try clear p2
  try clear c4
  try clear c5
  try clear c6
  try clear c8
  try clear hcz7_0
  try clear hcz7_1
  try clear hcz7_2
  try clear hcz7_3
  try clear hcz7_4
  try clear hcz7_5
  try clear hcz7_6
  try clear hfz7_0
  try clear hfz7_1
  try clear hfz7_2
  try clear hfz7_3
  try clear hfz7_4
  try clear hfz7_5
  try clear hfz7_6
  obtain ⟨kq, x3_2, HA, HJ2, a3, a1, a0, HB⟩ := hcut
  cases kq with
  | zero => exact absurd HA.out (by simp [impl_build.j0])
  | succ kj2 =>
   have H := HA.out
   clear HA
   simp only [impl_build.j0] at H
   replace H := Option.bind_eq_some_iff.mp H
   obtain ⟨t690, b7, H⟩ := H
   try dsimp only at H
   have br := Aside0.mk b7
   clear b7
   obtain ⟨y693, hy693⟩ : ∃ y_ : List Int, y_ = (([69, 0] : List Int)) := ⟨_, rfl⟩
   replace H : ((impl_put.f kj2 a0_0 4).bind fun t699 => ((impl_put.f kj2 a0_1 4).bind fun t702 => ((slices_Concat_byte_byte.f (([y693, t690, (([0, 0, 64, 0, (a0_3) % 256, (a0_2) % 256, 0, 0] : List Int)), t699, t702] : List (List Int)))).bind fun t708 => ((impl_SumWords.f kj2 t708).bind fun ts_ => ((impl_put.f kj2 ts_ 2).bind fun tz_ => (if t708.length = 20 ∧ tz_.length = 2 then ((slices_Concat_byte_byte.f (([splice t708 10 tz_, x3_2, l0_6] : List (List Int)))).bind fun t714 => (some t714)) else (none))))))) = some r := by first | (rw [hy693]; with_reducible exact H) | (have H2_ := (Option.bind_some _ _).symm.trans H; rw [hy693]; with_reducible exact H2_) | (have H2_ := (Option.bind_some _ _).symm.trans H; with_reducible exact H2_) | with_reducible exact H | (rw [hy693]; exact H) | exact H
   have ax := Aside0.mk hy693
   clear hy693
   obtain ⟨y696, hy696⟩ : ∃ y_ : List Int, y_ = (([0, 0, 64, 0, (a0_3) % 256, (a0_2) % 256, 0, 0] : List Int)) := ⟨_, rfl⟩
   replace H : ((impl_put.f kj2 a0_0 4).bind fun t699 => ((impl_put.f kj2 a0_1 4).bind fun t702 => ((slices_Concat_byte_byte.f (([y693, t690, y696, t699, t702] : List (List Int)))).bind fun t708 => ((impl_SumWords.f kj2 t708).bind fun ts_ => ((impl_put.f kj2 ts_ 2).bind fun tz_ => (if t708.length = 20 ∧ tz_.length = 2 then ((slices_Concat_byte_byte.f (([splice t708 10 tz_, x3_2, l0_6] : List (List Int)))).bind fun t714 => (some t714)) else (none))))))) = some r := by first | (rw [hy696]; with_reducible exact H) | (have H2_ := (Option.bind_some _ _).symm.trans H; rw [hy696]; with_reducible exact H2_) | (have H2_ := (Option.bind_some _ _).symm.trans H; with_reducible exact H2_) | with_reducible exact H | (rw [hy696]; exact H) | exact H
   have ay := Aside0.mk hy696
   clear hy696
   replace H := Option.bind_eq_some_iff.mp H
   obtain ⟨t699, b8, H⟩ := H
   try dsimp only at H
   have bs := Aside0.mk b8
   clear b8
   replace H := Option.bind_eq_some_iff.mp H
   obtain ⟨t702, b9, H⟩ := H
   try dsimp only at H
   have bt := Aside0.mk b9
   clear b9
   obtain ⟨y705, hy705⟩ : ∃ y_ : List (List Int), y_ = (([y693, t690, y696, t699, t702] : List (List Int))) := ⟨_, rfl⟩
   replace H : ((slices_Concat_byte_byte.f y705).bind fun t708 => ((impl_SumWords.f kj2 t708).bind fun ts_ => ((impl_put.f kj2 ts_ 2).bind fun tz_ => (if t708.length = 20 ∧ tz_.length = 2 then ((slices_Concat_byte_byte.f (([splice t708 10 tz_, x3_2, l0_6] : List (List Int)))).bind fun t714 => (some t714)) else (none))))) = some r := by first | (rw [hy705]; with_reducible exact H) | (have H2_ := (Option.bind_some _ _).symm.trans H; rw [hy705]; with_reducible exact H2_) | (have H2_ := (Option.bind_some _ _).symm.trans H; with_reducible exact H2_) | with_reducible exact H | (rw [hy705]; exact H) | exact H
   have az := Aside0.mk hy705
   clear hy705
   replace H := Option.bind_eq_some_iff.mp H
   obtain ⟨t708, ba, H⟩ := H
   try dsimp only at H
   have bu := Aside0.mk ba
   clear ba
   replace H := Option.bind_eq_some_iff.mp H
   obtain ⟨ts_, AS0_, H⟩ := H
   try dsimp only at H
   have AS_ := Aside0.mk AS0_
   clear AS0_
   replace H := Option.bind_eq_some_iff.mp H
   obtain ⟨tz_, AZ0_, H⟩ := H
   try dsimp only at H
   have AZ_ := Aside0.mk AZ0_
   clear AZ0_
   by_cases cl_ : t708.length = 20 ∧ tz_.length = 2
   rotate_left
   ·rw [if_neg cl_] at H
    cases H
   rw [if_pos cl_] at H
   have CL_ := Aside0.mk cl_
   clear cl_
   obtain ⟨ty_, hty_⟩ : ∃ ty_, ty_ = splice t708 10 tz_ := ⟨_, rfl⟩
   rw [← hty_] at H
   have HTY_ := Aside0.mk hty_
   clear hty_
   obtain ⟨y711, hy711⟩ : ∃ y_ : List (List Int), y_ = (([ty_, x3_2, l0_6] : List (List Int))) := ⟨_, rfl⟩
   replace H : ((slices_Concat_byte_byte.f y711).bind fun t714 => (some t714)) = some r := by first | (rw [hy711]; with_reducible exact H) | (have H2_ := (Option.bind_some _ _).symm.trans H; rw [hy711]; with_reducible exact H2_) | (have H2_ := (Option.bind_some _ _).symm.trans H; with_reducible exact H2_) | with_reducible exact H | (rw [hy711]; exact H) | exact H
   have bh := Aside0.mk hy711
   clear hy711
   replace H := Option.bind_eq_some_iff.mp H
   obtain ⟨t714, bb, H⟩ := H
   try dsimp only at H
   have bv := Aside0.mk bb
   clear bb
   obtain rfl := Option.some.inj H
   obtain ⟨a6, a7, eo26⟩ := Kd.R_slice a3.out
   subst eo26
   obtain ⟨_, _, _, _, _, _, _, _, _, _, _, _, _, _⟩ := bc7 a0.out
   try go_wp2_with (first | ((with_reducible refine gate_callee (f := 50) rfl ?_); refine goesA_ (some 25) rfl rfl Try.func50 (by kernel_rfl) rfl #[.int .i64 (wrap64 ((wrap64 (20 + (x3_2.length : Int))) + (l0_6.length : Int))), .int .i64 2] rfl ?_; (with_reducible refine (impl_put.calls kj2 (wrap64 ((wrap64 (20 + (x3_2.length : Int))) + (l0_6.length : Int))) 2 t690 _ br.out).mono ?_); rintro e w28 ⟨v691, rfl, ho0, hb⟩; refine ⟨_, rfl, ?_⟩; have n0_ := Aside0.mk (Kd.R_elder' a3.out (Kd.R_base ho0) hb); have n1_ := Aside0.mk (Kd.V_elder' (by (with_reducible repeat (first | apply Kd.V_alloc | apply Kd.V_drewN | apply Kd.V_drew)); exact a1.out) (Kd.R_base ho0) hb); have n2_ := Aside0.mk (Kd.R_lower (Kd.R_new' (Kd.R_newM (M := fun k_ => (w.heap.size ≤ k_)) ho0 (below_size (by repeat (first | (with_reducible first | exact HB.out | refine lS1_ ?_ a4.out) | exact HB.out))) (fun k_ h_ => h_)) (Kd.R_lt a3.out)) (below_size (by repeat (first | (with_reducible first | exact HB.out | refine lS1_ ?_ a4.out) | exact HB.out)))); have n3_ := Aside0.mk (bB_ (g := a2) (o := .cells #[.int .i64 a0_0, .int .i64 a0_1, .int .i64 a0_2, .int .i64 a0_3, .int .i64 a0_4, .int .i64 a0_5, .slice A0_6 l0_6.length c0_6] 34 (0, 0)) a0.out hb); have n4_ := Aside0.mk (lP_ (by repeat (first | (with_reducible first | exact HB.out | refine lS1_ ?_ a4.out) | exact HB.out)) hb); clear a3 a1 a0 HB; have a3 := n0_; have a1 := n1_; have a5 := n2_; have a0 := n3_; have HB := n4_; clear n0_ n1_ n2_ n3_ n4_; (try clear hb); (try clear hb2); (try clear hk); (try clear hi); (try clear ho0)))
   have n0_ := Aside0.mk (rD_ a3.out)
   have n1_ := Aside0.mk (Kd.V_drew a1.out)
   have n2_ := Aside0.mk (rD_ a5.out)
   have n3_ := Aside0.mk (bD_ a0.out)
   have n4_ := Aside0.mk (lD_ HB.out)
   clear a3
   clear a1
   clear a5
   clear a0
   clear HB
   have a3 := n0_
   have a1 := n1_
   have a5 := n2_
   have a0 := n3_
   have HB := n4_
   clear n0_ n1_ n2_ n3_ n4_
   refine start_ (n := 18) (S := fun w' => True) (ds := []) #[false, false, false, false, false, false, false, false, false, false, false, false, false, false, false, false, false, false] (by kernel_rfl) rfl rfl trivial (fun hHeld => ?_); refine with_tabW impl_build.tab5 impl_build.bits5 (fun HT_ HW_ => ?_)
   generalize w28.drew = w29 at a3 a1 a5 a0 HB hHeld ⊢
   refine pure_ (i := 1) (N := some 27) (v := ?_) (a' := ?_) #[false, true, false, false, false, false, false, false, false, false, false, false, false, false, false, false, false, false] rfl rfl (any_of HT_.out (by kernel_rfl)) (fun _ _ _ h => h) (Or.inl ⟨by rfl, ?_⟩) ?_ ?_
   rotate_left
   ·intro w'
    go_simp
    with_reducible rfl
   rotate_left
   ·simp only [Act.put, lA_, lZ_, lS_, i64_w, i32_w]
    rfl
   refine pure_ (i := 2) (N := some 28) (v := ?_) (a' := ?_) #[false, true, true, false, false, false, false, false, false, false, false, false, false, false, false, false, false, false] rfl rfl (any_of HT_.out (by kernel_rfl)) (fun _ _ _ h => h) (Or.inl ⟨by rfl, ?_⟩) ?_ ?_
   rotate_left
   ·intro w'
    go_simp
    with_reducible rfl
   rotate_left
   ·simp only [Act.put, lA_, lZ_, lS_, i64_w, i32_w]
    rfl
   refine pure_ (i := 5) (N := some 31) (v := ?_) (a' := ?_) #[false, true, true, false, false, true, false, false, false, false, false, false, false, false, false, false, false, false] rfl rfl (any_of HT_.out (by kernel_rfl)) (fun _ _ _ h => h) (Or.inl ⟨by rfl, ?_⟩) ?_ ?_
   rotate_left
   ·intro w'
    go_simp
    with_reducible rfl
   rotate_left
   ·simp only [Act.put, lA_, lZ_, lS_, i64_w, i32_w]
    rfl
   refine pure_ (i := 9) (N := some 35) (v := ?_) (a' := ?_) #[false, true, true, false, false, true, false, false, false, true, false, false, false, false, false, false, false, false] rfl rfl (any_of HT_.out (by kernel_rfl)) (fun _ _ _ h => h) (Or.inl ⟨by rfl, ?_⟩) ?_ ?_
   rotate_left
   ·intro w'
    go_simp
    with_reducible rfl
   rotate_left
   ·simp only [Act.put, lA_, lZ_, lS_, i64_w, i32_w]
    rfl
   refine pure_ (i := 12) (N := some 38) (v := ?_) (a' := ?_) #[false, true, true, false, false, true, false, false, false, true, false, false, true, false, false, false, false, false] rfl rfl (any_of HT_.out (by kernel_rfl)) (fun _ _ _ h => h) (Or.inl ⟨by rfl, ?_⟩) ?_ ?_
   rotate_left
   ·intro w'
    go_simp
    with_reducible rfl
   rotate_left
   ·simp only [Act.put, lA_, lZ_, lS_, i64_w, i32_w]
    rfl
   refine inv_at [0, 3, 4, 6, 7, 8, 10, 11, 13, 14, 15, 16, 17] (fun a0_ b a w' => ∃ (v694 : Value) (v697 : Value) (v700 : Value) (v703 : Value) (v706 : Value) (v709 : Value) (m17_ : Value), a = putSel a0_ b [(0, 26, v694), (3, 29, .int .i64 a0_3), (4, 30, .int .u8 ((a0_3) % 256)), (6, 32, .int .i64 a0_2), (7, 33, .int .u8 ((a0_2) % 256)), (8, 34, v697), (10, 36, .int .i64 a0_0), (11, 37, v700), (13, 39, .int .i64 a0_1), (14, 40, v703), (15, 41, v706), (16, 42, v709), (17, 5, m17_)] ∧ (b 15 = false → Kd.R (Kd.int .u8) 5 w' w.heap.size (fun k_ => (w.heap.size ≤ k_) ∧ some k_ ≠ (.slice a6 x3_2.length a7 : Value).ownBlock) v691 t690) ∧ (b 15 = false → Kd.R (Kd.int .u8) 5 w' w.heap.size (fun k_ => (w.heap.size ≤ k_) ∧ some k_ ≠ (v691 : Value).ownBlock) (.slice a6 x3_2.length a7) x3_2) ∧ (b 15 = false → Kd.V (Kd.int .u8) 5 w' w.heap.size (fun k_ => (P0_6_ k_ ∨ w.heap.size ≤ k_) ∧ some k_ ≠ (v691 : Value).ownBlock ∧ some k_ ≠ (.slice a6 x3_2.length a7 : Value).ownBlock ∧ k_ ≠ a2) (.slice A0_6 l0_6.length c0_6) l0_6) ∧ (w'.heap[a2]? = some (.cells #[.int .i64 a0_0, .int .i64 a0_1, .int .i64 a0_2, .int .i64 a0_3, .int .i64 a0_4, .int .i64 a0_5, .slice A0_6 l0_6.length c0_6] 34 (0, 0))) ∧ (Below w.heap.size w w') ∧ (b 0 = true → b 15 = false → Kd.R (Kd.int .u8) 5 w' w.heap.size (fun k_ => (w.heap.size ≤ k_) ∧ some k_ ≠ (v691 : Value).ownBlock ∧ some k_ ≠ (.slice a6 x3_2.length a7 : Value).ownBlock) v694 y693) ∧ (b 8 = true → b 15 = false → Kd.R (Kd.int .u8) 5 w' w.heap.size (fun k_ => (w.heap.size ≤ k_) ∧ some k_ ≠ (v691 : Value).ownBlock ∧ some k_ ≠ (.slice a6 x3_2.length a7 : Value).ownBlock) v697 y696) ∧ (b 11 = true → b 15 = false → Kd.R (Kd.int .u8) 5 w' w.heap.size (fun k_ => (w.heap.size ≤ k_) ∧ some k_ ≠ (v691 : Value).ownBlock ∧ some k_ ≠ (.slice a6 x3_2.length a7 : Value).ownBlock) v700 t699) ∧ (b 14 = true → b 15 = false → Kd.R (Kd.int .u8) 5 w' w.heap.size (fun k_ => (w.heap.size ≤ k_) ∧ some k_ ≠ (v691 : Value).ownBlock ∧ some k_ ≠ (.slice a6 x3_2.length a7 : Value).ownBlock) v703 t702) ∧ (b 15 = true → Kd.N (Kd.slice 5 (Kd.int .u8)) 22 w' w.heap.size (fun k_ => (P0_6_ k_ ∨ w.heap.size ≤ k_) ∧ some k_ ≠ (.slice a6 x3_2.length a7 : Value).ownBlock ∧ k_ ≠ a2) v706 y705) ∧ (b 15 = true → Kd.R (Kd.int .u8) 5 w' w.heap.size (fun k_ => (w.heap.size ≤ k_)) (.slice a6 x3_2.length a7) x3_2) ∧ (b 15 = true → Kd.V (Kd.int .u8) 5 w' w.heap.size (fun k_ => (P0_6_ k_ ∨ w.heap.size ≤ k_) ∧ some k_ ≠ (.slice a6 x3_2.length a7 : Value).ownBlock ∧ k_ ≠ a2) (.slice A0_6 l0_6.length c0_6) l0_6) ∧ (b 16 = true → Kd.R (Kd.int .u8) 5 w' w.heap.size (fun k_ => (w.heap.size ≤ k_) ∧ some k_ ≠ (.slice a6 x3_2.length a7 : Value).ownBlock) v709 t708) ∧ (b 17 = true → (m17_ : Value) = v709)) HT_.out HW_.out (by kernel_rfl) (by kernel_rfl) ?_ ?_ ?_
   ·exact ⟨.bool false, .bool false, .bool false, .bool false, .bool false, .bool false, .bool false, by simp only [putSel, Bool.false_eq_true, if_false], fun _ => Kd.R_mono a5.out (fun _ hk => by simp_all), fun _ => Kd.R_mono a3.out (fun _ hk => by simp_all), fun _ => Kd.V_mono a1.out (fun _ hk => by simp_all), a0.out, HB.out, fun h_ => absurd h_ (by decide), fun h_ => absurd h_ (by decide), fun h_ => absurd h_ (by decide), fun h_ => absurd h_ (by decide), fun h_ => absurd h_ (by decide), fun h_ => absurd h_ (by decide), fun h_ => absurd h_ (by decide), fun h_ => absurd h_ (by decide), fun h_ => absurd h_ (by decide)⟩
   ·skip
    clear a0 HB a5 a3 a1
    refine steps_cons ?_ ?_
    ·rintro b a w' ⟨v694, v697, v700, v703, v706, v709, m17_, ha, Q_HO692, Q_HO_3, Q_HO_674006, Q_BK673, Q_HB, Q_HO695, Q_HO698, Q_HO701, Q_HO704, Q_HO707, Q_HO_3_e15, Q_HO_674006_e15, Q_HO710, Q_X17_⟩ hb_ hon hoff
     refine ⟨_, rfl, fun K hK => ?_⟩
     replace ha := Aside0.mk ha
     have a5 := Aside0.mk (Q_HO692 (hoff 15 (by kernel_rfl)))
     have a3 := Aside0.mk (Q_HO_3 (hoff 15 (by kernel_rfl)))
     have a1 := Aside0.mk (Q_HO_674006 (hoff 15 (by kernel_rfl)))
     have a0 := Aside0.mk Q_BK673
     have HB := Aside0.mk Q_HB
     refine Kd.R_lit_step (Kd.int .u8) _ 5 ?hg (N := 26) ?hd (xs := ([69, 0] : List Int)) (inner := [.int .u8 69, .int .u8 0]) (ok := fun _ => True) (okp := fun _ => True) ?hr ?hp (fun _ hk => hk) trivial (Below.refl _ _) (Nat.le_refl _) (by simp) ?_; (case hd => rfl); (case hg => rfl); (case hr => first | (go_simp; done) | (go_simp; rfl)); (case hp => exact (Reps.one (show Kd.M (Kd.int .u8) _ _ _ 69 [.int .u8 69] from rfl) (Reps.one (show Kd.M (Kd.int .u8) _ _ _ 0 [.int .u8 0] from rfl) (Reps.none _ _))))
     intro v694 w30 ho31 hb hg_ hnew_
     clear hg_ hnew_
     (first | rw [← ax.out] at ho31 | (simp only [Int.reduceToNat] at ho31; rw [← ax.out] at ho31))
     have n0_ := Aside0.mk (Kd.R_elder' (by (with_reducible repeat first | apply rA_ | apply rN_ | apply rD_); exact a3.out) (Kd.R_base ho31) hb)
     have n1_ := Aside0.mk (Kd.V_elder' (by (with_reducible repeat (first | apply Kd.V_alloc | apply Kd.V_drewN | apply Kd.V_drew)); exact a1.out) (Kd.R_base ho31) hb)
     have n2_ := Aside0.mk (Kd.R_elder' (by (with_reducible repeat first | apply rA_ | apply rN_ | apply rD_); exact a5.out) (Kd.R_base ho31) hb)
     have n3_ := Aside0.mk (Kd.R_lower (Kd.R_new' (Kd.R_new' (Kd.R_newM (M := fun k_ => (w.heap.size ≤ k_)) ho31 (below_size (by repeat (first | (with_reducible first | exact HB.out | apply lA1_ | apply lN_ | apply lD_ | refine lS1_ ?_ a4.out) | exact HB.out))) (fun k_ h_ => h_)) (Kd.R_lt (by (with_reducible repeat first | apply rA_ | apply rN_ | apply rD_); exact a3.out))) (Kd.R_lt (by (with_reducible repeat first | apply rA_ | apply rN_ | apply rD_); exact a5.out))) (below_size (by repeat (first | (with_reducible first | exact HB.out | apply lA1_ | apply lN_ | apply lD_ | refine lS1_ ?_ a4.out) | exact HB.out))))
     have n4_ := Aside0.mk (bB_ (g := a2) (o := .cells #[.int .i64 a0_0, .int .i64 a0_1, .int .i64 a0_2, .int .i64 a0_3, .int .i64 a0_4, .int .i64 a0_5, .slice A0_6 l0_6.length c0_6] 34 (0, 0)) (by (with_reducible repeat first | apply bN_ | apply bD_ | apply bA_); exact a0.out) hb)
     have n5_ := Aside0.mk (lP_ (by repeat (first | (with_reducible first | exact HB.out | apply lA1_ | apply lN_ | apply lD_ | refine lS1_ ?_ a4.out) | exact HB.out)) hb)
     have z_HO698 := fun (h0_ : b 8 = true) (h1_ : b 15 = false) => (show Kd.R (Kd.int .u8) 5 w30 w.heap.size (fun k_ => (w.heap.size ≤ k_) ∧ some k_ ≠ (v691 : Value).ownBlock ∧ some k_ ≠ (.slice a6 x3_2.length a7 : Value).ownBlock) v697 y696 from by first | exact (Kd.R_elder' (by (with_reducible repeat first | apply rA_ | apply rN_ | apply rD_); exact (Q_HO698 h0_ h1_)) (Kd.R_base ho31) hb) | exact Kd.R_mono (Kd.R_elder' (by (with_reducible repeat first | apply rA_ | apply rN_ | apply rD_); exact (Q_HO698 h0_ h1_)) (Kd.R_base ho31) hb) (fun _ h_ => by first | trivial | exact h_ | exact h_.1))
     have z_HO701 := fun (h0_ : b 11 = true) (h1_ : b 15 = false) => (show Kd.R (Kd.int .u8) 5 w30 w.heap.size (fun k_ => (w.heap.size ≤ k_) ∧ some k_ ≠ (v691 : Value).ownBlock ∧ some k_ ≠ (.slice a6 x3_2.length a7 : Value).ownBlock) v700 t699 from by first | exact (Kd.R_elder' (by (with_reducible repeat first | apply rA_ | apply rN_ | apply rD_); exact (Q_HO701 h0_ h1_)) (Kd.R_base ho31) hb) | exact Kd.R_mono (Kd.R_elder' (by (with_reducible repeat first | apply rA_ | apply rN_ | apply rD_); exact (Q_HO701 h0_ h1_)) (Kd.R_base ho31) hb) (fun _ h_ => by first | trivial | exact h_ | exact h_.1))
     have z_HO704 := fun (h0_ : b 14 = true) (h1_ : b 15 = false) => (show Kd.R (Kd.int .u8) 5 w30 w.heap.size (fun k_ => (w.heap.size ≤ k_) ∧ some k_ ≠ (v691 : Value).ownBlock ∧ some k_ ≠ (.slice a6 x3_2.length a7 : Value).ownBlock) v703 t702 from by first | exact (Kd.R_elder' (by (with_reducible repeat first | apply rA_ | apply rN_ | apply rD_); exact (Q_HO704 h0_ h1_)) (Kd.R_base ho31) hb) | exact Kd.R_mono (Kd.R_elder' (by (with_reducible repeat first | apply rA_ | apply rN_ | apply rD_); exact (Q_HO704 h0_ h1_)) (Kd.R_base ho31) hb) (fun _ h_ => by first | trivial | exact h_ | exact h_.1))
     clear a3
     clear a1
     clear a5
     clear a0
     clear HB
     have a3 := n0_
     have a1 := n1_
     have a5 := n2_
     have af := n3_
     have a0 := n4_
     have HB := n5_
     clear n0_ n1_ n2_ n3_ n4_ n5_
     clear hb ho31
     refine hK.out _ _ ⟨v694, v697, v700, v703, v706, v709, m17_, (by rw [ha.out]; exact putSel_upk 0 hb_ rfl rfl rfl), fun _ => (by (with_reducible repeat first | apply rA_ | apply rN_ | apply rD_); exact Kd.R_mono a5.out (fun _ hk => by simp_all)), fun _ => (by (with_reducible repeat first | apply rA_ | apply rN_ | apply rD_); exact Kd.R_mono a3.out (fun _ hk => by simp_all)), fun _ => (by (with_reducible repeat (first | apply Kd.V_alloc | apply Kd.V_drewN | apply Kd.V_drew)); exact Kd.V_mono a1.out (fun _ hk => by simp_all)), (by (with_reducible repeat first | apply bN_ | apply bD_ | apply bA_); exact a0.out), (by repeat (first | (with_reducible first | exact HB.out | apply lA1_ | apply lN_ | apply lD_ | refine lS1_ ?_ a4.out) | exact HB.out)), fun _ _ => (by (with_reducible repeat first | apply rA_ | apply rN_ | apply rD_); exact Kd.R_mono af.out (fun _ hk => by simp_all)), z_HO698, z_HO701, z_HO704, fun h0_ => absurd ((hoff 15 (by kernel_rfl)).symm.trans h0_) (by decide), fun h0_ => absurd ((hoff 15 (by kernel_rfl)).symm.trans h0_) (by decide), fun h0_ => absurd ((hoff 15 (by kernel_rfl)).symm.trans h0_) (by decide), fun h0_ => absurd ((hoff 16 (by kernel_rfl)).symm.trans h0_) (by decide), fun h0_ => absurd ((hoff 17 (by kernel_rfl)).symm.trans h0_) (by decide)⟩
    refine steps_cons ?_ ?_
    ·rintro b a w' ⟨v694, v697, v700, v703, v706, v709, m17_, ha, Q_HO692, Q_HO_3, Q_HO_674006, Q_BK673, Q_HB, Q_HO695, Q_HO698, Q_HO701, Q_HO704, Q_HO707, Q_HO_3_e15, Q_HO_674006_e15, Q_HO710, Q_X17_⟩ hb_ hon hoff
     refine ⟨_, rfl, fun K hK => ?_⟩
     have e28 : a.tmps[28]? = some (.pointer (some ⟨a2, 3, none⟩)) := by rw [ha]; exact (putSel_off rfl).trans rfl
     replace ha := Aside0.mk ha
     have a5 := Aside0.mk (Q_HO692 (hoff 15 (by kernel_rfl)))
     have a3 := Aside0.mk (Q_HO_3 (hoff 15 (by kernel_rfl)))
     have a1 := Aside0.mk (Q_HO_674006 (hoff 15 (by kernel_rfl)))
     have a0 := Aside0.mk Q_BK673
     have HB := Aside0.mk Q_HB
     have hc0_ : w'.cell? ⟨a2, 0, none⟩ = some (.int .i64 a0_0) := (blk_cell a0.out 0).trans rfl
     have hc1_ : w'.cell? ⟨a2, 1, none⟩ = some (.int .i64 a0_1) := (blk_cell a0.out 1).trans rfl
     have hc2_ : w'.cell? ⟨a2, 2, none⟩ = some (.int .i64 a0_2) := (blk_cell a0.out 2).trans rfl
     have hc3_ : w'.cell? ⟨a2, 3, none⟩ = some (.int .i64 a0_3) := (blk_cell a0.out 3).trans rfl
     have hc4_ : w'.cell? ⟨a2, 4, none⟩ = some (.int .i64 a0_4) := (blk_cell a0.out 4).trans rfl
     have hc5_ : w'.cell? ⟨a2, 5, none⟩ = some (.int .i64 a0_5) := (blk_cell a0.out 5).trans rfl
     have hc6_ : w'.cell? ⟨a2, 6, none⟩ = some (.slice A0_6 l0_6.length c0_6) := (blk_cell a0.out 6).trans rfl
     refine value_ (w1 := w') (v := .int .i64 a0_3) (by rfl) rfl ?_ ?_
     ·go_simp
      (try simp only [i64_w])
      try rfl
     refine hK.out _ _ ⟨v694, v697, v700, v703, v706, v709, m17_, (by rw [ha.out]; exact putSel_upk 1 hb_ rfl rfl rfl), Q_HO692, Q_HO_3, Q_HO_674006, Q_BK673, Q_HB, Q_HO695, fun h0_ _ => absurd ((hoff 8 (by kernel_rfl)).symm.trans h0_) (by decide), Q_HO701, Q_HO704, fun h0_ => absurd ((hoff 15 (by kernel_rfl)).symm.trans h0_) (by decide), fun h0_ => absurd ((hoff 15 (by kernel_rfl)).symm.trans h0_) (by decide), fun h0_ => absurd ((hoff 15 (by kernel_rfl)).symm.trans h0_) (by decide), fun h0_ => absurd ((hoff 16 (by kernel_rfl)).symm.trans h0_) (by decide), fun h0_ => absurd ((hoff 17 (by kernel_rfl)).symm.trans h0_) (by decide)⟩
    refine steps_cons ?_ ?_
    ·rintro b a w' ⟨v694, v697, v700, v703, v706, v709, m17_, ha, Q_HO692, Q_HO_3, Q_HO_674006, Q_BK673, Q_HB, Q_HO695, Q_HO698, Q_HO701, Q_HO704, Q_HO707, Q_HO_3_e15, Q_HO_674006_e15, Q_HO710, Q_X17_⟩ hb_ hon hoff
     refine ⟨_, rfl, fun K hK => ?_⟩
     have e29 : a.tmps[29]? = some (.int .i64 a0_3) := by rw [ha]; exact putSel_on (e := (3, 29, .int .i64 a0_3)) 1 rfl rfl (hon 3 (by kernel_rfl)) rfl
     replace ha := Aside0.mk ha
     have a5 := Aside0.mk (Q_HO692 (hoff 15 (by kernel_rfl)))
     have a3 := Aside0.mk (Q_HO_3 (hoff 15 (by kernel_rfl)))
     have a1 := Aside0.mk (Q_HO_674006 (hoff 15 (by kernel_rfl)))
     have a0 := Aside0.mk Q_BK673
     have HB := Aside0.mk Q_HB
     refine value_ (w1 := w') (v := .int .u8 ((a0_3) % 256)) (by rfl) rfl ?_ ?_
     ·go_simp
      (try simp only [i64_w])
      try rfl
     refine hK.out _ _ ⟨v694, v697, v700, v703, v706, v709, m17_, (by rw [ha.out]; exact putSel_upk 2 hb_ rfl rfl rfl), Q_HO692, Q_HO_3, Q_HO_674006, Q_BK673, Q_HB, Q_HO695, fun h0_ _ => absurd ((hoff 8 (by kernel_rfl)).symm.trans h0_) (by decide), Q_HO701, Q_HO704, fun h0_ => absurd ((hoff 15 (by kernel_rfl)).symm.trans h0_) (by decide), fun h0_ => absurd ((hoff 15 (by kernel_rfl)).symm.trans h0_) (by decide), fun h0_ => absurd ((hoff 15 (by kernel_rfl)).symm.trans h0_) (by decide), fun h0_ => absurd ((hoff 16 (by kernel_rfl)).symm.trans h0_) (by decide), fun h0_ => absurd ((hoff 17 (by kernel_rfl)).symm.trans h0_) (by decide)⟩
    refine steps_cons ?_ ?_
    ·rintro b a w' ⟨v694, v697, v700, v703, v706, v709, m17_, ha, Q_HO692, Q_HO_3, Q_HO_674006, Q_BK673, Q_HB, Q_HO695, Q_HO698, Q_HO701, Q_HO704, Q_HO707, Q_HO_3_e15, Q_HO_674006_e15, Q_HO710, Q_X17_⟩ hb_ hon hoff
     refine ⟨_, rfl, fun K hK => ?_⟩
     have e31 : a.tmps[31]? = some (.pointer (some ⟨a2, 2, none⟩)) := by rw [ha]; exact (putSel_off rfl).trans rfl
     replace ha := Aside0.mk ha
     have a5 := Aside0.mk (Q_HO692 (hoff 15 (by kernel_rfl)))
     have a3 := Aside0.mk (Q_HO_3 (hoff 15 (by kernel_rfl)))
     have a1 := Aside0.mk (Q_HO_674006 (hoff 15 (by kernel_rfl)))
     have a0 := Aside0.mk Q_BK673
     have HB := Aside0.mk Q_HB
     have hc0_ : w'.cell? ⟨a2, 0, none⟩ = some (.int .i64 a0_0) := (blk_cell a0.out 0).trans rfl
     have hc1_ : w'.cell? ⟨a2, 1, none⟩ = some (.int .i64 a0_1) := (blk_cell a0.out 1).trans rfl
     have hc2_ : w'.cell? ⟨a2, 2, none⟩ = some (.int .i64 a0_2) := (blk_cell a0.out 2).trans rfl
     have hc3_ : w'.cell? ⟨a2, 3, none⟩ = some (.int .i64 a0_3) := (blk_cell a0.out 3).trans rfl
     have hc4_ : w'.cell? ⟨a2, 4, none⟩ = some (.int .i64 a0_4) := (blk_cell a0.out 4).trans rfl
     have hc5_ : w'.cell? ⟨a2, 5, none⟩ = some (.int .i64 a0_5) := (blk_cell a0.out 5).trans rfl
     have hc6_ : w'.cell? ⟨a2, 6, none⟩ = some (.slice A0_6 l0_6.length c0_6) := (blk_cell a0.out 6).trans rfl
     refine value_ (w1 := w') (v := .int .i64 a0_2) (by rfl) rfl ?_ ?_
     ·go_simp
      (try simp only [i64_w])
      try rfl
     refine hK.out _ _ ⟨v694, v697, v700, v703, v706, v709, m17_, (by rw [ha.out]; exact putSel_upk 3 hb_ rfl rfl rfl), Q_HO692, Q_HO_3, Q_HO_674006, Q_BK673, Q_HB, Q_HO695, fun h0_ _ => absurd ((hoff 8 (by kernel_rfl)).symm.trans h0_) (by decide), Q_HO701, Q_HO704, fun h0_ => absurd ((hoff 15 (by kernel_rfl)).symm.trans h0_) (by decide), fun h0_ => absurd ((hoff 15 (by kernel_rfl)).symm.trans h0_) (by decide), fun h0_ => absurd ((hoff 15 (by kernel_rfl)).symm.trans h0_) (by decide), fun h0_ => absurd ((hoff 16 (by kernel_rfl)).symm.trans h0_) (by decide), fun h0_ => absurd ((hoff 17 (by kernel_rfl)).symm.trans h0_) (by decide)⟩
    refine steps_cons ?_ ?_
    ·rintro b a w' ⟨v694, v697, v700, v703, v706, v709, m17_, ha, Q_HO692, Q_HO_3, Q_HO_674006, Q_BK673, Q_HB, Q_HO695, Q_HO698, Q_HO701, Q_HO704, Q_HO707, Q_HO_3_e15, Q_HO_674006_e15, Q_HO710, Q_X17_⟩ hb_ hon hoff
     refine ⟨_, rfl, fun K hK => ?_⟩
     have e32 : a.tmps[32]? = some (.int .i64 a0_2) := by rw [ha]; exact putSel_on (e := (6, 32, .int .i64 a0_2)) 3 rfl rfl (hon 6 (by kernel_rfl)) rfl
     replace ha := Aside0.mk ha
     have a5 := Aside0.mk (Q_HO692 (hoff 15 (by kernel_rfl)))
     have a3 := Aside0.mk (Q_HO_3 (hoff 15 (by kernel_rfl)))
     have a1 := Aside0.mk (Q_HO_674006 (hoff 15 (by kernel_rfl)))
     have a0 := Aside0.mk Q_BK673
     have HB := Aside0.mk Q_HB
     refine value_ (w1 := w') (v := .int .u8 ((a0_2) % 256)) (by rfl) rfl ?_ ?_
     ·go_simp
      (try simp only [i64_w])
      try rfl
     refine hK.out _ _ ⟨v694, v697, v700, v703, v706, v709, m17_, (by rw [ha.out]; exact putSel_upk 4 hb_ rfl rfl rfl), Q_HO692, Q_HO_3, Q_HO_674006, Q_BK673, Q_HB, Q_HO695, fun h0_ _ => absurd ((hoff 8 (by kernel_rfl)).symm.trans h0_) (by decide), Q_HO701, Q_HO704, fun h0_ => absurd ((hoff 15 (by kernel_rfl)).symm.trans h0_) (by decide), fun h0_ => absurd ((hoff 15 (by kernel_rfl)).symm.trans h0_) (by decide), fun h0_ => absurd ((hoff 15 (by kernel_rfl)).symm.trans h0_) (by decide), fun h0_ => absurd ((hoff 16 (by kernel_rfl)).symm.trans h0_) (by decide), fun h0_ => absurd ((hoff 17 (by kernel_rfl)).symm.trans h0_) (by decide)⟩
    refine steps_cons ?_ ?_
    ·rintro b a w' ⟨v694, v697, v700, v703, v706, v709, m17_, ha, Q_HO692, Q_HO_3, Q_HO_674006, Q_BK673, Q_HB, Q_HO695, Q_HO698, Q_HO701, Q_HO704, Q_HO707, Q_HO_3_e15, Q_HO_674006_e15, Q_HO710, Q_X17_⟩ hb_ hon hoff
     refine ⟨_, rfl, fun K hK => ?_⟩
     have e30 : a.tmps[30]? = some (.int .u8 ((a0_3) % 256)) := by rw [ha]; exact putSel_on (e := (4, 30, .int .u8 ((a0_3) % 256))) 2 rfl rfl (hon 4 (by kernel_rfl)) rfl
     have e33 : a.tmps[33]? = some (.int .u8 ((a0_2) % 256)) := by rw [ha]; exact putSel_on (e := (7, 33, .int .u8 ((a0_2) % 256))) 4 rfl rfl (hon 7 (by kernel_rfl)) rfl
     replace ha := Aside0.mk ha
     have a5 := Aside0.mk (Q_HO692 (hoff 15 (by kernel_rfl)))
     have a3 := Aside0.mk (Q_HO_3 (hoff 15 (by kernel_rfl)))
     have a1 := Aside0.mk (Q_HO_674006 (hoff 15 (by kernel_rfl)))
     have a0 := Aside0.mk Q_BK673
     have HB := Aside0.mk Q_HB
     refine Kd.R_lit_step (Kd.int .u8) _ 5 ?hg (N := 34) ?hd (xs := ([0, 0, 64, 0, (a0_3) % 256, (a0_2) % 256, 0, 0] : List Int)) (inner := [.int .u8 0, .int .u8 0, .int .u8 64, .int .u8 0, .int .u8 ((a0_3) % 256), .int .u8 ((a0_2) % 256), .int .u8 0, .int .u8 0]) (ok := fun _ => True) (okp := fun _ => True) ?hr ?hp (fun _ hk => hk) trivial (Below.refl _ _) (Nat.le_refl _) (by simp) ?_; (case hd => rfl); (case hg => rfl); (case hr => first | (go_simp; done) | (go_simp; rfl)); (case hp => exact (Reps.one (show Kd.M (Kd.int .u8) _ _ _ 0 [.int .u8 0] from rfl) (Reps.one (show Kd.M (Kd.int .u8) _ _ _ 0 [.int .u8 0] from rfl) (Reps.one (show Kd.M (Kd.int .u8) _ _ _ 64 [.int .u8 64] from rfl) (Reps.one (show Kd.M (Kd.int .u8) _ _ _ 0 [.int .u8 0] from rfl) (Reps.one (show Kd.M (Kd.int .u8) _ _ _ ((a0_3) % 256) [.int .u8 ((a0_3) % 256)] from rfl) (Reps.one (show Kd.M (Kd.int .u8) _ _ _ ((a0_2) % 256) [.int .u8 ((a0_2) % 256)] from rfl) (Reps.one (show Kd.M (Kd.int .u8) _ _ _ 0 [.int .u8 0] from rfl) (Reps.one (show Kd.M (Kd.int .u8) _ _ _ 0 [.int .u8 0] from rfl) (Reps.none _ _))))))))))
     intro v697 w30 ho31 hb hg_ hnew_
     clear hg_ hnew_
     (first | rw [← ay.out] at ho31 | (simp only [Int.reduceToNat] at ho31; rw [← ay.out] at ho31))
     have n0_ := Aside0.mk (Kd.R_elder' (by (with_reducible repeat first | apply rA_ | apply rN_ | apply rD_); exact a3.out) (Kd.R_base ho31) hb)
     have n1_ := Aside0.mk (Kd.V_elder' (by (with_reducible repeat (first | apply Kd.V_alloc | apply Kd.V_drewN | apply Kd.V_drew)); exact a1.out) (Kd.R_base ho31) hb)
     have n2_ := Aside0.mk (Kd.R_elder' (by (with_reducible repeat first | apply rA_ | apply rN_ | apply rD_); exact a5.out) (Kd.R_base ho31) hb)
     have n3_ := Aside0.mk (Kd.R_lower (Kd.R_new' (Kd.R_new' (Kd.R_newM (M := fun k_ => (w.heap.size ≤ k_)) ho31 (below_size (by repeat (first | (with_reducible first | exact HB.out | apply lA1_ | apply lN_ | apply lD_ | refine lS1_ ?_ a4.out) | exact HB.out))) (fun k_ h_ => h_)) (Kd.R_lt (by (with_reducible repeat first | apply rA_ | apply rN_ | apply rD_); exact a3.out))) (Kd.R_lt (by (with_reducible repeat first | apply rA_ | apply rN_ | apply rD_); exact a5.out))) (below_size (by repeat (first | (with_reducible first | exact HB.out | apply lA1_ | apply lN_ | apply lD_ | refine lS1_ ?_ a4.out) | exact HB.out))))
     have n4_ := Aside0.mk (bB_ (g := a2) (o := .cells #[.int .i64 a0_0, .int .i64 a0_1, .int .i64 a0_2, .int .i64 a0_3, .int .i64 a0_4, .int .i64 a0_5, .slice A0_6 l0_6.length c0_6] 34 (0, 0)) (by (with_reducible repeat first | apply bN_ | apply bD_ | apply bA_); exact a0.out) hb)
     have n5_ := Aside0.mk (lP_ (by repeat (first | (with_reducible first | exact HB.out | apply lA1_ | apply lN_ | apply lD_ | refine lS1_ ?_ a4.out) | exact HB.out)) hb)
     have z_HO695 := fun (h0_ : b 0 = true) (h1_ : b 15 = false) => (show Kd.R (Kd.int .u8) 5 w30 w.heap.size (fun k_ => (w.heap.size ≤ k_) ∧ some k_ ≠ (v691 : Value).ownBlock ∧ some k_ ≠ (.slice a6 x3_2.length a7 : Value).ownBlock) v694 y693 from by first | exact (Kd.R_elder' (by (with_reducible repeat first | apply rA_ | apply rN_ | apply rD_); exact (Q_HO695 h0_ h1_)) (Kd.R_base ho31) hb) | exact Kd.R_mono (Kd.R_elder' (by (with_reducible repeat first | apply rA_ | apply rN_ | apply rD_); exact (Q_HO695 h0_ h1_)) (Kd.R_base ho31) hb) (fun _ h_ => by first | trivial | exact h_ | exact h_.1))
     have z_HO701 := fun (h0_ : b 11 = true) (h1_ : b 15 = false) => (show Kd.R (Kd.int .u8) 5 w30 w.heap.size (fun k_ => (w.heap.size ≤ k_) ∧ some k_ ≠ (v691 : Value).ownBlock ∧ some k_ ≠ (.slice a6 x3_2.length a7 : Value).ownBlock) v700 t699 from by first | exact (Kd.R_elder' (by (with_reducible repeat first | apply rA_ | apply rN_ | apply rD_); exact (Q_HO701 h0_ h1_)) (Kd.R_base ho31) hb) | exact Kd.R_mono (Kd.R_elder' (by (with_reducible repeat first | apply rA_ | apply rN_ | apply rD_); exact (Q_HO701 h0_ h1_)) (Kd.R_base ho31) hb) (fun _ h_ => by first | trivial | exact h_ | exact h_.1))
     have z_HO704 := fun (h0_ : b 14 = true) (h1_ : b 15 = false) => (show Kd.R (Kd.int .u8) 5 w30 w.heap.size (fun k_ => (w.heap.size ≤ k_) ∧ some k_ ≠ (v691 : Value).ownBlock ∧ some k_ ≠ (.slice a6 x3_2.length a7 : Value).ownBlock) v703 t702 from by first | exact (Kd.R_elder' (by (with_reducible repeat first | apply rA_ | apply rN_ | apply rD_); exact (Q_HO704 h0_ h1_)) (Kd.R_base ho31) hb) | exact Kd.R_mono (Kd.R_elder' (by (with_reducible repeat first | apply rA_ | apply rN_ | apply rD_); exact (Q_HO704 h0_ h1_)) (Kd.R_base ho31) hb) (fun _ h_ => by first | trivial | exact h_ | exact h_.1))
     clear a3
     clear a1
     clear a5
     clear a0
     clear HB
     have a3 := n0_
     have a1 := n1_
     have a5 := n2_
     have ag := n3_
     have a0 := n4_
     have HB := n5_
     clear n0_ n1_ n2_ n3_ n4_ n5_
     clear hb ho31
     refine hK.out _ _ ⟨v694, v697, v700, v703, v706, v709, m17_, (by rw [ha.out]; exact putSel_upk 5 hb_ rfl rfl rfl), fun _ => (by (with_reducible repeat first | apply rA_ | apply rN_ | apply rD_); exact Kd.R_mono a5.out (fun _ hk => by simp_all)), fun _ => (by (with_reducible repeat first | apply rA_ | apply rN_ | apply rD_); exact Kd.R_mono a3.out (fun _ hk => by simp_all)), fun _ => (by (with_reducible repeat (first | apply Kd.V_alloc | apply Kd.V_drewN | apply Kd.V_drew)); exact Kd.V_mono a1.out (fun _ hk => by simp_all)), (by (with_reducible repeat first | apply bN_ | apply bD_ | apply bA_); exact a0.out), (by repeat (first | (with_reducible first | exact HB.out | apply lA1_ | apply lN_ | apply lD_ | refine lS1_ ?_ a4.out) | exact HB.out)), z_HO695, fun _ _ => (by (with_reducible repeat first | apply rA_ | apply rN_ | apply rD_); exact Kd.R_mono ag.out (fun _ hk => by simp_all)), z_HO701, z_HO704, fun h0_ => absurd ((hoff 15 (by kernel_rfl)).symm.trans h0_) (by decide), fun h0_ => absurd ((hoff 15 (by kernel_rfl)).symm.trans h0_) (by decide), fun h0_ => absurd ((hoff 15 (by kernel_rfl)).symm.trans h0_) (by decide), fun h0_ => absurd ((hoff 16 (by kernel_rfl)).symm.trans h0_) (by decide), fun h0_ => absurd ((hoff 17 (by kernel_rfl)).symm.trans h0_) (by decide)⟩
    refine steps_cons ?_ ?_
    ·rintro b a w' ⟨v694, v697, v700, v703, v706, v709, m17_, ha, Q_HO692, Q_HO_3, Q_HO_674006, Q_BK673, Q_HB, Q_HO695, Q_HO698, Q_HO701, Q_HO704, Q_HO707, Q_HO_3_e15, Q_HO_674006_e15, Q_HO710, Q_X17_⟩ hb_ hon hoff
     refine ⟨_, rfl, fun K hK => ?_⟩
     have e35 : a.tmps[35]? = some (.pointer (some ⟨a2, 0, none⟩)) := by rw [ha]; exact (putSel_off rfl).trans rfl
     replace ha := Aside0.mk ha
     have a5 := Aside0.mk (Q_HO692 (hoff 15 (by kernel_rfl)))
     have a3 := Aside0.mk (Q_HO_3 (hoff 15 (by kernel_rfl)))
     have a1 := Aside0.mk (Q_HO_674006 (hoff 15 (by kernel_rfl)))
     have a0 := Aside0.mk Q_BK673
     have HB := Aside0.mk Q_HB
     have hc0_ : w'.cell? ⟨a2, 0, none⟩ = some (.int .i64 a0_0) := (blk_cell a0.out 0).trans rfl
     have hc1_ : w'.cell? ⟨a2, 1, none⟩ = some (.int .i64 a0_1) := (blk_cell a0.out 1).trans rfl
     have hc2_ : w'.cell? ⟨a2, 2, none⟩ = some (.int .i64 a0_2) := (blk_cell a0.out 2).trans rfl
     have hc3_ : w'.cell? ⟨a2, 3, none⟩ = some (.int .i64 a0_3) := (blk_cell a0.out 3).trans rfl
     have hc4_ : w'.cell? ⟨a2, 4, none⟩ = some (.int .i64 a0_4) := (blk_cell a0.out 4).trans rfl
     have hc5_ : w'.cell? ⟨a2, 5, none⟩ = some (.int .i64 a0_5) := (blk_cell a0.out 5).trans rfl
     have hc6_ : w'.cell? ⟨a2, 6, none⟩ = some (.slice A0_6 l0_6.length c0_6) := (blk_cell a0.out 6).trans rfl
     refine value_ (w1 := w') (v := .int .i64 a0_0) (by rfl) rfl ?_ ?_
     ·go_simp
      (try simp only [i64_w])
      try rfl
     refine hK.out _ _ ⟨v694, v697, v700, v703, v706, v709, m17_, (by rw [ha.out]; exact putSel_upk 6 hb_ rfl rfl rfl), Q_HO692, Q_HO_3, Q_HO_674006, Q_BK673, Q_HB, Q_HO695, Q_HO698, fun h0_ _ => absurd ((hoff 11 (by kernel_rfl)).symm.trans h0_) (by decide), fun h0_ _ => absurd ((hoff 14 (by kernel_rfl)).symm.trans h0_) (by decide), fun h0_ => absurd ((hoff 15 (by kernel_rfl)).symm.trans h0_) (by decide), fun h0_ => absurd ((hoff 15 (by kernel_rfl)).symm.trans h0_) (by decide), fun h0_ => absurd ((hoff 15 (by kernel_rfl)).symm.trans h0_) (by decide), fun h0_ => absurd ((hoff 16 (by kernel_rfl)).symm.trans h0_) (by decide), fun h0_ => absurd ((hoff 17 (by kernel_rfl)).symm.trans h0_) (by decide)⟩
    refine steps_cons ?_ ?_
    ·rintro b a w' ⟨v694, v697, v700, v703, v706, v709, m17_, ha, Q_HO692, Q_HO_3, Q_HO_674006, Q_BK673, Q_HB, Q_HO695, Q_HO698, Q_HO701, Q_HO704, Q_HO707, Q_HO_3_e15, Q_HO_674006_e15, Q_HO710, Q_X17_⟩ hb_ hon hoff
     refine ⟨_, rfl, fun K hK => ?_⟩
     have e36 : a.tmps[36]? = some (.int .i64 a0_0) := by rw [ha]; exact putSel_on (e := (10, 36, .int .i64 a0_0)) 6 rfl rfl (hon 10 (by kernel_rfl)) rfl
     replace ha := Aside0.mk ha
     have a5 := Aside0.mk (Q_HO692 (hoff 15 (by kernel_rfl)))
     have a3 := Aside0.mk (Q_HO_3 (hoff 15 (by kernel_rfl)))
     have a1 := Aside0.mk (Q_HO_674006 (hoff 15 (by kernel_rfl)))
     have a0 := Aside0.mk Q_BK673
     have HB := Aside0.mk Q_HB
     refine goes_ Try.func50 (by kernel_rfl) rfl #[.int .i64 a0_0, .int .i64 4] (by rfl) rfl rfl (by first | (simp only [List.map_toArray, List.map_cons, List.map_nil, Act.eval, Array.getD_eq_getD_getElem?, Option.getD_some, e36]; done) | (simp only [List.map_toArray, List.map_cons, List.map_nil, Act.eval, Array.getD_eq_getD_getElem?, Option.getD_some, e36]; rfl)) ?_
     with_reducible refine (impl_put.calls kj2 a0_0 4 t699 _ bs.out).mono ?_
     rintro e w30 ⟨v700, rfl, ho0, hb⟩
     refine ⟨_, rfl, ?_⟩
     have n0_ := Aside0.mk (Kd.R_elder' (by (with_reducible repeat first | apply rA_ | apply rN_ | apply rD_); exact a3.out) (Kd.R_base ho0) hb)
     have n1_ := Aside0.mk (Kd.V_elder' (by (with_reducible repeat (first | apply Kd.V_alloc | apply Kd.V_drewN | apply Kd.V_drew)); exact a1.out) (Kd.R_base ho0) hb)
     have n2_ := Aside0.mk (Kd.R_elder' (by (with_reducible repeat first | apply rA_ | apply rN_ | apply rD_); exact a5.out) (Kd.R_base ho0) hb)
     have n3_ := Aside0.mk (Kd.R_lower (Kd.R_new' (Kd.R_new' (Kd.R_newM (M := fun k_ => (w.heap.size ≤ k_)) ho0 (below_size (by repeat (first | (with_reducible first | exact HB.out | apply lA1_ | apply lN_ | apply lD_ | refine lS1_ ?_ a4.out) | exact HB.out))) (fun k_ h_ => h_)) (Kd.R_lt (by (with_reducible repeat first | apply rA_ | apply rN_ | apply rD_); exact a3.out))) (Kd.R_lt (by (with_reducible repeat first | apply rA_ | apply rN_ | apply rD_); exact a5.out))) (below_size (by repeat (first | (with_reducible first | exact HB.out | apply lA1_ | apply lN_ | apply lD_ | refine lS1_ ?_ a4.out) | exact HB.out))))
     have n4_ := Aside0.mk (bB_ (g := a2) (o := .cells #[.int .i64 a0_0, .int .i64 a0_1, .int .i64 a0_2, .int .i64 a0_3, .int .i64 a0_4, .int .i64 a0_5, .slice A0_6 l0_6.length c0_6] 34 (0, 0)) (by (with_reducible repeat first | apply bN_ | apply bD_ | apply bA_); exact a0.out) hb)
     have n5_ := Aside0.mk (lP_ (by repeat (first | (with_reducible first | exact HB.out | apply lA1_ | apply lN_ | apply lD_ | refine lS1_ ?_ a4.out) | exact HB.out)) hb)
     have z_HO695 := fun (h0_ : b 0 = true) (h1_ : b 15 = false) => (show Kd.R (Kd.int .u8) 5 w30 w.heap.size (fun k_ => (w.heap.size ≤ k_) ∧ some k_ ≠ (v691 : Value).ownBlock ∧ some k_ ≠ (.slice a6 x3_2.length a7 : Value).ownBlock) v694 y693 from by first | exact (Kd.R_elder' (by (with_reducible repeat first | apply rA_ | apply rN_ | apply rD_); exact (Q_HO695 h0_ h1_)) (Kd.R_base ho0) hb) | exact Kd.R_mono (Kd.R_elder' (by (with_reducible repeat first | apply rA_ | apply rN_ | apply rD_); exact (Q_HO695 h0_ h1_)) (Kd.R_base ho0) hb) (fun _ h_ => by first | trivial | exact h_ | exact h_.1))
     have z_HO698 := fun (h0_ : b 8 = true) (h1_ : b 15 = false) => (show Kd.R (Kd.int .u8) 5 w30 w.heap.size (fun k_ => (w.heap.size ≤ k_) ∧ some k_ ≠ (v691 : Value).ownBlock ∧ some k_ ≠ (.slice a6 x3_2.length a7 : Value).ownBlock) v697 y696 from by first | exact (Kd.R_elder' (by (with_reducible repeat first | apply rA_ | apply rN_ | apply rD_); exact (Q_HO698 h0_ h1_)) (Kd.R_base ho0) hb) | exact Kd.R_mono (Kd.R_elder' (by (with_reducible repeat first | apply rA_ | apply rN_ | apply rD_); exact (Q_HO698 h0_ h1_)) (Kd.R_base ho0) hb) (fun _ h_ => by first | trivial | exact h_ | exact h_.1))
     clear a3
     clear a1
     clear a5
     clear a0
     clear HB
     have a3 := n0_
     have a1 := n1_
     have a5 := n2_
     have ab := n3_
     have a0 := n4_
     have HB := n5_
     clear n0_ n1_ n2_ n3_ n4_ n5_
     (try clear hb)
     (try clear hb2)
     (try clear hk)
     (try clear hi)
     (try clear ho0)
     refine hK.out _ _ ⟨v694, v697, v700, v703, v706, v709, m17_, (by rw [ha.out]; exact putSel_upk 7 hb_ rfl rfl rfl), fun _ => (by (with_reducible repeat first | apply rA_ | apply rN_ | apply rD_); exact Kd.R_mono a5.out (fun _ hk => by simp_all)), fun _ => (by (with_reducible repeat first | apply rA_ | apply rN_ | apply rD_); exact Kd.R_mono a3.out (fun _ hk => by simp_all)), fun _ => (by (with_reducible repeat (first | apply Kd.V_alloc | apply Kd.V_drewN | apply Kd.V_drew)); exact Kd.V_mono a1.out (fun _ hk => by simp_all)), (by (with_reducible repeat first | apply bN_ | apply bD_ | apply bA_); exact a0.out), (by repeat (first | (with_reducible first | exact HB.out | apply lA1_ | apply lN_ | apply lD_ | refine lS1_ ?_ a4.out) | exact HB.out)), z_HO695, z_HO698, fun _ _ => (by (with_reducible repeat first | apply rA_ | apply rN_ | apply rD_); exact Kd.R_mono ab.out (fun _ hk => by simp_all)), fun h0_ _ => absurd ((hoff 14 (by kernel_rfl)).symm.trans h0_) (by decide), fun h0_ => absurd ((hoff 15 (by kernel_rfl)).symm.trans h0_) (by decide), fun h0_ => absurd ((hoff 15 (by kernel_rfl)).symm.trans h0_) (by decide), fun h0_ => absurd ((hoff 15 (by kernel_rfl)).symm.trans h0_) (by decide), fun h0_ => absurd ((hoff 16 (by kernel_rfl)).symm.trans h0_) (by decide), fun h0_ => absurd ((hoff 17 (by kernel_rfl)).symm.trans h0_) (by decide)⟩
    refine steps_cons ?_ ?_
    ·rintro b a w' ⟨v694, v697, v700, v703, v706, v709, m17_, ha, Q_HO692, Q_HO_3, Q_HO_674006, Q_BK673, Q_HB, Q_HO695, Q_HO698, Q_HO701, Q_HO704, Q_HO707, Q_HO_3_e15, Q_HO_674006_e15, Q_HO710, Q_X17_⟩ hb_ hon hoff
     refine ⟨_, rfl, fun K hK => ?_⟩
     have e38 : a.tmps[38]? = some (.pointer (some ⟨a2, 1, none⟩)) := by rw [ha]; exact (putSel_off rfl).trans rfl
     replace ha := Aside0.mk ha
     have a5 := Aside0.mk (Q_HO692 (hoff 15 (by kernel_rfl)))
     have a3 := Aside0.mk (Q_HO_3 (hoff 15 (by kernel_rfl)))
     have a1 := Aside0.mk (Q_HO_674006 (hoff 15 (by kernel_rfl)))
     have a0 := Aside0.mk Q_BK673
     have HB := Aside0.mk Q_HB
     have hc0_ : w'.cell? ⟨a2, 0, none⟩ = some (.int .i64 a0_0) := (blk_cell a0.out 0).trans rfl
     have hc1_ : w'.cell? ⟨a2, 1, none⟩ = some (.int .i64 a0_1) := (blk_cell a0.out 1).trans rfl
     have hc2_ : w'.cell? ⟨a2, 2, none⟩ = some (.int .i64 a0_2) := (blk_cell a0.out 2).trans rfl
     have hc3_ : w'.cell? ⟨a2, 3, none⟩ = some (.int .i64 a0_3) := (blk_cell a0.out 3).trans rfl
     have hc4_ : w'.cell? ⟨a2, 4, none⟩ = some (.int .i64 a0_4) := (blk_cell a0.out 4).trans rfl
     have hc5_ : w'.cell? ⟨a2, 5, none⟩ = some (.int .i64 a0_5) := (blk_cell a0.out 5).trans rfl
     have hc6_ : w'.cell? ⟨a2, 6, none⟩ = some (.slice A0_6 l0_6.length c0_6) := (blk_cell a0.out 6).trans rfl
     refine value_ (w1 := w') (v := .int .i64 a0_1) (by rfl) rfl ?_ ?_
     ·go_simp
      (try simp only [i64_w])
      try rfl
     refine hK.out _ _ ⟨v694, v697, v700, v703, v706, v709, m17_, (by rw [ha.out]; exact putSel_upk 8 hb_ rfl rfl rfl), Q_HO692, Q_HO_3, Q_HO_674006, Q_BK673, Q_HB, Q_HO695, Q_HO698, Q_HO701, fun h0_ _ => absurd ((hoff 14 (by kernel_rfl)).symm.trans h0_) (by decide), fun h0_ => absurd ((hoff 15 (by kernel_rfl)).symm.trans h0_) (by decide), fun h0_ => absurd ((hoff 15 (by kernel_rfl)).symm.trans h0_) (by decide), fun h0_ => absurd ((hoff 15 (by kernel_rfl)).symm.trans h0_) (by decide), fun h0_ => absurd ((hoff 16 (by kernel_rfl)).symm.trans h0_) (by decide), fun h0_ => absurd ((hoff 17 (by kernel_rfl)).symm.trans h0_) (by decide)⟩
    refine steps_cons ?_ ?_
    ·rintro b a w' ⟨v694, v697, v700, v703, v706, v709, m17_, ha, Q_HO692, Q_HO_3, Q_HO_674006, Q_BK673, Q_HB, Q_HO695, Q_HO698, Q_HO701, Q_HO704, Q_HO707, Q_HO_3_e15, Q_HO_674006_e15, Q_HO710, Q_X17_⟩ hb_ hon hoff
     refine ⟨_, rfl, fun K hK => ?_⟩
     have e39 : a.tmps[39]? = some (.int .i64 a0_1) := by rw [ha]; exact putSel_on (e := (13, 39, .int .i64 a0_1)) 8 rfl rfl (hon 13 (by kernel_rfl)) rfl
     replace ha := Aside0.mk ha
     have a5 := Aside0.mk (Q_HO692 (hoff 15 (by kernel_rfl)))
     have a3 := Aside0.mk (Q_HO_3 (hoff 15 (by kernel_rfl)))
     have a1 := Aside0.mk (Q_HO_674006 (hoff 15 (by kernel_rfl)))
     have a0 := Aside0.mk Q_BK673
     have HB := Aside0.mk Q_HB
     have ab := Aside0.mk (Q_HO701 (hon 11 (by kernel_rfl)) (hoff 15 (by kernel_rfl)))
     refine goes_ Try.func50 (by kernel_rfl) rfl #[.int .i64 a0_1, .int .i64 4] (by rfl) rfl rfl (by first | (simp only [List.map_toArray, List.map_cons, List.map_nil, Act.eval, Array.getD_eq_getD_getElem?, Option.getD_some, e39]; done) | (simp only [List.map_toArray, List.map_cons, List.map_nil, Act.eval, Array.getD_eq_getD_getElem?, Option.getD_some, e39]; rfl)) ?_
     with_reducible refine (impl_put.calls kj2 a0_1 4 t702 _ bt.out).mono ?_
     rintro e w32 ⟨v703, rfl, ho0, hb⟩
     refine ⟨_, rfl, ?_⟩
     have n0_ := Aside0.mk (Kd.R_elder' (by (with_reducible repeat first | apply rA_ | apply rN_ | apply rD_); exact a3.out) (Kd.R_base ho0) hb)
     have n1_ := Aside0.mk (Kd.V_elder' (by (with_reducible repeat (first | apply Kd.V_alloc | apply Kd.V_drewN | apply Kd.V_drew)); exact a1.out) (Kd.R_base ho0) hb)
     have n2_ := Aside0.mk (Kd.R_elder' (by (with_reducible repeat first | apply rA_ | apply rN_ | apply rD_); exact a5.out) (Kd.R_base ho0) hb)
     have n3_ := Aside0.mk (Kd.R_elder' (by (with_reducible repeat first | apply rA_ | apply rN_ | apply rD_); exact ab.out) (Kd.R_base ho0) hb)
     have n4_ := Aside0.mk (Kd.R_lower (Kd.R_new' (Kd.R_new' (Kd.R_new' (Kd.R_newM (M := fun k_ => (w.heap.size ≤ k_)) ho0 (below_size (by repeat (first | (with_reducible first | exact HB.out | apply lA1_ | apply lN_ | apply lD_ | refine lS1_ ?_ a4.out) | exact HB.out))) (fun k_ h_ => h_)) (Kd.R_lt (by (with_reducible repeat first | apply rA_ | apply rN_ | apply rD_); exact a3.out))) (Kd.R_lt (by (with_reducible repeat first | apply rA_ | apply rN_ | apply rD_); exact a5.out))) (Kd.R_lt (by (with_reducible repeat first | apply rA_ | apply rN_ | apply rD_); exact ab.out))) (below_size (by repeat (first | (with_reducible first | exact HB.out | apply lA1_ | apply lN_ | apply lD_ | refine lS1_ ?_ a4.out) | exact HB.out))))
     have n5_ := Aside0.mk (bB_ (g := a2) (o := .cells #[.int .i64 a0_0, .int .i64 a0_1, .int .i64 a0_2, .int .i64 a0_3, .int .i64 a0_4, .int .i64 a0_5, .slice A0_6 l0_6.length c0_6] 34 (0, 0)) (by (with_reducible repeat first | apply bN_ | apply bD_ | apply bA_); exact a0.out) hb)
     have n6_ := Aside0.mk (lP_ (by repeat (first | (with_reducible first | exact HB.out | apply lA1_ | apply lN_ | apply lD_ | refine lS1_ ?_ a4.out) | exact HB.out)) hb)
     have z_HO695 := fun (h0_ : b 0 = true) (h1_ : b 15 = false) => (show Kd.R (Kd.int .u8) 5 w32 w.heap.size (fun k_ => (w.heap.size ≤ k_) ∧ some k_ ≠ (v691 : Value).ownBlock ∧ some k_ ≠ (.slice a6 x3_2.length a7 : Value).ownBlock) v694 y693 from by first | exact (Kd.R_elder' (by (with_reducible repeat first | apply rA_ | apply rN_ | apply rD_); exact (Q_HO695 h0_ h1_)) (Kd.R_base ho0) hb) | exact Kd.R_mono (Kd.R_elder' (by (with_reducible repeat first | apply rA_ | apply rN_ | apply rD_); exact (Q_HO695 h0_ h1_)) (Kd.R_base ho0) hb) (fun _ h_ => by first | trivial | exact h_ | exact h_.1))
     have z_HO698 := fun (h0_ : b 8 = true) (h1_ : b 15 = false) => (show Kd.R (Kd.int .u8) 5 w32 w.heap.size (fun k_ => (w.heap.size ≤ k_) ∧ some k_ ≠ (v691 : Value).ownBlock ∧ some k_ ≠ (.slice a6 x3_2.length a7 : Value).ownBlock) v697 y696 from by first | exact (Kd.R_elder' (by (with_reducible repeat first | apply rA_ | apply rN_ | apply rD_); exact (Q_HO698 h0_ h1_)) (Kd.R_base ho0) hb) | exact Kd.R_mono (Kd.R_elder' (by (with_reducible repeat first | apply rA_ | apply rN_ | apply rD_); exact (Q_HO698 h0_ h1_)) (Kd.R_base ho0) hb) (fun _ h_ => by first | trivial | exact h_ | exact h_.1))
     clear a3
     clear a1
     clear a5
     clear ab
     clear a0
     clear HB
     have a3 := n0_
     have a1 := n1_
     have a5 := n2_
     have ab := n3_
     have ah := n4_
     have a0 := n5_
     have HB := n6_
     clear n0_ n1_ n2_ n3_ n4_ n5_ n6_
     (try clear hb)
     (try clear hb2)
     (try clear hk)
     (try clear hi)
     (try clear ho0)
     refine hK.out _ _ ⟨v694, v697, v700, v703, v706, v709, m17_, (by rw [ha.out]; exact putSel_upk 9 hb_ rfl rfl rfl), fun _ => (by (with_reducible repeat first | apply rA_ | apply rN_ | apply rD_); exact Kd.R_mono a5.out (fun _ hk => by simp_all)), fun _ => (by (with_reducible repeat first | apply rA_ | apply rN_ | apply rD_); exact Kd.R_mono a3.out (fun _ hk => by simp_all)), fun _ => (by (with_reducible repeat (first | apply Kd.V_alloc | apply Kd.V_drewN | apply Kd.V_drew)); exact Kd.V_mono a1.out (fun _ hk => by simp_all)), (by (with_reducible repeat first | apply bN_ | apply bD_ | apply bA_); exact a0.out), (by repeat (first | (with_reducible first | exact HB.out | apply lA1_ | apply lN_ | apply lD_ | refine lS1_ ?_ a4.out) | exact HB.out)), z_HO695, z_HO698, fun _ _ => (by (with_reducible repeat first | apply rA_ | apply rN_ | apply rD_); exact Kd.R_mono ab.out (fun _ hk => by simp_all)), fun _ _ => (by (with_reducible repeat first | apply rA_ | apply rN_ | apply rD_); exact Kd.R_mono ah.out (fun _ hk => by simp_all)), fun h0_ => absurd ((hoff 15 (by kernel_rfl)).symm.trans h0_) (by decide), fun h0_ => absurd ((hoff 15 (by kernel_rfl)).symm.trans h0_) (by decide), fun h0_ => absurd ((hoff 15 (by kernel_rfl)).symm.trans h0_) (by decide), fun h0_ => absurd ((hoff 16 (by kernel_rfl)).symm.trans h0_) (by decide), fun h0_ => absurd ((hoff 17 (by kernel_rfl)).symm.trans h0_) (by decide)⟩
    refine steps_cons ?_ ?_
    ·rintro b a w' ⟨v694, v697, v700, v703, v706, v709, m17_, ha, Q_HO692, Q_HO_3, Q_HO_674006, Q_BK673, Q_HB, Q_HO695, Q_HO698, Q_HO701, Q_HO704, Q_HO707, Q_HO_3_e15, Q_HO_674006_e15, Q_HO710, Q_X17_⟩ hb_ hon hoff
     refine ⟨_, rfl, fun K hK => ?_⟩
     have e26 : a.tmps[26]? = some (v694) := by rw [ha]; exact putSel_on (e := (0, 26, v694)) 0 rfl rfl (hon 0 (by kernel_rfl)) rfl
     have e27 : a.tmps[27]? = some (v691) := by rw [ha]; exact (putSel_off rfl).trans rfl
     have e34 : a.tmps[34]? = some (v697) := by rw [ha]; exact putSel_on (e := (8, 34, v697)) 5 rfl rfl (hon 8 (by kernel_rfl)) rfl
     have e37 : a.tmps[37]? = some (v700) := by rw [ha]; exact putSel_on (e := (11, 37, v700)) 7 rfl rfl (hon 11 (by kernel_rfl)) rfl
     have e40 : a.tmps[40]? = some (v703) := by rw [ha]; exact putSel_on (e := (14, 40, v703)) 9 rfl rfl (hon 14 (by kernel_rfl)) rfl
     replace ha := Aside0.mk ha
     have a5 := Aside0.mk (Q_HO692 hb_)
     have a3 := Aside0.mk (Q_HO_3 hb_)
     have a1 := Aside0.mk (Q_HO_674006 hb_)
     have a0 := Aside0.mk Q_BK673
     have HB := Aside0.mk Q_HB
     have af := Aside0.mk (Q_HO695 (hon 0 (by kernel_rfl)) hb_)
     have ag := Aside0.mk (Q_HO698 (hon 8 (by kernel_rfl)) hb_)
     have ab := Aside0.mk (Q_HO701 (hon 11 (by kernel_rfl)) hb_)
     have ah := Aside0.mk (Q_HO704 (hon 14 (by kernel_rfl)) hb_)
     obtain ⟨al, am, eo37⟩ := Kd.R_slice af.out
     (first | subst eo37 | (injection eo37 with f1_ f2_ f3_; have f4_ := f1_.symm; have f5_ := f3_.symm; clear f1_ f2_ f3_; subst f4_; subst f5_))
     obtain ⟨bc, bd, eo38⟩ := Kd.R_slice a5.out
     (first | subst eo38 | (injection eo38 with f1_ f2_ f3_; have f4_ := f1_.symm; have f5_ := f3_.symm; clear f1_ f2_ f3_; subst f4_; subst f5_))
     obtain ⟨an, ao, eo39⟩ := Kd.R_slice ag.out
     (first | subst eo39 | (injection eo39 with f1_ f2_ f3_; have f4_ := f1_.symm; have f5_ := f3_.symm; clear f1_ f2_ f3_; subst f4_; subst f5_))
     obtain ⟨ap, aq, eo40⟩ := Kd.R_slice ab.out
     (first | subst eo40 | (injection eo40 with f1_ f2_ f3_; have f4_ := f1_.symm; have f5_ := f3_.symm; clear f1_ f2_ f3_; subst f4_; subst f5_))
     obtain ⟨ar, au, eo41⟩ := Kd.R_slice ah.out
     (first | subst eo41 | (injection eo41 with f1_ f2_ f3_; have f4_ := f1_.symm; have f5_ := f3_.symm; clear f1_ f2_ f3_; subst f4_; subst f5_))
     refine Kd.N_lit_step (Kd.slice 5 (Kd.int .u8)) _ 22 ?hg (N' := 41) ?hd (xs := ([y693, t690, y696, t699, t702] : List (List Int))) (inner := [.slice al y693.length am, .slice bc t690.length bd, .slice an y696.length ao, .slice ap t699.length aq, .slice ar t702.length au]) (ok := (fun k_ => (P0_6_ k_ ∨ w.heap.size ≤ k_) ∧ some k_ ≠ (.slice a6 x3_2.length a7 : Value).ownBlock ∧ k_ ≠ a2)) (okp := (fun k_ => (P0_6_ k_ ∨ w.heap.size ≤ k_) ∧ some k_ ≠ (.slice a6 x3_2.length a7 : Value).ownBlock ∧ k_ ≠ a2)) ?hr ?hp (fun _ hk => hk) ((show ∀ k_, w'.heap.size ≤ k_ → (fun k_ => (P0_6_ k_ ∨ w.heap.size ≤ k_) ∧ some k_ ≠ (.slice a6 x3_2.length a7 : Value).ownBlock ∧ k_ ≠ a2) k_ from fun k_ hk => ⟨(.inr (Nat.le_trans (below_size (by repeat (first | (with_reducible first | exact HB.out | apply lA1_ | apply lN_ | apply lD_ | refine lS1_ ?_ a4.out) | exact HB.out))) hk)), Kd.fresh' (Kd.R_lt (by (with_reducible repeat first | apply rA_ | apply rN_ | apply rD_); exact a3.out)) k_ hk, Kd.freshB (g := a2) (o := .cells #[.int .i64 a0_0, .int .i64 a0_1, .int .i64 a0_2, .int .i64 a0_3, .int .i64 a0_4, .int .i64 a0_5, .slice A0_6 l0_6.length c0_6] 34 (0, 0)) (by (with_reducible repeat first | apply bN_ | apply bD_ | apply bA_); exact a0.out) k_ hk⟩) _ (Nat.le_refl _)) (Below.refl _ _) (Nat.le_refl _) (by simp) ?_; (case hd => rfl); (case hg => rfl); (case hr => first | (go_simp; done) | (go_simp; rfl)); (case hp => exact (Reps.one (show Kd.FK (Kd.slice 5 (Kd.int .u8)) _ _ y693 [.slice al y693.length am] from (Kd.FK_slice_mk (Kd.R_reads' (Kd.R_mono (ok' := (fun k_ => (P0_6_ k_ ∨ w.heap.size ≤ k_) ∧ some k_ ≠ (.slice a6 x3_2.length a7 : Value).ownBlock ∧ k_ ≠ a2)) (Kd.R_types (af.out) a0.out (by decide)) (fun k_ hk => by simp_all))).2.1 (Kd.R_F (Kd.R_mono (ok' := (fun k_ => (P0_6_ k_ ∨ w.heap.size ≤ k_) ∧ some k_ ≠ (.slice a6 x3_2.length a7 : Value).ownBlock ∧ k_ ≠ a2)) (Kd.R_types (af.out) a0.out (by decide)) (fun k_ hk => by simp_all))))) (Reps.one (show Kd.FK (Kd.slice 5 (Kd.int .u8)) _ _ t690 [.slice bc t690.length bd] from (Kd.FK_slice_mk (Kd.R_reads' (Kd.R_mono (ok' := (fun k_ => (P0_6_ k_ ∨ w.heap.size ≤ k_) ∧ some k_ ≠ (.slice a6 x3_2.length a7 : Value).ownBlock ∧ k_ ≠ a2)) (Kd.R_types (a5.out) a0.out (by decide)) (fun k_ hk => by simp_all))).2.1 (Kd.R_F (Kd.R_mono (ok' := (fun k_ => (P0_6_ k_ ∨ w.heap.size ≤ k_) ∧ some k_ ≠ (.slice a6 x3_2.length a7 : Value).ownBlock ∧ k_ ≠ a2)) (Kd.R_types (a5.out) a0.out (by decide)) (fun k_ hk => by simp_all))))) (Reps.one (show Kd.FK (Kd.slice 5 (Kd.int .u8)) _ _ y696 [.slice an y696.length ao] from (Kd.FK_slice_mk (Kd.R_reads' (Kd.R_mono (ok' := (fun k_ => (P0_6_ k_ ∨ w.heap.size ≤ k_) ∧ some k_ ≠ (.slice a6 x3_2.length a7 : Value).ownBlock ∧ k_ ≠ a2)) (Kd.R_types (ag.out) a0.out (by decide)) (fun k_ hk => by simp_all))).2.1 (Kd.R_F (Kd.R_mono (ok' := (fun k_ => (P0_6_ k_ ∨ w.heap.size ≤ k_) ∧ some k_ ≠ (.slice a6 x3_2.length a7 : Value).ownBlock ∧ k_ ≠ a2)) (Kd.R_types (ag.out) a0.out (by decide)) (fun k_ hk => by simp_all))))) (Reps.one (show Kd.FK (Kd.slice 5 (Kd.int .u8)) _ _ t699 [.slice ap t699.length aq] from (Kd.FK_slice_mk (Kd.R_reads' (Kd.R_mono (ok' := (fun k_ => (P0_6_ k_ ∨ w.heap.size ≤ k_) ∧ some k_ ≠ (.slice a6 x3_2.length a7 : Value).ownBlock ∧ k_ ≠ a2)) (Kd.R_types (ab.out) a0.out (by decide)) (fun k_ hk => by simp_all))).2.1 (Kd.R_F (Kd.R_mono (ok' := (fun k_ => (P0_6_ k_ ∨ w.heap.size ≤ k_) ∧ some k_ ≠ (.slice a6 x3_2.length a7 : Value).ownBlock ∧ k_ ≠ a2)) (Kd.R_types (ab.out) a0.out (by decide)) (fun k_ hk => by simp_all))))) (Reps.one (show Kd.FK (Kd.slice 5 (Kd.int .u8)) _ _ t702 [.slice ar t702.length au] from (Kd.FK_slice_mk (Kd.R_reads' (Kd.R_mono (ok' := (fun k_ => (P0_6_ k_ ∨ w.heap.size ≤ k_) ∧ some k_ ≠ (.slice a6 x3_2.length a7 : Value).ownBlock ∧ k_ ≠ a2)) (Kd.R_types (ah.out) a0.out (by decide)) (fun k_ hk => by simp_all))).2.1 (Kd.R_F (Kd.R_mono (ok' := (fun k_ => (P0_6_ k_ ∨ w.heap.size ≤ k_) ∧ some k_ ≠ (.slice a6 x3_2.length a7 : Value).ownBlock ∧ k_ ≠ a2)) (Kd.R_types (ah.out) a0.out (by decide)) (fun k_ hk => by simp_all))))) (Reps.none _ _)))))))
     intro v706 w42 ho43 hb hg_ hnew_
     clear hg_ hnew_
     (first | rw [← az.out] at ho43 | (simp only [Int.reduceToNat] at ho43; rw [← az.out] at ho43))
     have n0_ := Aside0.mk (Kd.R_below (by (with_reducible repeat first | apply rA_ | apply rN_ | apply rD_); exact a3.out) hb)
     have n1_ := Aside0.mk (Kd.V_elder' (by (with_reducible repeat (first | apply Kd.V_alloc | apply Kd.V_drewN | apply Kd.V_drew)); exact a1.out) (Kd.N_base ho43) hb)
     have n2_ := Aside0.mk (Kd.N_lower ho43 (below_size (by repeat (first | (with_reducible first | exact HB.out | apply lA1_ | apply lN_ | apply lD_ | refine lS1_ ?_ a4.out) | exact HB.out))))
     have n3_ := Aside0.mk (bB_ (g := a2) (o := .cells #[.int .i64 a0_0, .int .i64 a0_1, .int .i64 a0_2, .int .i64 a0_3, .int .i64 a0_4, .int .i64 a0_5, .slice A0_6 l0_6.length c0_6] 34 (0, 0)) (by (with_reducible repeat first | apply bN_ | apply bD_ | apply bA_); exact a0.out) hb)
     have n4_ := Aside0.mk (lP_ (by repeat (first | (with_reducible first | exact HB.out | apply lA1_ | apply lN_ | apply lD_ | refine lS1_ ?_ a4.out) | exact HB.out)) hb)
     clear a3
     clear a1
     clear a0
     clear HB
     clear a5
     clear af
     clear ag
     clear ab
     clear ah
     have a3 := n0_
     have a1 := n1_
     have ac := n2_
     have a0 := n3_
     have HB := n4_
     clear n0_ n1_ n2_ n3_ n4_
     clear hb ho43
     refine hK.out _ _ ⟨.slice al y693.length am, .slice an y696.length ao, .slice ap t699.length aq, .slice ar t702.length au, v706, v709, m17_, (by rw [ha.out]; exact putSel_upk 10 hb_ rfl rfl rfl), fun h0_ => absurd ((up_self b 15).symm.trans h0_) (by decide), fun h0_ => absurd ((up_self b 15).symm.trans h0_) (by decide), fun h0_ => absurd ((up_self b 15).symm.trans h0_) (by decide), (by (with_reducible repeat first | apply bN_ | apply bD_ | apply bA_); exact a0.out), (by repeat (first | (with_reducible first | exact HB.out | apply lA1_ | apply lN_ | apply lD_ | refine lS1_ ?_ a4.out) | exact HB.out)), fun _ h1_ => absurd ((up_self b 15).symm.trans h1_) (by decide), fun _ h1_ => absurd ((up_self b 15).symm.trans h1_) (by decide), fun _ h1_ => absurd ((up_self b 15).symm.trans h1_) (by decide), fun _ h1_ => absurd ((up_self b 15).symm.trans h1_) (by decide), fun _ => (by (with_reducible repeat (first | apply Kd.N_alloc | apply Kd.N_drewN | apply Kd.N_drew)); exact ac.out), fun _ => (by (with_reducible repeat first | apply rA_ | apply rN_ | apply rD_); exact Kd.R_mono a3.out (fun _ hk => hk.1)), fun _ => (by (with_reducible repeat (first | apply Kd.V_alloc | apply Kd.V_drewN | apply Kd.V_drew)); exact Kd.V_mono a1.out (fun _ hk => by simp_all)), fun h0_ => absurd ((hoff 16 (by kernel_rfl)).symm.trans h0_) (by decide), fun h0_ => absurd ((hoff 17 (by kernel_rfl)).symm.trans h0_) (by decide)⟩
    refine steps_cons ?_ ?_
    ·rintro b a w' ⟨v694, v697, v700, v703, v706, v709, m17_, ha, Q_HO692, Q_HO_3, Q_HO_674006, Q_BK673, Q_HB, Q_HO695, Q_HO698, Q_HO701, Q_HO704, Q_HO707, Q_HO_3_e15, Q_HO_674006_e15, Q_HO710, Q_X17_⟩ hb_ hon hoff
     refine ⟨_, rfl, fun K hK => ?_⟩
     have e41 : a.tmps[41]? = some (v706) := by rw [ha]; exact putSel_on (e := (15, 41, v706)) 10 rfl rfl (hon 15 (by kernel_rfl)) rfl
     replace ha := Aside0.mk ha
     have a0 := Aside0.mk Q_BK673
     have HB := Aside0.mk Q_HB
     have ac := Aside0.mk (Q_HO707 (hon 15 (by kernel_rfl)))
     have a3 := Aside0.mk (Q_HO_3_e15 (hon 15 (by kernel_rfl)))
     have a1 := Aside0.mk (Q_HO_674006_e15 (hon 15 (by kernel_rfl)))
     obtain ⟨be, bf, eo44⟩ := Kd.N_slice ac.out
     (first | subst eo44 | (injection eo44 with f1_ f2_ f3_; have f4_ := f1_.symm; have f5_ := f3_.symm; clear f1_ f2_ f3_; subst f4_; subst f5_))
     refine goes_ Try.func49 (by kernel_rfl) rfl #[.slice be y705.length bf] (by rfl) rfl rfl (by first | (simp only [List.map_toArray, List.map_cons, List.map_nil, Act.eval, Array.getD_eq_getD_getElem?, Option.getD_some, e41]; done) | (simp only [List.map_toArray, List.map_cons, List.map_nil, Act.eval, Array.getD_eq_getD_getElem?, Option.getD_some, e41]; rfl)) ?_
     with_reducible refine (slices_Concat_byte_byte.calls _ _ y705 t708 _ ?side1 ?side2 bu.out).mono ?_
     (case side1 => repeat (first | exact (Kd.N_reads' ac.out).2.2 | (with_reducible refine Kd.C_alloc ?_ _) | (with_reducible refine Kd.C_drewN ?_ _) | (with_reducible refine Kd.C_drew ?_)))
     (case side2 => exact (Kd.N_reads' ac.out).2.1)
     rintro e w45 ⟨v709, rfl, ho0, hb⟩
     refine ⟨_, rfl, ?_⟩
     have n0_ := Aside0.mk (Kd.R_elder' (by (with_reducible repeat first | apply rA_ | apply rN_ | apply rD_); exact a3.out) (Kd.R_base ho0) hb)
     have n1_ := Aside0.mk (Kd.V_elder' (by (with_reducible repeat (first | apply Kd.V_alloc | apply Kd.V_drewN | apply Kd.V_drew)); exact a1.out) (Kd.R_base ho0) hb)
     have n2_ := Aside0.mk (Kd.N_elder' (by (with_reducible repeat (first | apply Kd.N_alloc | apply Kd.N_drewN | apply Kd.N_drew)); exact ac.out) (Kd.R_base ho0) hb)
     have n3_ := Aside0.mk (Kd.R_lower (Kd.R_new' (Kd.R_newM (M := fun k_ => (w.heap.size ≤ k_)) ho0 (below_size (by repeat (first | (with_reducible first | exact HB.out | apply lA1_ | apply lN_ | apply lD_ | refine lS1_ ?_ a4.out) | exact HB.out))) (fun k_ h_ => h_)) (Kd.R_lt (by (with_reducible repeat first | apply rA_ | apply rN_ | apply rD_); exact a3.out))) (below_size (by repeat (first | (with_reducible first | exact HB.out | apply lA1_ | apply lN_ | apply lD_ | refine lS1_ ?_ a4.out) | exact HB.out))))
     have n4_ := Aside0.mk (bB_ (g := a2) (o := .cells #[.int .i64 a0_0, .int .i64 a0_1, .int .i64 a0_2, .int .i64 a0_3, .int .i64 a0_4, .int .i64 a0_5, .slice A0_6 l0_6.length c0_6] 34 (0, 0)) (by (with_reducible repeat first | apply bN_ | apply bD_ | apply bA_); exact a0.out) hb)
     have n5_ := Aside0.mk (lP_ (by repeat (first | (with_reducible first | exact HB.out | apply lA1_ | apply lN_ | apply lD_ | refine lS1_ ?_ a4.out) | exact HB.out)) hb)
     clear a3
     clear a1
     clear ac
     clear a0
     clear HB
     have a3 := n0_
     have a1 := n1_
     have ac := n2_
     have aa := n3_
     have a0 := n4_
     have HB := n5_
     clear n0_ n1_ n2_ n3_ n4_ n5_
     (try clear hb)
     (try clear hb2)
     (try clear hk)
     (try clear hi)
     (try clear ho0)
     refine hK.out _ _ ⟨v694, v697, v700, v703, .slice be y705.length bf, v709, m17_, (by rw [ha.out]; exact putSel_upk 11 hb_ rfl rfl rfl), fun h0_ => absurd ((hon 15 (by kernel_rfl)).symm.trans h0_) (by decide), fun h0_ => absurd ((hon 15 (by kernel_rfl)).symm.trans h0_) (by decide), fun h0_ => absurd ((hon 15 (by kernel_rfl)).symm.trans h0_) (by decide), (by (with_reducible repeat first | apply bN_ | apply bD_ | apply bA_); exact a0.out), (by repeat (first | (with_reducible first | exact HB.out | apply lA1_ | apply lN_ | apply lD_ | refine lS1_ ?_ a4.out) | exact HB.out)), fun _ h1_ => absurd ((hon 15 (by kernel_rfl)).symm.trans h1_) (by decide), fun _ h1_ => absurd ((hon 15 (by kernel_rfl)).symm.trans h1_) (by decide), fun _ h1_ => absurd ((hon 15 (by kernel_rfl)).symm.trans h1_) (by decide), fun _ h1_ => absurd ((hon 15 (by kernel_rfl)).symm.trans h1_) (by decide), fun _ => (by (with_reducible repeat (first | apply Kd.N_alloc | apply Kd.N_drewN | apply Kd.N_drew)); exact Kd.N_mono ac.out (fun _ hk => by simp_all)), fun _ => (by (with_reducible repeat first | apply rA_ | apply rN_ | apply rD_); exact Kd.R_mono a3.out (fun _ hk => by simp_all)), fun _ => (by (with_reducible repeat (first | apply Kd.V_alloc | apply Kd.V_drewN | apply Kd.V_drew)); exact Kd.V_mono a1.out (fun _ hk => by simp_all)), fun _ => (by (with_reducible repeat first | apply rA_ | apply rN_ | apply rD_); exact Kd.R_mono aa.out (fun _ hk => by simp_all)), fun h0_ => absurd ((hoff 17 (by kernel_rfl)).symm.trans h0_) (by decide)⟩
    refine steps_cons ?_ ?_
    ·rintro b a w' ⟨v694, v697, v700, v703, v706, v709, m17_, ha, Q_HO692, Q_HO_3, Q_HO_674006, Q_BK673, Q_HB, Q_HO695, Q_HO698, Q_HO701, Q_HO704, Q_HO707, Q_HO_3_e15, Q_HO_674006_e15, Q_HO710, Q_X17_⟩ hb_ hon hoff
     refine ⟨_, rfl, fun K hK => ?_⟩
     have e42 : a.tmps[42]? = some (v709) := by rw [ha]; exact putSel_on (e := (16, 42, v709)) 11 rfl rfl (hon 16 (by kernel_rfl)) rfl
     replace ha := Aside0.mk ha
     have a0 := Aside0.mk Q_BK673
     have HB := Aside0.mk Q_HB
     have ac := Aside0.mk (Q_HO707 (hon 15 (by kernel_rfl)))
     have a3 := Aside0.mk (Q_HO_3_e15 (hon 15 (by kernel_rfl)))
     have a1 := Aside0.mk (Q_HO_674006_e15 (hon 15 (by kernel_rfl)))
     have aa := Aside0.mk (Q_HO710 (hon 16 (by kernel_rfl)))
     refine value_ (w1 := w') (v := v709) (by rfl) rfl ?_ ?_
     ·go_simp
      (try simp only [i64_w])
      try rfl
     refine hK.out _ _ ⟨v694, v697, v700, v703, v706, v709, (v709), (by rw [ha.out]; exact putSel_upk 12 hb_ rfl rfl rfl), fun h0_ => absurd ((hon 15 (by kernel_rfl)).symm.trans h0_) (by decide), fun h0_ => absurd ((hon 15 (by kernel_rfl)).symm.trans h0_) (by decide), fun h0_ => absurd ((hon 15 (by kernel_rfl)).symm.trans h0_) (by decide), Q_BK673, Q_HB, fun _ h1_ => absurd ((hon 15 (by kernel_rfl)).symm.trans h1_) (by decide), fun _ h1_ => absurd ((hon 15 (by kernel_rfl)).symm.trans h1_) (by decide), fun _ h1_ => absurd ((hon 15 (by kernel_rfl)).symm.trans h1_) (by decide), fun _ h1_ => absurd ((hon 15 (by kernel_rfl)).symm.trans h1_) (by decide), Q_HO707, Q_HO_3_e15, Q_HO_674006_e15, Q_HO710, fun _ => rfl⟩
    exact steps_nil
   rintro b a w45 hall ⟨v694, v697, v700, v703, v706, v709, m17_, ha, Q_HO692, Q_HO_3, Q_HO_674006, Q_BK673, Q_HB, Q_HO695, Q_HO698, Q_HO701, Q_HO704, Q_HO707, Q_HO_3_e15, Q_HO_674006_e15, Q_HO710, Q_X17_⟩
   clear a0 HB a5 a3 a1
   have hb0_ := hall 0 (by kernel_rfl)
   have hb3_ := hall 3 (by kernel_rfl)
   have hb4_ := hall 4 (by kernel_rfl)
   have hb6_ := hall 6 (by kernel_rfl)
   have hb7_ := hall 7 (by kernel_rfl)
   have hb8_ := hall 8 (by kernel_rfl)
   have hb10_ := hall 10 (by kernel_rfl)
   have hb11_ := hall 11 (by kernel_rfl)
   have hb13_ := hall 13 (by kernel_rfl)
   have hb14_ := hall 14 (by kernel_rfl)
   have hb15_ := hall 15 (by kernel_rfl)
   have hb16_ := hall 16 (by kernel_rfl)
   have hb17_ := hall 17 (by kernel_rfl)
   subst ha
   obtain rfl := Q_X17_ hb17_
   simp only [putSel, hb0_, hb3_, hb4_, hb6_, hb7_, hb8_, hb10_, hb11_, hb13_, hb14_, hb15_, hb16_, hb17_, if_true, Act.put, lA_, lZ_, lS_]
   clear Q_HO692
   clear Q_HO_3
   clear Q_HO_674006
   have a0 := Aside0.mk Q_BK673
   clear Q_BK673
   have HB := Aside0.mk Q_HB
   clear Q_HB
   clear Q_HO695
   clear Q_HO698
   clear Q_HO701
   clear Q_HO704
   have ac := Aside0.mk (Q_HO707 hb15_)
   clear Q_HO707
   have a3 := Aside0.mk (Q_HO_3_e15 hb15_)
   clear Q_HO_3_e15
   have a1 := Aside0.mk (Q_HO_674006_e15 hb15_)
   clear Q_HO_674006_e15
   have aa := Aside0.mk (Q_HO710 hb16_)
   clear Q_HO710
   clear hall hb0_ hb3_ hb4_ hb6_ hb7_ hb8_ hb10_ hb11_ hb13_ hb14_ hb15_ hb16_ hb17_
   have hx_ : 0 < t708.length := by have := CL_.out; omega
   obtain ⟨g6, c6, cur6, ev6, hg6, hok6, hb6, hc6, hm6, hs6, ht6⟩ := build_open aa.out hx_
   subst ev6
   have HG6 := Aside0.mk hg6
   have HN6 := Aside0.mk (show some g6 ≠ (.slice a6 x3_2.length a7 : Value).ownBlock from hok6.2)
   clear hg6 hok6
   have HT6 := Aside0.mk ht6
   clear ht6
   have HX_ := Aside0.mk hx_
   clear hx_
   have HB6 := Aside0.mk hb6
   have HC6_ := Aside0.mk hc6
   have HM6 := Aside0.mk hm6
   have HS6 := Aside0.mk hs6
   clear hb6 hc6 hm6 hs6
   obtain ⟨i0_, hi_, _, hsz_, _⟩ := info_parts info5
   have ak : ∀ W : World, (Instr.slice 22 (.slice (some ⟨g6, 0, none⟩) t708.length c6) (some (.int .i64 10)) none none).run Try.prog W = .ok (.slice (some ⟨g6, 10, none⟩) (t708.length - 10) (c6 - 10)) W := by
     have := cut_from (P := Try.prog) 22 5 .i64 Try.underlying22 hi_ 1 hsz_ (some ⟨g6, 0, none⟩) t708.length c6 10 (by omega) (by have := CL_.out; omega)
     rw [if_neg (by have h1 := CL_.out; have h2 := HC6_.out; omega)] at this
     exact this
   clear hi_ hsz_
   clear ac a1
   try go_wp2
   have n0_ := Aside0.mk (rD_ a3.out)
   have n1_ := Aside0.mk (rD_ aa.out)
   have n2_ := Aside0.mk (bD_ a0.out)
   have n3_ := Aside0.mk (lD_ HB.out)
   have n4_ := Aside0.mk (bD_ HG6.out)
   clear a3 aa a0 HB HG6
   have a3 := n0_; have aa := n1_; have a0 := n2_; have HB := n3_; have HG6 := n4_
   clear n0_ n1_ n2_ n3_ n4_
   refine start_ (n := 6) (S := fun _ => True) (ds := []) #[false, false, false, false, false, false] (by kernel_rfl) rfl rfl trivial (fun hHeld => ?_)
   obtain ⟨w61, hw61_⟩ : ∃ W_ : World, W_ = w45.drew := ⟨_, rfl⟩
   rw [← hw61_] at a3 aa a0 HB HG6 ⊢
   clear hw61_
   refine pure_ (i := 0) (N := some 43) (v := ?_) (a' := ?_) #[true, false, false, false, false, false] rfl rfl (by kernel_rfl) (fun _ _ _ h => h) (Or.inl ⟨by rfl, ?_⟩) ?_ ?_
   rotate_left
   ·intro w'
    go_simp
    with_reducible rfl
   rotate_left
   ·simp only [Act.put, lA_, lZ_, lS_, i64_w, i32_w]
    rfl
   refine pure_ (i := 1) (N := some 44) (v := ?_) (a' := ?_) #[true, true, false, false, false, false] rfl rfl (by kernel_rfl) (fun _ _ _ h => h) (Or.inl ⟨by rfl, ?_⟩) ?_ ?_
   rotate_left
   ·intro w'
    go_simp
    first | with_reducible rfl | (simp only [ak]; rfl) | (rw [ak]; rfl)
   rotate_left
   ·simp only [Act.put, lA_, lZ_, lS_, i64_w, i32_w]
    rfl
   refine pure_ (i := 2) (N := some 45) (v := ?_) (a' := ?_) #[true, true, true, false, false, false] rfl rfl (by kernel_rfl) (fun _ _ _ h => h) (Or.inl ⟨by rfl, ?_⟩) ?_ ?_
   rotate_left
   ·intro w'
    go_simp
    with_reducible rfl
   rotate_left
   ·simp only [Act.put, lA_, lZ_, lS_, i64_w, i32_w]
    rfl
   refine one_ (i := 3) (N := some 46) #[true, true, true, true, false, false] rfl rfl (by kernel_rfl) (by decide) (fun K hK => ?_)
   refine goes_ Try.func72 (by kernel_rfl) rfl #[.slice (some ⟨g6, 0, none⟩) t708.length c6] (by rfl) rfl rfl (by (try simp only [List.map_toArray, List.map_cons, List.map_nil]); first | done | rfl) ?_
   with_reducible refine (impl_SumWords.calls kj2 (some ⟨g6, 0, none⟩) c6 t708 ts_ w61 (Kd.R_reads' aa.out).2.2 HC6_.out AS_.out).mono ?_
   rintro e w62 ⟨rfl, hd⟩
   have hb := hd.below
   clear hd
   refine ⟨_, rfl, ?_⟩
   have n0_ := Aside0.mk (lP_ HB.out hb)
   have n1_ := Aside0.mk (bB_ a0.out hb)
   have n2_ := Aside0.mk (Kd.R_below aa.out hb)
   have n3_ := Aside0.mk (Kd.R_below a3.out hb)
   have n4_ := Aside0.mk (bB_ HG6.out hb)
   clear HB a0 aa a3 HG6 hb
   have HB := n0_; have a0 := n1_; have aa := n2_; have a3 := n3_; have HG6 := n4_
   clear n0_ n1_ n2_ n3_ n4_
   refine hK.out _ _ trivial (fun hHeld => ?_)
   clear hK K
   refine norm_ (a' := ?_) ?_ ?_
   rotate_left
   ·show Act.put _ (some 46) _ = _
    simp only [Act.put, lA_, lZ_, lS_, i64_w, i32_w]
    rfl
   refine one_ (i := 4) (N := some 47) #[true, true, true, true, true, false] rfl rfl (by kernel_rfl) (by decide) (fun K hK => ?_)
   refine goes_ Try.func50 (by kernel_rfl) rfl #[.int .i64 ts_, .int .i64 2] (by rfl) rfl rfl (by (try simp only [List.map_toArray, List.map_cons, List.map_nil]); first | done | rfl) ?_
   with_reducible refine (impl_put.calls kj2 ts_ 2 tz_ w62 AZ_.out).mono ?_
   rintro e w63 ⟨vz, rfl, ho0, hb⟩
   refine ⟨_, rfl, ?_⟩
   have n0_ := Aside0.mk (lP_ HB.out hb)
   have n1_ := Aside0.mk (bB_ a0.out hb)
   have n2_ := Aside0.mk (Kd.R_below aa.out hb)
   have n3_ := Aside0.mk (Kd.R_below a3.out hb)
   have n4_ := Aside0.mk (bB_ HG6.out hb)
   clear HB a0 aa a3 HG6 hb
   have HB := n0_; have a0 := n1_; have aa := n2_; have a3 := n3_; have HG6 := n4_
   clear n0_ n1_ n2_ n3_ n4_
   have hz_ : 0 < tz_.length := by have := CL_.out; omega
   obtain ⟨gz, cz, curz, evz, hgz, _, _, _, _, _, htz⟩ := build_open ho0 hz_
   subst evz
   clear ho0 hz_
   have HGZ := Aside0.mk hgz
   have HTZ := Aside0.mk htz
   clear hgz htz
   refine hK.out _ _ trivial (fun hHeld => ?_)
   clear hK K
   refine norm_ (a' := ?_) ?_ ?_
   rotate_left
   ·show Act.put _ (some 47) _ = _
    simp only [Act.put, lA_, lZ_, lS_, i64_w, i32_w]
    rfl
   refine one_ (i := 5) (N := some 48) #[true, true, true, true, true, true] rfl rfl (by kernel_rfl) (by decide) (fun K hK => ?_)
   obtain ⟨cs6, hcs6⟩ : ∃ cs6, cs6 = tz_.map (Value.int .u8) := ⟨_, rfl⟩
   have hl6 : cs6.length = 2 := by rw [hcs6, List.length_map]; exact CL_.out.2
   refine step_copy_row rfl (.tmp 44) (.tmp 47) 22 22 (by rfl) 5 Try.underlying22 rfl g6 10 (t708.length - 10) (c6 - 10) ⟨gz, 0, none⟩ tz_.length cz rfl rfl cur6 5 HG6.out cs6 ?cn ?cp ?cf ?c1 ?_
   (case cn => rw [hl6]; have := CL_.out; show 2 = min _ _; omega)
   (case cp => rw [hcs6]; exact build_src HGZ.out HTZ.out)
   (case cf => have h1 := CL_.out; have h2 := HC6_.out; have h3 := HS6.out; omega)
   (case c1 => intro v_ hv_; rw [hcs6] at hv_; obtain ⟨x_, _, rfl⟩ := List.mem_map.1 hv_; rfl)
   rw [hl6]
   have n0_ : Aside0 (Kd.R (Kd.int .u8) 5 (w63.setRow g6 (cur6.toList.take 10 ++ (cs6 ++ cur6.toList.drop (10 + 2))).toArray) w.heap.size (fun _ => True) (.slice (some ⟨g6, 0, none⟩) t708.length c6) ty_) := Aside0.mk (by rw [HTY_.out, hcs6]; exact build_after HB6.out HG6.out HC6_.out HM6.out HS6.out HT6.out CL_.out.1 CL_.out.2)
   have n1_ := Aside0.mk (below_setRow HB.out HB6.out (cur6.toList.take 10 ++ (cs6 ++ cur6.toList.drop (10 + 2))).toArray)
   have n2_ := Aside0.mk ((setRow_other w63 g6 a2 (cur6.toList.take 10 ++ (cs6 ++ cur6.toList.drop (10 + 2))).toArray (blk_ne a0.out HG6.out (by decide))).trans a0.out)
   have n3_ := Aside0.mk (build_keep a3.out (fun k hk => setRow_other w63 g6 k (cur6.toList.take 10 ++ (cs6 ++ cur6.toList.drop (10 + 2))).toArray (fun e_ => HN6.out (e_ ▸ hk.symm))))
   generalize w63.setRow g6 (cur6.toList.take 10 ++ (cs6 ++ cur6.toList.drop (10 + 2))).toArray = w64 at n0_ n1_ n2_ n3_ ⊢
   clear HB a0 aa a3 HG6
   have aa := n0_; have HB := n1_; have a0 := n2_; have a3 := n3_
   clear n0_ n1_ n2_ n3_
   refine hK.out _ _ trivial (fun hHeld => ?_)
   clear hK K
   refine norm_ (a' := ?_) ?_ ?_
   rotate_left
   ·show Act.put _ (some 48) _ = _
    simp only [Act.put, lA_, lZ_, lS_, i64_w, i32_w]
    rfl
   refine done_ (by kernel_rfl) ?_
   clear hHeld ak
   have HOL := Aside0.mk (Kd.V_below hs0_6 HB.out)
   have hln_ : t708.length = ty_.length := by rw [HTY_.out]; exact (splice_len _ _ _ (by have := CL_.out; omega)).symm
   have HLN_ := Aside0.mk hln_
   clear hln_
   obtain ⟨_, _, _, _, _, _, _, _, _, _, _, _, _, _⟩ := bc7 a0.out
   go_wp2_with (first | ((with_reducible refine gate_dst (N := 53) rfl ?_); refine Kd.N_lit (Kd.slice 5 (Kd.int .u8)) _ 22 ?hg (N' := 53) ?hd (xs := ([ty_, x3_2, l0_6] : List (List Int))) (inner := [.slice (some ⟨g6, 0, none⟩) t708.length c6, .slice a6 x3_2.length a7, .slice A0_6 l0_6.length c0_6]) (ok := fun _ => True) (okp := fun _ => True) ?hr ?hp (fun _ hk => hk) trivial (Below.refl _ _) (Nat.le_refl _) (by simp) ?_; (case hd => rfl); (case hg => rfl); (case hr => first | (go_simp; done) | (go_simp; rfl)); (case hp => exact (Reps.one (show Kd.FK (Kd.slice 5 (Kd.int .u8)) _ _ ty_ [.slice (some ⟨g6, 0, none⟩) t708.length c6] from build_FK HLN_.out (Kd.R_mono (ok' := fun _ => True) aa.out (fun _ _ => trivial))) (Reps.one (show Kd.FK (Kd.slice 5 (Kd.int .u8)) _ _ x3_2 [.slice a6 x3_2.length a7] from (Kd.FK_slice_mk (Kd.R_reads' a3.out).2.1 (Kd.R_F (Kd.R_mono (ok' := fun _ => True) a3.out (fun _ _ => trivial))))) (Reps.one (show Kd.FK (Kd.slice 5 (Kd.int .u8)) _ _ l0_6 [.slice A0_6 l0_6.length c0_6] from (Kd.FK_slice_mk (Kd.V_reads' HOL.out).2.1 (Kd.V_F (Kd.V_mono (ok' := fun _ => True) HOL.out (fun _ _ => trivial))))) (Reps.none _ _))))); intro v712 w48 ho49 hb hg_ hnew_; clear hg_ hnew_; rw [← bh.out] at ho49; have n2_ := Aside0.mk (Kd.N_lower ho49 (below_size HB.out)); have n4_ := Aside0.mk (lP_ HB.out hb); clear a0 HB aa a3 HOL; have aj := n2_; have HB := n4_; clear n2_ n4_ hb ho49; obtain ⟨bn, bo, eo50⟩ := Kd.N_slice aj.out; subst eo50) | ((with_reducible refine gate_callee (f := 49) rfl ?_); refine goesA_ (some 54) rfl rfl Try.func49 (by kernel_rfl) rfl #[.slice bn y711.length bo] rfl ?_; (with_reducible refine (slices_Concat_byte_byte.calls _ _ y711 t714 _ ?side1 ?side2 bv.out).mono ?_); (case side1 => exact (Kd.N_reads' aj.out).2.2); (case side2 => exact (Kd.N_reads' aj.out).2.1); rintro e w51 ⟨v715, rfl, ho0, hb⟩; refine ⟨_, rfl, ?_⟩; have n3_ := Aside0.mk (Kd.R_lower (Kd.R_newM (M := fun k_ => (w.heap.size ≤ k_)) ho0 (below_size HB.out) (fun k_ h_ => h_)) (below_size HB.out)); have n5_ := Aside0.mk (lP_ HB.out hb); clear aj HB; have bi := n3_; have HB := n5_; clear n3_ n5_ hb ho0))
   go_ret
   exact ⟨_, by first | rfl | (simp [errW_none, errW_some] <;> rfl) | (simp [*, errW_none, errW_some] <;> rfl), Kd.R_mono bi.out (fun _ hk => hk.1), HB.out⟩
theorem impl_build.calls (k : Nat) (a0_0 : Int) (a0_1 : Int) (a0_2 : Int) (a0_3 : Int) (a0_4 : Int) (a0_5 : Int) (A0_6 : Option Addr) (c0_6 : Nat) (l0_6 : List Int) (r : List Int) (w : World) (hr0_6 : Kd.C (Kd.int .u8) w A0_6 l0_6.length l0_6) (hc0_6 : l0_6.length ≤ c0_6) (h : impl_build.f k a0_0 a0_1 a0_2 a0_3 a0_4 a0_5 l0_6 = some r) :
    Calls Try.prog 62 #[.agg #[.int .i64 a0_0, .int .i64 a0_1, .int .i64 a0_2, .int .i64 a0_3, .int .i64 a0_4, .int .i64 a0_5, .slice A0_6 l0_6.length c0_6]] w fun e w' => ∃ v0_ : Value, e = .returned (v0_) ∧ Kd.R (Kd.int .u8) 5 w' w.heap.size (fun _ => True) v0_ r ∧ Below w.heap.size w w' := by
  refine (impl_build.callsV k a0_0 a0_1 a0_2 a0_3 a0_4 a0_5 (fun k_ => k_ < w.heap.size) A0_6 c0_6 l0_6 r w (Kd.V_mk hc0_6 (Kd.C_F (Kd.heap_int .u8) hr0_6)) h).mono ?_
  rintro e w' ⟨v, rfl, hr, hb⟩
  exact ⟨v, rfl, Kd.R_mono hr (fun _ _ => trivial), hb⟩
def impl_BuildPacket.f (k : Nat) (a0_0 : Int) (a0_1 : Int) (a0_2 : Int) (a0_3 : Int) (a0_4 : Int) (a0_5 : Int) (l0_6 : List Int) : Option (Int × List Int) := (impl_PacketFault.f k a0_0 a0_1 a0_2 a0_3 a0_4 a0_5 l0_6).bind fun t908 => (if t908 = 0 then ((impl_build.f k a0_0 a0_1 a0_2 a0_3 a0_4 a0_5 l0_6).bind fun t909 => (some (0, t909))) else (some (t908, ([] : List Int))))
set_option maxHeartbeats 8000000 in
set_option maxRecDepth 100000 in
theorem impl_BuildPacket.calls (k : Nat) (a0_0 : Int) (a0_1 : Int) (a0_2 : Int) (a0_3 : Int) (a0_4 : Int) (a0_5 : Int) (A0_6 : Option Addr) (c0_6 : Nat) (l0_6 : List Int) (r1 : Int) (r2 : List Int) (w : World) (hr0_6 : Kd.C (Kd.int .u8) w A0_6 l0_6.length l0_6) (hc0_6 : l0_6.length ≤ c0_6) (h : impl_BuildPacket.f k a0_0 a0_1 a0_2 a0_3 a0_4 a0_5 l0_6 = some (r1, r2)) :
  Calls Try.prog 31 #[.agg #[.int .i64 a0_0, .int .i64 a0_1, .int .i64 a0_2, .int .i64 a0_3, .int .i64 a0_4, .int .i64 a0_5, .slice A0_6 l0_6.length c0_6]] w fun e w' => ∃ v1_ : Value, e = .returned (.agg #[.int .i64 r1, v1_]) ∧ Kd.R (Kd.int .u8) 5 w' w.heap.size (fun _ => True) v1_ r2 ∧ Below w.heap.size w w' := by
 have hu34 := Try.underlying34
 have hu29 := Try.underlying29
 have HR0_6 := Aside0.mk hr0_6
 have HC0_6 := Aside0.mk hc0_6
 clear hr0_6 hc0_6
 have HB := Aside0.mk (Below.refl w.heap.size w)
 have H : ((impl_PacketFault.f k a0_0 a0_1 a0_2 a0_3 a0_4 a0_5 l0_6).bind fun t908 => (if t908 = 0 then ((impl_build.f k a0_0 a0_1 a0_2 a0_3 a0_4 a0_5 l0_6).bind fun t909 => (some (0, t909))) else (some (t908, ([] : List Int))))) = some (r1, r2) := h
 clear h
 replace H := Option.bind_eq_some_iff.mp H
 obtain ⟨t908, a9, H⟩ := H
 try dsimp only at H
 have A2 := Aside0.mk a9
 clear a9
 by_cases c3 : t908 = 0
 ·rw [if_pos c3] at H
  have c3b0 : (t908 == 0) = true := beq_iff_eq.mpr c3
  have c3b1 : (t908 != 0) = false := bne_eq_false_iff_eq.mpr c3
  clear c3
  replace H := Option.bind_eq_some_iff.mp H
  obtain ⟨t909, aa, H⟩ := H
  try dsimp only at H
  have A4 := Aside0.mk aa
  clear aa
  simp only [Option.some.injEq, Prod.mk.injEq] at H
  obtain ⟨rfl, rfl⟩ := H
  go_enter Try.func31, Try.ntmps31
  go_wp2_with (first | ((with_reducible refine gate_dst (N := 1) rfl ?_); refine box_event ?hg (N := 1) ?hd (cs := #[.int .i64 a0_0, .int .i64 a0_1, .int .i64 a0_2, .int .i64 a0_3, .int .i64 a0_4, .int .i64 a0_5, .slice A0_6 l0_6.length c0_6]) (t := 34) ?hr ?_; (case hd => rfl); (case hg => rfl); (case hr => first | (go_simp; done) | (go_simp; rfl)); intro a5 hg w5 hbox hb; have n0_ := Aside0.mk (lP_ HB.out hb); have n1_ := Aside0.mk (hbox); have n3_ := Aside0.mk ((by rw [hg]; exact (below_size HB.out) : w.heap.size ≤ a5)); clear HB; have HB := n0_; have a0 := n1_; have a6 := n3_; clear n0_ n1_ n3_ hb hbox hg) | ((with_reducible refine gate_dst (N := 2) rfl ?_); refine box_event ?hg (N := 2) ?hd (cs := #[.int .i64 0, .slice none 0 0]) (t := 29) ?hr ?_; (case hd => rfl); (case hg => rfl); (case hr => first | (go_simp; done) | (go_simp; rfl)); intro a2 hg w6 hbox hb; have n0_ := Aside0.mk (bB_ a0.out hb); have n1_ := Aside0.mk (lP_ HB.out hb); have n2_ := Aside0.mk (hbox); have n4_ := Aside0.mk ((by rw [hg]; exact (below_size HB.out) : w.heap.size ≤ a2)); have n5_ := Aside0.mk ((by rw [hg]; exact Nat.ne_of_lt (blk_lt a0.out) : a5 ≠ a2)); have n6_ := Aside0.mk n5_.out.symm; clear a0 HB; have a0 := n0_; have HB := n1_; have a1 := n2_; have a7 := n4_; have a3 := n5_; have a4 := n6_; clear n0_ n1_ n2_ n4_ n5_ n6_ hb hbox hg; have af := a3.out; have ag := a4.out; obtain ⟨_, _, _, _, _, _, _, _, _, _, _, _, _, _⟩ := bc7 a0.out) | ((with_reducible refine gate_callee (f := 32) rfl ?_); refine goesA_ (some 5) rfl rfl Try.func32 (by kernel_rfl) rfl #[.agg #[.int .i64 a0_0, .int .i64 a0_1, .int .i64 a0_2, .int .i64 a0_3, .int .i64 a0_4, .int .i64 a0_5, .slice A0_6 l0_6.length c0_6]] rfl ?_; (with_reducible refine (impl_PacketFault.calls k a0_0 a0_1 a0_2 a0_3 a0_4 a0_5 _ _ l0_6 t908 _ ?side1 ?side2 A2.out).mono ?_); (case side1 => repeat (first | exact (Kd.C_below HR0_6.out HB.out) | (with_reducible refine Kd.C_alloc ?_ _) | (with_reducible refine Kd.C_drewN ?_ _) | (with_reducible refine Kd.C_drew ?_))); (case side2 => exact HC0_6.out); rintro e w9 ⟨rfl, hb⟩; refine ⟨_, rfl, ?_⟩; have n0_ := Aside0.mk (bB_ a0.out hb); have n1_ := Aside0.mk (bB_ a1.out hb); have n2_ := Aside0.mk (lP_ HB.out hb); clear a0 a1 HB; have a0 := n0_; have a1 := n1_; have HB := n2_; clear n0_ n1_ n2_; (try clear hb); (try clear hb2); (try clear hk); (try clear hi); obtain ⟨_, _, _, _, _, _, _, _, _, _, _, _, _, _⟩ := bc7 a0.out) | ((with_reducible refine gate_callee (f := 62) rfl ?_); refine goesA_ (some 11) rfl rfl Try.func62 (by kernel_rfl) rfl #[.agg #[.int .i64 a0_0, .int .i64 a0_1, .int .i64 a0_2, .int .i64 a0_3, .int .i64 a0_4, .int .i64 a0_5, .slice A0_6 l0_6.length c0_6]] rfl ?_; (with_reducible refine (impl_build.calls k a0_0 a0_1 a0_2 a0_3 a0_4 a0_5 _ _ l0_6 t909 _ ?side1 ?side2 A4.out).mono ?_); (case side1 => repeat (first | exact (Kd.C_below HR0_6.out HB.out) | (with_reducible refine Kd.C_alloc ?_ _) | (with_reducible refine Kd.C_drewN ?_ _) | (with_reducible refine Kd.C_drew ?_))); (case side2 => exact HC0_6.out); rintro e w11 ⟨v910, rfl, ho0, hb⟩; refine ⟨_, rfl, ?_⟩; have n0_ := Aside0.mk (Kd.R_lower ho0 (below_size HB.out)); have n2_ := Aside0.mk (bB_ a1.out hb); have n3_ := Aside0.mk (lP_ HB.out hb); clear a1 HB; have a8 := n0_; have a1 := n2_; have HB := n3_; clear n0_ n2_ n3_; (try clear hb); (try clear hb2); (try clear hk); (try clear hi); (try clear ho0); obtain ⟨ab, ac, eo12⟩ := Kd.R_slice a8.out; subst eo12; obtain ⟨_, _, _, _⟩ := bc2 a1.out))
  refine bodyPost_ret (results_cell_row rfl _ _ a2 29 #[.int .i64 0, .slice ab t909.length ac] (0, 0) _ rfl (by (with_reducible repeat first | apply bN_ | apply bD_ | apply bA_); apply fill2; (with_reducible repeat first | apply bN_ | apply bD_ | apply bA_); exact a1.out) Try.underlying29 rfl (by kernel_rfl)) rfl ?_
  exact ⟨_, by first | rfl | (simp [errW_none, errW_some] <;> rfl) | (simp [*, errW_none, errW_some] <;> rfl), by (with_reducible repeat first | apply rA_ | apply rN_ | apply rD_); exact Kd.R_mono (rfar2 (g := a2) (Kd.R_types a8.out a1.out (by decide)) (fun _ hk => hk.2)) (fun _ hk => trivial), by repeat (first | (with_reducible first | exact HB.out | apply lA1_ | apply lN_ | apply lD_ | refine lS1_ ?_ a6.out | refine lS1_ ?_ a7.out) | exact HB.out)⟩
 ·rw [if_neg c3] at H
  have c3b0 : (t908 == 0) = false := beq_eq_false_iff_ne.mpr c3
  have c3b1 : (t908 != 0) = true := bne_iff_ne.mpr c3
  simp only [Option.some.injEq, Prod.mk.injEq] at H
  obtain ⟨rfl, rfl⟩ := H
  go_enter Try.func31, Try.ntmps31
  go_wp2_with (first | ((with_reducible refine gate_dst (N := 1) rfl ?_); refine box_event ?hg (N := 1) ?hd (cs := #[.int .i64 a0_0, .int .i64 a0_1, .int .i64 a0_2, .int .i64 a0_3, .int .i64 a0_4, .int .i64 a0_5, .slice A0_6 l0_6.length c0_6]) (t := 34) ?hr ?_; (case hd => rfl); (case hg => rfl); (case hr => first | (go_simp; done) | (go_simp; rfl)); intro a5 hg w14 hbox hb; have n0_ := Aside0.mk (lP_ (by repeat (first | (with_reducible first | exact HB.out | apply lA1_ | apply lN_ | apply lD_) | exact HB.out)) hb); have n1_ := Aside0.mk (hbox); have n3_ := Aside0.mk ((by rw [hg]; exact (below_size (by repeat (first | (with_reducible first | exact HB.out | apply lA1_ | apply lN_ | apply lD_) | exact HB.out))) : w.heap.size ≤ a5)); clear HB; have HB := n0_; have a0 := n1_; have a6 := n3_; clear n0_ n1_ n3_ hb hbox hg) | ((with_reducible refine gate_dst (N := 2) rfl ?_); refine box_event ?hg (N := 2) ?hd (cs := #[.int .i64 0, .slice none 0 0]) (t := 29) ?hr ?_; (case hd => rfl); (case hg => rfl); (case hr => first | (go_simp; done) | (go_simp; rfl)); intro a2 hg w15 hbox hb; have n0_ := Aside0.mk (bB_ a0.out hb); have n1_ := Aside0.mk (lP_ HB.out hb); have n2_ := Aside0.mk (hbox); have n4_ := Aside0.mk ((by rw [hg]; exact (below_size HB.out) : w.heap.size ≤ a2)); have n5_ := Aside0.mk ((by rw [hg]; exact Nat.ne_of_lt (blk_lt a0.out) : a5 ≠ a2)); have n6_ := Aside0.mk n5_.out.symm; clear a0 HB; have a0 := n0_; have HB := n1_; have a1 := n2_; have a7 := n4_; have a3 := n5_; have a4 := n6_; clear n0_ n1_ n2_ n4_ n5_ n6_ hb hbox hg; have ad := a3.out; have ae := a4.out; obtain ⟨_, _, _, _, _, _, _, _, _, _, _, _, _, _⟩ := bc7 a0.out) | ((with_reducible refine gate_callee (f := 32) rfl ?_); refine goesA_ (some 5) rfl rfl Try.func32 (by kernel_rfl) rfl #[.agg #[.int .i64 a0_0, .int .i64 a0_1, .int .i64 a0_2, .int .i64 a0_3, .int .i64 a0_4, .int .i64 a0_5, .slice A0_6 l0_6.length c0_6]] rfl ?_; (with_reducible refine (impl_PacketFault.calls k a0_0 a0_1 a0_2 a0_3 a0_4 a0_5 _ _ l0_6 t908 _ ?side1 ?side2 A2.out).mono ?_); (case side1 => repeat (first | exact (Kd.C_below HR0_6.out HB.out) | (with_reducible refine Kd.C_alloc ?_ _) | (with_reducible refine Kd.C_drewN ?_ _) | (with_reducible refine Kd.C_drew ?_))); (case side2 => exact HC0_6.out); rintro e w18 ⟨rfl, hb⟩; refine ⟨_, rfl, ?_⟩; have n1_ := Aside0.mk (bB_ a1.out hb); have n2_ := Aside0.mk (lP_ HB.out hb); clear a1 HB; have a1 := n1_; have HB := n2_; clear n1_ n2_; (try clear hb); (try clear hb2); (try clear hk); (try clear hi); obtain ⟨_, _, _, _⟩ := bc2 a1.out))
  refine bodyPost_ret (results_cell_row rfl _ _ a2 29 #[.int .i64 t908, .slice none 0 0] (0, 0) _ rfl (by (with_reducible repeat first | apply bN_ | apply bD_ | apply bA_); apply fill2; (with_reducible repeat first | apply bN_ | apply bD_ | apply bA_); exact a1.out) Try.underlying29 rfl (by kernel_rfl)) rfl ?_
  exact ⟨_, by first | rfl | (simp [errW_none, errW_some] <;> rfl) | (simp [*, errW_none, errW_some] <;> rfl), by first | exact Kd.R_nil _ _ _ _ _ | exact Kd.N_nil _ _ _ _ _ | exact Kd.V_nil _ _ _ _ _ | exact Kd.Q_nil _ _ _ _ _ | exact Kd.S_nil _ _ _ _ _, by repeat (first | (with_reducible first | exact HB.out | apply lA1_ | apply lN_ | apply lD_ | refine lS1_ ?_ a6.out | refine lS1_ ?_ a7.out) | exact HB.out)⟩
end Go.Proofs.Ytidejdfbapjfiaa.G
