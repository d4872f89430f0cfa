/- Part 5 of the proof of FnWindows: what the functions on its road do, and the plain laws. -/
import Derived.Test.YtodeihnbjflpaaaCFnWindows4
namespace Go.Proofs.Ytodeihnbjflpaaa.G
open Go.RowKit Go.Proofs.YtodeihnbjflpaaaW.PrintWords Go.Proofs.YtodeihnbjflpaaaW.PrintLast Go.Proofs.YtodeihnbjflpaaaW.PrintMore
attribute [local go_sem] max2_int min2_int max_two min_two max_three min_three max_four min_four   -- for this text's walks alone
set_option linter.unusedVariables false
set_option linter.unusedSimpArgs false
mutual
def laws_FnWindows.l0 : Nat → List Int → Int → Int → Int → Int → List Int → Option (Bool)
 | 0, _, _, _, _, _, _ => none
 | k + 1, x4, x6, x578000, x578001, x583000, x583001 => if x6 < (x583001.length : Int) then (if 0 ≤ x6 then (if x6 ≤ (x583001.length : Int) then ((laws_lwHas.f k (x583001.take (x6 : Int).toNat) (rd x583001 x6)).bind fun t592 => (if t592 = true then (laws_FnWindows.j1 k x4 x6 true x578000 x578001 x583000 x583001) else ((impl_SeenIn.f k x578000 x578001 (rd x583001 x6)).bind fun t594 => (laws_FnWindows.j1 k x4 x6 t594 x578000 x578001 x583000 x583001)))) else (none)) else (none)) else ((impl_MissingIn.f k x578000 x578001).bind fun bt609 => (laws_FnWindows.l1 k x4 0 x578000 x578001 x583000 x583001 bt609.1 bt609.2))
def laws_FnWindows.j1 : Nat → List Int → Int → Bool → Int → Int → Int → List Int → Option (Bool)
 | 0, _, _, _, _, _, _, _ => none
 | k + 1, x4, x6, x55, x578000, x578001, x583000, x583001 => if x55 = true then (some false) else (if 0 ≤ x6 then (if x6 < (x583001.length : Int) then ((impl_TakeSeq.f k x578000 x578001 (rd x583001 x6)).bind fun bt596 => (if bt596.1 = 0 then ((impl_SeenIn.f k bt596.2.2.1 bt596.2.2.2 (rd x583001 x6)).bind fun t602 => (if t602 = true then ((impl_WindowFault.f k bt596.2.2.1 bt596.2.2.2).bind fun t603 => (if t603 = 0 then ((impl_TakeSeq.f k bt596.2.2.1 bt596.2.2.2 (rd x583001 x6)).bind fun bt605 => (if bt605.1 = 0 then (some false) else (if bt596.2.2.1 < x578000 then (some false) else (laws_FnWindows.l0 k x4 (wrap64 (x6 + 1)) x578000 x578001 x583000 x583001)))) else (some false))) else (some false))) else (laws_FnWindows.l0 k x4 (wrap64 (x6 + 1)) x578000 x578001 x583000 x583001))) else (none)) else (none))
def laws_FnWindows.l1 : Nat → List Int → Int → Int → Int → Int → List Int → Int → List Int → Option (Bool)
 | 0, _, _, _, _, _, _, _, _ => none
 | k + 1, x4, x9, x578000, x578001, x583000, x583001, x614000, x614001 => if x9 < (x614001.length : Int) then (if 0 ≤ x9 then ((impl_SeenIn.f k x578000 x578001 (rd x614001 x9)).bind fun t615 => (if t615 = true then (some false) else (if (rd x614001 x9) ≥ x578000 then (some false) else (laws_FnWindows.l1 k x4 (wrap64 (x9 + 1)) x578000 x578001 x583000 x583001 x614000 x614001)))) else (none)) else ((spec_TakeAll.f k x578000 x578001 x4).bind fun bt617 => (if (x583001.length : Int) = (bt617.2.length : Int) then (some (x614000 == 0)) else (some false)))
end
def laws_FnWindows.f (k : Nat) (l0 : List Int) : Option (Bool) := (laws_lwBig.f l0).bind fun t571 => (if t571 = true then (some true) else ((spec_DrawTakeAll.f k l0).bind fun bt572 => ((impl_TakeAll.f k bt572.1 bt572.2.1 bt572.2.2).bind fun bt578 => (if bt578.1 = 0 then (laws_FnWindows.l0 k bt572.2.2 0 bt572.1 bt572.2.1 bt578.1 bt578.2) else ((spec_TakeAll.f k bt572.1 bt572.2.1 bt572.2.2).bind fun bt583 => (some (bt583.1 == bt578.1)))))))
def laws_FnWindows.T6 : Bool × List (List Nat × List Nat) := (true, [([], []), ([], []), ([0, 1], [0, 1]), ([2], [2]), ([], []), ([4], [4]), ([3, 5], [3, 5]), ([6, 2, 0, 1, 2, 3, 4, 5, 6], [6])])
def laws_FnWindows.B6 : List Nat := [0, 0, 3, 7, 0, 16, 63, 127]
theorem laws_FnWindows.tab6 : rtab .any (opsOf Try.f5 6) = laws_FnWindows.T6 := by kernel_rfl
theorem laws_FnWindows.bits6 : waitsOk laws_FnWindows.T6.2 laws_FnWindows.B6 = true := by kernel_rfl
def laws_FnWindows.T10 : Bool × List (List Nat × List Nat) := (true, [([], []), ([0], [0]), ([], []), ([1, 2], [1, 2]), ([], []), ([4], [4]), ([], []), ([5, 6], [5, 6]), ([7], [7]), ([3, 8], [3, 8]), ([9, 9], [9]), ([10], [10]), ([10], [10]), ([12, 10], [10, 12]), ([10], [10]), ([13, 14, 10], [10, 13, 14]), ([15, 10], [10, 15]), ([11, 16, 10, 10], [10, 11, 16]), ([10, 17], [10, 17])])
def laws_FnWindows.B10 : List Nat := [0, 1, 0, 7, 0, 16, 0, 112, 240, 511, 1023, 2047, 2047, 6143, 2047, 30719, 63487, 131071, 262143]
theorem laws_FnWindows.tab10 : rtab .any (opsOf Try.f5 10) = laws_FnWindows.T10 := by kernel_rfl
theorem laws_FnWindows.bits10 : waitsOk laws_FnWindows.T10.2 laws_FnWindows.B10 = true := by kernel_rfl
def laws_FnWindows.T12 : Bool × List (List Nat × List Nat) := (true, [([], []), ([], []), ([1], [1]), ([], []), ([2, 3], [2, 3]), ([4], [4]), ([0, 5], [0, 5]), ([], []), ([7, 6, 6, 0, 1, 2, 3, 4, 5, 6, 7], [6, 7])])
def laws_FnWindows.B12 : List Nat := [0, 0, 2, 0, 14, 30, 63, 0, 255]
theorem laws_FnWindows.tab12 : rtab .any (opsOf Try.f5 12) = laws_FnWindows.T12 := by kernel_rfl
theorem laws_FnWindows.bits12 : waitsOk laws_FnWindows.T12.2 laws_FnWindows.B12 = true := by kernel_rfl
def laws_FnWindows.T13 : Bool × List (List Nat × List Nat) := (true, [([], []), ([0], [0]), ([1], [1]), ([2], [2]), ([3], [3]), ([4, 3], [3, 4]), ([3], [3]), ([6, 3], [3, 6]), ([3], [3]), ([7, 8, 3], [3, 7, 8]), ([9, 3], [3, 9]), ([5, 10, 3, 3], [3, 5, 10]), ([11, 3], [3, 11]), ([12, 11, 3], [3, 12]), ([13], [13]), ([14, 13], [13, 14]), ([15, 13, 13], [13, 15]), ([16, 13], [13, 16]), ([13, 17, 3], [3, 13, 17]), ([18, 16, 3], [3, 18]), ([19], [19]), ([20, 19], [19, 20]), ([19], [19]), ([22, 19], [19, 22]), ([19], [19]), ([23, 24, 19], [19, 23, 24]), ([25, 19], [19, 25]), ([21, 26, 19, 19], [19, 21, 26]), ([27, 19], [19, 27]), ([28, 19], [19, 28]), ([19, 29, 3], [3, 19, 29]), ([30, 27, 3], [3, 30]), ([31], [31]), ([32, 31], [31, 32]), ([33, 31], [31, 33]), ([31], [31]), ([35, 31], [31, 35]), ([34, 36, 31], [31, 34, 36]), ([31, 37, 3], [3, 31, 37]), ([3, 38], [3, 38])])
def laws_FnWindows.B13 : List Nat := [0, 1, 3, 7, 15, 31, 15, 79, 15, 463, 975, 2047, 4095, 8191, 16383, 32767, 65535, 131071, 262143, 524287, 1048575, 2097151, 1048575, 5242879, 1048575, 30408703, 63963135, 134217727, 268435455, 536870911, 1073741823, 2147483647, 4294967295, 8589934591, 17179869183, 4294967295, 38654705663, 137438953471, 274877906943, 549755813887]
theorem laws_FnWindows.tab13 : rtab .any (opsOf Try.f5 13) = laws_FnWindows.T13 := by kernel_rfl
theorem laws_FnWindows.bits13 : waitsOk laws_FnWindows.T13.2 laws_FnWindows.B13 = true := by kernel_rfl
def laws_FnWindows.T19 : Bool × List (List Nat × List Nat) := (true, [([], []), ([], []), ([1], [1]), ([], []), ([2, 3], [2, 3]), ([4], [4]), ([0, 5], [0, 5]), ([6, 6], [6]), ([7], [7]), ([8, 7], [7, 8]), ([7], [7]), ([9, 10, 7], [7, 9, 10]), ([11, 7], [7, 11]), ([7], [7]), ([13, 7], [7, 13]), ([12, 14, 7], [7, 12, 14]), ([7, 15], [7, 15])])
def laws_FnWindows.B19 : List Nat := [0, 0, 2, 0, 14, 30, 63, 127, 255, 511, 255, 2047, 4095, 255, 8447, 32767, 65535]
theorem laws_FnWindows.tab19 : rtab .any (opsOf Try.f5 19) = laws_FnWindows.T19 := by kernel_rfl
theorem laws_FnWindows.bits19 : waitsOk laws_FnWindows.T19.2 laws_FnWindows.B19 = true := by kernel_rfl
def laws_FnWindows.T21 : Bool × List (List Nat × List Nat) := (true, [([], []), ([0], [0]), ([1], [1]), ([], []), ([], []), ([3, 4], [3, 4]), ([5], [5]), ([6], [6]), ([2, 7], [2, 7]), ([8, 5], [8]), ([9], [9]), ([10, 9], [9, 10]), ([11, 9], [9, 11]), ([9, 12], [9, 12]), ([13, 9, 0, 1, 2, 3, 4, 5, 6, 7, 8, 9, 10, 11, 12, 13], [13])])
def laws_FnWindows.B21 : List Nat := [0, 1, 3, 0, 0, 24, 56, 120, 255, 511, 1023, 2047, 4095, 8191, 16383]
theorem laws_FnWindows.tab21 : rtab .any (opsOf Try.f5 21) = laws_FnWindows.T21 := by kernel_rfl
theorem laws_FnWindows.bits21 : waitsOk laws_FnWindows.T21.2 laws_FnWindows.B21 = true := by kernel_rfl
set_option maxHeartbeats 8000000 in
set_option maxRecDepth 100000 in
theorem laws_FnWindows.calls (k : Nat) (A0 : Option Addr) (c0 : Nat) (l0 : List Int) (w : World) (hr0 : Kd.C (Kd.int .u8) w A0 l0.length l0) (hc0 : l0.length ≤ c0) (h : laws_FnWindows.f k l0 = some true) :
  Calls Try.prog 5 #[.slice A0 l0.length c0] w fun e w' => e = .returned (.bool true) ∧ Below w.heap.size w w' := by
 have hu34 := Try.underlying34
 have hu48 := Try.underlying48
 have hu39 := Try.underlying39
 have HR0 := Aside0.mk hr0
 have HC0 := Aside0.mk hc0
 clear hr0 hc0
 have HB := Aside0.mk (Below.refl w.heap.size w)
 have H : ((laws_lwBig.f l0).bind fun t571 => (if t571 = true then (some true) else ((spec_DrawTakeAll.f k l0).bind fun bt572 => ((impl_TakeAll.f k bt572.1 bt572.2.1 bt572.2.2).bind fun bt578 => (if bt578.1 = 0 then (laws_FnWindows.l0 k bt572.2.2 0 bt572.1 bt572.2.1 bt578.1 bt578.2) else ((spec_TakeAll.f k bt572.1 bt572.2.1 bt572.2.2).bind fun bt583 => (some (bt583.1 == bt578.1)))))))) = some true := h
 clear h
 replace H := Option.bind_eq_some_iff.mp H
 obtain ⟨t571, A20, H⟩ := H
 try dsimp only at H
 have A2 := Aside0.mk A20
 clear A20
 by_cases c3 : t571 = true
 ·subst c3
  rw [if_pos rfl] at H
  clear H
  go_enter Try.func5, Try.ntmps5
  go_wp2_with (first | (refine upon_field_ (ty := 2) 0 Try.underlying39 Try.underlying2 rfl rfl rfl ?_) | (refine upon_field_ (ty := 2) 0 Try.underlying48 Try.underlying2 rfl rfl rfl ?_) | (refine upon_field_ (ty := 44) 1 Try.underlying48 Try.underlying44 rfl rfl rfl ?_) | ((with_reducible refine gate_callee (f := 9) rfl ?_); refine goesL_ (some 11) rfl rfl Try.func9 (by kernel_rfl) rfl #[.slice A0 l0.length c0] rfl (by (try simp only [List.map_toArray, List.map_cons, List.map_nil]); first | done | rfl | (simp only [List.length_drop, List.length_take]; rfl)) ?_; (with_reducible refine (laws_lwBig.calls _ _ l0 true _ ?side1 ?side2 A2.out).mono ?_); (case side1 => repeat (first | exact HR0.out | (with_reducible refine Kd.C_alloc ?_ _) | (with_reducible refine Kd.C_drewN ?_ _) | (with_reducible refine Kd.C_drew ?_))); (case side2 => exact HC0.out); rintro e w' ⟨rfl, ⟨nd, rfl⟩⟩; refine ⟨_, rfl, ?_⟩))
  go_ret
  exact ⟨by first | rfl | (rw [hr_.out]; first | done | rfl) | (simp [errW_none, errW_some] <;> rfl) | (simp [*, errW_none, errW_some] <;> rfl), by repeat (first | (with_reducible first | exact HB.out | apply below_alloc | apply pw_below_drewN | apply below_drew1) | exact HB.out)⟩
 ·replace c3 := Bool.eq_false_iff.mpr c3
  subst c3
  rw [if_neg (show ¬ (false = true) by decide)] at H
  replace H := Option.bind_eq_some_iff.mp H
  obtain ⟨⟨t572, t573, t574⟩, A40, H⟩ := H
  try dsimp only at H
  have A4 := Aside0.mk A40
  clear A40
  replace H := Option.bind_eq_some_iff.mp H
  obtain ⟨⟨t578, t579⟩, A50, H⟩ := H
  try dsimp only at H
  have A5 := Aside0.mk A50
  clear A50
  by_cases c6 : t578 = 0
  ·rw [if_pos c6] at H
   have c6b0 : (t578 == 0) = true := beq_iff_eq.mpr c6
   have c6b1 : (t578 != 0) = false := bne_eq_false_iff_eq.mpr c6
   clear c6
   have H' := Aside0.mk H
   clear H
   go_enter Try.func5, Try.ntmps5
   go_wp2_with (first | (refine upon_field_ (ty := 2) 0 Try.underlying39 Try.underlying2 rfl rfl rfl ?_) | (refine upon_field_ (ty := 2) 0 Try.underlying48 Try.underlying2 rfl rfl rfl ?_) | (refine upon_field_ (ty := 44) 1 Try.underlying48 Try.underlying44 rfl rfl rfl ?_) | ((with_reducible refine gate_callee (f := 9) rfl ?_); refine goesL_ (some 11) rfl rfl Try.func9 (by kernel_rfl) rfl #[.slice A0 l0.length c0] rfl (by (try simp only [List.map_toArray, List.map_cons, List.map_nil]); first | done | rfl | (simp only [List.length_drop, List.length_take]; rfl)) ?_; (with_reducible refine (laws_lwBig.calls _ _ l0 false _ ?side1 ?side2 A2.out).mono ?_); (case side1 => repeat (first | exact HR0.out | (with_reducible refine Kd.C_alloc ?_ _) | (with_reducible refine Kd.C_drewN ?_ _) | (with_reducible refine Kd.C_drew ?_))); (case side2 => exact HC0.out); rintro e w' ⟨rfl, ⟨nd, rfl⟩⟩; refine ⟨_, rfl, ?_⟩) | ((with_reducible refine gate_callee (f := 23) rfl ?_); refine goesL_ (some 14) rfl rfl Try.func23 (by kernel_rfl) rfl #[.slice A0 l0.length c0] rfl (by (try simp only [List.map_toArray, List.map_cons, List.map_nil]); first | done | rfl | (simp only [List.length_drop, List.length_take]; rfl)) ?_; (with_reducible refine (spec_DrawTakeAll.calls k _ _ l0 t572 t573 t574 _ ?side1 ?side2 A4.out).mono ?_); (case side1 => repeat (first | exact HR0.out | (with_reducible refine Kd.C_alloc ?_ _) | (with_reducible refine Kd.C_drewN ?_ _) | (with_reducible refine Kd.C_drew ?_))); (case side2 => exact HC0.out); rintro e w7 ⟨v575, rfl, ho0, hb⟩; refine ⟨_, rfl, ?_⟩; have n0_ := Aside0.mk (Kd.R_lower ho0 (below_size (by repeat (first | (with_reducible first | exact HB.out | apply below_alloc | apply pw_below_drewN | apply below_drew1) | exact HB.out)))); have n1_ := Aside0.mk (below_step (by repeat (first | (with_reducible first | exact HB.out | apply below_alloc | apply pw_below_drewN | apply below_drew1) | exact HB.out)) hb); clear HB; have HO576 := n0_; have HB := n1_; clear n0_ n1_; (try clear hb); (try clear hb2); (try clear hk); (try clear hi); (try clear ho0)) | ((with_reducible refine gate_dst (N := 3) rfl ?_); refine box_event ?hg (N := 3) ?hd (cs := #[.int .i64 0, .int .i64 0]) (t := 34) ?hr ?_; (case hd => rfl); (case hg => rfl); (case hr => first | (go_simp; done) | (go_simp; rfl)); intro gb577 hg w8 hbox hb; have n0_ := Aside0.mk (Kd.R_below (by (with_reducible repeat (first | apply Kd.R_alloc | apply Kd.R_drewN | apply Kd.R_drew)); exact HO576.out) hb); have n1_ := Aside0.mk (below_step (by repeat (first | (with_reducible first | exact HB.out | apply below_alloc | apply pw_below_drewN | apply below_drew1) | exact HB.out)) hb); have n2_ := Aside0.mk (hbox); have n3_ := Aside0.mk ((by rw [hg]; exact (below_size (by repeat (first | (with_reducible first | exact HB.out | apply below_alloc | apply pw_below_drewN | apply below_drew1) | exact HB.out))) : w.heap.size ≤ gb577)); have n4_ := Aside0.mk ((by rw [hg]; exact (below_size (by repeat (first | (with_reducible first | exact HB.out | apply below_alloc | apply pw_below_drewN | apply below_drew1) | exact HB.out))) : w.heap.size ≤ gb577)); clear HO576; clear HB; have HO576 := n0_; have HB := n1_; have BK577 := n2_; have GW577 := n3_; have GE577 := n4_; clear n0_ n1_ n2_ n3_ n4_; clear hb hbox hg; have hcz9_0 : w8.cell? ⟨gb577, 0, none⟩ = some (.int .i64 0) := (blk_cell BK577.out 0).trans rfl; have hcz9_1 : w8.cell? ⟨gb577, 1, none⟩ = some (.int .i64 0) := (blk_cell BK577.out 1).trans rfl; have hfz9_0 := blk_frozen BK577.out 0; have hfz9_1 := blk_frozen BK577.out 1; obtain ⟨Ao10, co10, eo10⟩ := Kd.R_slice HO576.out; subst eo10) | ((with_reducible refine gate_callee (f := 24) rfl ?_); refine goesL_ (some 19) rfl rfl Try.func24 (by kernel_rfl) rfl #[.agg #[.int .i64 t572, .int .i64 t573], .slice Ao10 t574.length co10] rfl (by (try simp only [List.map_toArray, List.map_cons, List.map_nil]); first | done | rfl | (simp only [List.length_drop, List.length_take]; rfl)) ?_; (with_reducible refine (impl_TakeAll.calls k t572 t573 _ _ t574 t578 t579 _ ?side1 ?side2 A5.out).mono ?_); (case side1 => refine (Kd.R_reads' (e := 2) (base := w.heap.size) (ok := fun k_ => True) (n := t574.length) (c := co10) ?_).2.2; exact (by (with_reducible repeat (first | apply Kd.R_alloc | apply Kd.R_drewN | apply Kd.R_drew)); exact (Kd.R_mono (Kd.R_far (p := ⟨gb577, 1, none⟩) (Kd.R_far (p := ⟨gb577, 0, none⟩) (Kd.R_types HO576.out BK577.out (by decide)) (fun _ hk => hk.2) (.int .i64 t572)) (fun _ hk => hk.2) (.int .i64 t573)) (fun _ h_ => h_.1)))); (case side2 => exact (Kd.R_reads' HO576.out).2.1); rintro e w11 ⟨v580, rfl, ho0, hb⟩; refine ⟨_, rfl, ?_⟩; have n0_ := Aside0.mk (Kd.R_elder' (by (with_reducible repeat (first | apply Kd.R_alloc | apply Kd.R_drewN | apply Kd.R_drew)); exact (Kd.R_mono (Kd.R_far (p := ⟨gb577, 1, none⟩) (Kd.R_far (p := ⟨gb577, 0, none⟩) (Kd.R_types HO576.out BK577.out (by decide)) (fun _ hk => hk.2) (.int .i64 t572)) (fun _ hk => hk.2) (.int .i64 t573)) (fun _ h_ => h_.1))) (Kd.R_base ho0) hb); have n1_ := Aside0.mk (Kd.R_lower (Kd.R_new' ho0 (Kd.R_lt (by (with_reducible repeat (first | apply Kd.R_alloc | apply Kd.R_drewN | apply Kd.R_drew)); exact (Kd.R_mono (Kd.R_far (p := ⟨gb577, 1, none⟩) (Kd.R_far (p := ⟨gb577, 0, none⟩) (Kd.R_types HO576.out BK577.out (by decide)) (fun _ hk => hk.2) (.int .i64 t572)) (fun _ hk => hk.2) (.int .i64 t573)) (fun _ h_ => h_.1))))) (below_size (by repeat (first | (with_reducible first | exact HB.out | apply below_alloc | apply pw_below_drewN | apply below_drew1 | refine below_set ?_ GE577.out) | exact HB.out)))); have n2_ := Aside0.mk (blk_below (g := gb577) (o := .cells #[.int .i64 t572, .int .i64 t573] 34 (0, 0)) (by (with_reducible repeat (first | refine blk_drewN ?_ _ | refine blk_drew ?_ | refine blk_alloc ?_ _)); refine blk_put (cs := #[.int .i64 t572, .int .i64 0]) ?_ 1 _ rfl; (with_reducible repeat (first | refine blk_drewN ?_ _ | refine blk_drew ?_ | refine blk_alloc ?_ _)); refine blk_put (cs := #[.int .i64 0, .int .i64 0]) ?_ 0 _ rfl; (with_reducible repeat (first | refine blk_drewN ?_ _ | refine blk_drew ?_ | refine blk_alloc ?_ _)); exact BK577.out) hb); have n3_ := Aside0.mk (below_step (by repeat (first | (with_reducible first | exact HB.out | apply below_alloc | apply pw_below_drewN | apply below_drew1 | refine below_set ?_ GE577.out) | exact HB.out)) hb); clear HO576; clear BK577; clear HB; have HO576 := n0_; have HO581 := n1_; have BK577 := n2_; have HB := n3_; clear n0_ n1_ n2_ n3_; (try clear hb); (try clear hb2); (try clear hk); (try clear hi); (try clear ho0)) | ((with_reducible refine gate_dst (N := 5) rfl ?_); refine box_event ?hg (N := 5) ?hd (cs := #[.int .i64 0, .slice none 0 0]) (t := 48) ?hr ?_; (case hd => rfl); (case hg => rfl); (case hr => first | (go_simp; done) | (go_simp; rfl)); intro gb582 hg w12 hbox hb; have n0_ := Aside0.mk (Kd.R_below (by (with_reducible repeat (first | apply Kd.R_alloc | apply Kd.R_drewN | apply Kd.R_drew)); exact HO576.out) hb); have n1_ := Aside0.mk (Kd.R_below (by (with_reducible repeat (first | apply Kd.R_alloc | apply Kd.R_drewN | apply Kd.R_drew)); exact HO581.out) hb); have n2_ := Aside0.mk (blk_below (g := gb577) (o := .cells #[.int .i64 t572, .int .i64 t573] 34 (0, 0)) (by (with_reducible repeat (first | refine blk_drewN ?_ _ | refine blk_drew ?_ | refine blk_alloc ?_ _)); exact BK577.out) hb); have n3_ := Aside0.mk (below_step (by repeat (first | (with_reducible first | exact HB.out | apply below_alloc | apply pw_below_drewN | apply below_drew1 | refine below_set ?_ GE577.out) | exact HB.out)) hb); have n4_ := Aside0.mk (hbox); have n5_ := Aside0.mk ((by rw [hg]; exact (below_size (by repeat (first | (with_reducible first | exact HB.out | apply below_alloc | apply pw_below_drewN | apply below_drew1 | refine below_set ?_ GE577.out) | exact HB.out))) : w.heap.size ≤ gb582)); have n6_ := Aside0.mk ((by rw [hg]; exact (below_size (by repeat (first | (with_reducible first | exact HB.out | apply below_alloc | apply pw_below_drewN | apply below_drew1 | refine below_set ?_ GE577.out) | exact HB.out))) : w.heap.size ≤ gb582)); have n7_ := Aside0.mk ((by rw [hg]; exact Nat.ne_of_lt (blk_lt (g := gb577) (o := .cells #[.int .i64 t572, .int .i64 t573] 34 (0, 0)) (by (with_reducible repeat (first | refine blk_drewN ?_ _ | refine blk_drew ?_ | refine blk_alloc ?_ _)); exact BK577.out)) : gb577 ≠ gb582)); have n8_ := Aside0.mk ((by rw [hg]; exact Nat.ne_of_gt (blk_lt (g := gb577) (o := .cells #[.int .i64 t572, .int .i64 t573] 34 (0, 0)) (by (with_reducible repeat (first | refine blk_drewN ?_ _ | refine blk_drew ?_ | refine blk_alloc ?_ _)); exact BK577.out)) : gb582 ≠ gb577)); clear HO576; clear HO581; clear BK577; clear HB; have HO576 := n0_; have HO581 := n1_; have BK577 := n2_; have HB := n3_; have BK582 := n4_; have GW582 := n5_; have GE582 := n6_; have NB577_582 := n7_; have NB582_577 := n8_; clear n0_ n1_ n2_ n3_ n4_ n5_ n6_ n7_ n8_; clear hb hbox hg; have hnb13 := NB582_577.out; have hnc13 := NB577_582.out; have hcz14_0 : w12.cell? ⟨gb582, 0, none⟩ = some (.int .i64 0) := (blk_cell BK582.out 0).trans rfl; have hcz14_1 : w12.cell? ⟨gb582, 1, none⟩ = some (.slice none 0 0) := (blk_cell BK582.out 1).trans rfl; have hfz14_0 := blk_frozen BK582.out 0; have hfz14_1 := blk_frozen BK582.out 1; obtain ⟨Ao15, co15, eo15⟩ := Kd.R_slice HO581.out; subst eo15))
   go_loopg [6] k (fun kq v6 w' => ∃ (x6_1 : Int), v6 = .int .i64 x6_1 ∧ Aside0 (laws_FnWindows.l0 kq t574 x6_1 t572 t573 t578 t579 = some true) ∧ Aside0 (kq ≤ k) ∧ Aside0 (Kd.R (Kd.int .i64) 2 w' w.heap.size (fun k_ => some k_ ≠ ((.slice Ao15 t579.length co15) : Value).ownBlock) (.slice Ao10 t574.length co10) t574) ∧ Aside0 (Kd.R (Kd.int .i64) 2 w' w.heap.size (fun k_ => some k_ ≠ ((.slice Ao10 t574.length co10) : Value).ownBlock) (.slice Ao15 t579.length co15) t579) ∧ Aside0 (w'.heap[gb577]? = some (.cells #[.int .i64 t572, .int .i64 t573] 34 (0, 0))) ∧ Aside0 (w'.heap[gb582]? = some (.cells #[.int .i64 t578, (.slice Ao15 t579.length co15)] 48 (0, 0))) ∧ Aside0 (Below w.heap.size w w'))
   case atStart => exact ⟨(0), (by first | rfl | (simp; done) | (simp [*]; done)), H', ⟨Nat.le_refl _⟩, ⟨by (with_reducible repeat (first | apply Kd.R_alloc | apply Kd.R_drewN | apply Kd.R_drew)); exact Kd.R_mono (Kd.R_far (p := ⟨gb582, 1, none⟩) (Kd.R_far (p := ⟨gb582, 0, none⟩) (Kd.R_types HO576.out BK582.out (by decide)) (fun _ hk => hk.2) (.int .i64 t578)) (fun _ hk => hk.2) (.slice Ao15 t579.length co15)) (fun _ hk => hk.1.2)⟩, ⟨by (with_reducible repeat (first | apply Kd.R_alloc | apply Kd.R_drewN | apply Kd.R_drew)); exact Kd.R_mono (Kd.R_far (p := ⟨gb582, 1, none⟩) (Kd.R_far (p := ⟨gb582, 0, none⟩) (Kd.R_types HO581.out BK582.out (by decide)) (fun _ hk => hk.2) (.int .i64 t578)) (fun _ hk => hk.2) (.slice Ao15 t579.length co15)) (fun _ hk => hk.1.2)⟩, ⟨by (with_reducible repeat (first | refine blk_drewN ?_ _ | refine blk_drew ?_ | refine blk_alloc ?_ _)); refine blk_far ?_ NB577_582.out _; (with_reducible repeat (first | refine blk_drewN ?_ _ | refine blk_drew ?_ | refine blk_alloc ?_ _)); refine blk_far ?_ NB577_582.out _; (with_reducible repeat (first | refine blk_drewN ?_ _ | refine blk_drew ?_ | refine blk_alloc ?_ _)); exact BK577.out⟩, ⟨by (with_reducible repeat (first | refine blk_drewN ?_ _ | refine blk_drew ?_ | refine blk_alloc ?_ _)); refine blk_put (cs := #[.int .i64 t578, .slice none 0 0]) ?_ 1 _ rfl; (with_reducible repeat (first | refine blk_drewN ?_ _ | refine blk_drew ?_ | refine blk_alloc ?_ _)); refine blk_put (cs := #[.int .i64 0, .slice none 0 0]) ?_ 0 _ rfl; (with_reducible repeat (first | refine blk_drewN ?_ _ | refine blk_drew ?_ | refine blk_alloc ?_ _)); exact BK582.out⟩, ⟨by repeat (first | (with_reducible first | exact HB.out | apply below_alloc | apply pw_below_drewN | apply below_drew1 | refine below_set ?_ GE577.out | refine below_set ?_ GE582.out) | exact HB.out)⟩⟩
   case round =>
    clear H'
    try clear c1
    try clear c2
    try clear p2
    try clear c3
    try clear c5
    try clear c6
    try clear c6b0
    try clear c6b1
    try clear c9
    try clear c13
    try clear hcz14_0
    try clear hcz14_1
    try clear hcz9_0
    try clear hcz9_1
    try clear hfz14_0
    try clear hfz14_1
    try clear hfz9_0
    try clear hfz9_1
    obtain ⟨x6_1, rfl, HA, HK1, HO_4, HO_583001, BK577, BK582, HB⟩ := hrel
    cases gk with
    | zero => exact absurd HA.out (by simp [laws_FnWindows.l0])
    | succ k1 =>
     have H := HA.out
     clear HA
     simp only [laws_FnWindows.l0] at H
     by_cases c16 : x6_1 < (t579.length : Int)
     ·rw [if_pos c16] at H
      have c16b0 : decide (x6_1 < (t579.length : Int)) = true := decide_eq_true c16
      clear c16
      have HC17 := Aside0.mk H
      clear H
      have hnb18 := NB582_577.out
      have hnc18 := NB577_582.out
      have hcz19_0 : wr.cell? ⟨gb582, 0, none⟩ = some (.int .i64 t578) := (blk_cell BK582.out 0).trans rfl
      have hcz19_1 : wr.cell? ⟨gb582, 1, none⟩ = some (.slice Ao15 t579.length co15) := (blk_cell BK582.out 1).trans rfl
      have hfz19_0 := blk_frozen BK582.out 0
      have hfz19_1 := blk_frozen BK582.out 1
      go_upto_region 10 with (fail)
      go_cut [55] (fun v55 wc => ∃ (kq : Nat) (x55_16 : Bool), v55 = .bool x55_16 ∧ Aside0 (laws_FnWindows.j1 kq t574 x6_1 x55_16 t572 t573 t578 t579 = some true) ∧ Aside0 (kq ≤ k1) ∧ Aside0 (Kd.R (Kd.int .i64) 2 wc w.heap.size (fun k_ => some k_ ≠ ((.slice Ao15 t579.length co15) : Value).ownBlock) (.slice Ao10 t574.length co10) t574) ∧ Aside0 (Kd.R (Kd.int .i64) 2 wc w.heap.size (fun k_ => some k_ ≠ ((.slice Ao10 t574.length co10) : Value).ownBlock) (.slice Ao15 t579.length co15) t579) ∧ Aside0 (wc.heap[gb577]? = some (.cells #[.int .i64 t572, .int .i64 t573] 34 (0, 0))) ∧ Aside0 (wc.heap[gb582]? = some (.cells #[.int .i64 t578, (.slice Ao15 t579.length co15)] 48 (0, 0))) ∧ Aside0 (Below w.heap.size w wc))
      case first =>
       have H := HC17.out
       clear HC17
       by_cases c20 : 0 ≤ x6_1
       ·rw [if_pos c20] at H
        have c20b0 := eq_true c20
        have c20b1 : decide (0 ≤ x6_1) = true := decide_eq_true c20
        clear c20
        by_cases c21 : x6_1 ≤ (t579.length : Int)
        ·rw [if_pos c21] at H
         have c21b0 := eq_true c21
         have c21b1 : decide (x6_1 ≤ (t579.length : Int)) = true := decide_eq_true c21
         clear c21
         obtain ⟨y587, hy587⟩ : ∃ y_ : List Int, y_ = (t579.take (x6_1 : Int).toNat) := ⟨_, rfl⟩
         replace H : ((laws_lwHas.f k1 y587 (rd t579 x6_1)).bind fun t592 => (if t592 = true then (laws_FnWindows.j1 k1 t574 x6_1 true t572 t573 t578 t579) else ((impl_SeenIn.f k1 t572 t573 (rd t579 x6_1)).bind fun t594 => (laws_FnWindows.j1 k1 t574 x6_1 t594 t572 t573 t578 t579)))) = some true := by first | (rw [hy587]; with_reducible exact H) | (have H2_ := (Option.bind_some _ _).symm.trans H; rw [hy587]; with_reducible exact H2_) | (have H2_ := (Option.bind_some _ _).symm.trans H; with_reducible exact H2_) | with_reducible exact H | (rw [hy587]; exact H) | exact H
         have Ny587 := Aside0.mk hy587
         clear hy587
         replace H := Option.bind_eq_some_iff.mp H
         obtain ⟨t592, A220, H⟩ := H
         try dsimp only at H
         have A22 := Aside0.mk A220
         clear A220
         by_cases c23 : t592 = true
         ·subst c23
          rw [if_pos rfl] at H
          have H' := Aside0.mk H
          clear H
          try go_wp2
          have n0_ := Aside0.mk (Kd.R_drew HO_4.out)
          have n1_ := Aside0.mk (Kd.R_drew HO_583001.out)
          have n2_ := Aside0.mk (blk_drew BK577.out)
          have n3_ := Aside0.mk (blk_drew BK582.out)
          have n4_ := Aside0.mk (below_drew1 HB.out)
          clear HO_4
          clear HO_583001
          clear BK577
          clear BK582
          clear HB
          have HO_4 := n0_
          have HO_583001 := n1_
          have BK577 := n2_
          have BK582 := n3_
          have HB := n4_
          clear n0_ n1_ n2_ n3_ n4_
          have q25 : (x6_1 : Int) ≤ ((t579.length : Int) : Int) := of_decide_eq_true (by first | (with_reducible assumption) | assumption)
          obtain ⟨i025, hi025, _, hsz25, _⟩ := info_parts info2
          have hroom25 : t579.length ≤ co15 := (Kd.R_reads' HO_583001.out).2.1
          have hC25 : Kd.C (Kd.int .i64) _ Ao15 t579.length t579 := (Kd.R_reads' HO_583001.out).2.2
          have hcut25 := cut_to (P := Try.prog) 44 2 .i64 Try.underlying44 hi025 Ao15 t579.length co15 x6_1 (of_decide_eq_true (by first | (with_reducible assumption) | assumption)) q25 hroom25
          have hr25 := Kd.C_take (m := (x6_1 : Int).toNat) hC25 (by omega)
          have hy25 : y587.length = (x6_1 : Int).toNat := (by rw [Ny587.out, List.length_take]; omega)
          rw [← Ny587.out] at hr25
          rw [← hy25] at hcut25
          have HR590 := Aside0.mk hr25
          have HC590 := Aside0.mk (show y587.length ≤ co15 from by omega)
          clear hr25 hC25 hroom25 hi025 hsz25
          have KY25 := Aside0.mk hy25
          clear hy25
          have KL25 := Aside0.mk (show (x6_1 : Int).toNat ≤ t579.length from by omega)
          replace q25 := eq_true q25
          have p591 : 0 ≤ (x6_1 : Int) := of_decide_eq_true (by first | (with_reducible assumption) | assumption)
          have q591 : x6_1 < (t579.length : Int) := of_decide_eq_true (by first | (with_reducible assumption) | assumption)
          obtain ⟨ad591, e591, hx591_0⟩ := Kd.at_int (Kd.R_reads' HO_583001.out).2.2 x6_1 p591 q591
          cases e591
          replace p591 := eq_true p591
          replace q591 := eq_true q591
          refine start_ (n := 19) (S := fun w' => w'.cell? ⟨gb582, 0, none⟩ = some (.int .i64 t578) ∧ w'.cell? ⟨gb582, 1, none⟩ = some (.slice (some ad591) t579.length co15) ∧ w'.cell? (ad591.add (x6_1).toNat) = some (.int .i64 (rd t579 x6_1))) (ds := []) #[false, false, false, false, false, false, false, false, false, false, false, false, false, false, false, false, false, false, false] (by kernel_rfl) rfl rfl ⟨(blk_cell BK582.out 0).trans rfl, (blk_cell BK582.out 1).trans rfl, hx591_0⟩ (fun hHeld => ?_); refine with_tabW laws_FnWindows.tab10 laws_FnWindows.bits10 (fun HT_ HW_ => ?_)
          generalize wr.drew = w24 at HO_4 HO_583001 BK577 BK582 HB HR590 hx591_0 hHeld ⊢
          refine pure_ (i := 0) (N := some 37) (v := ?_) (a' := ?_) #[true, false, false, false, false, false, false, false, false, false, false, false, false, false, false, false, false, false, false] rfl rfl (any_of HT_.out (by kernel_rfl)) (fun _ _ _ h => h) (Or.inl ⟨by rfl, ?_⟩) ?_ ?_
          rotate_left
          ·intro w'
           go_simp
           with_reducible rfl
          rotate_left
          ·simp only [Act.put, lA_, lZ_, lS_, i64_w, i32_w]
           rfl
          refine pure_ (i := 2) (N := some 39) (v := ?_) (a' := ?_) #[true, false, true, false, false, false, false, false, false, false, false, false, false, false, false, false, false, false, false] rfl rfl (any_of HT_.out (by kernel_rfl)) (fun _ _ _ h => h) (Or.inl ⟨by rfl, ?_⟩) ?_ ?_
          rotate_left
          ·intro w'
           go_simp
           with_reducible rfl
          rotate_left
          ·simp only [Act.put, lA_, lZ_, lS_, i64_w, i32_w]
           rfl
          refine pure_ (i := 4) (N := some 41) (v := ?_) (a' := ?_) #[true, false, true, false, true, false, false, false, false, false, false, false, false, false, false, false, false, false, false] rfl rfl (any_of HT_.out (by kernel_rfl)) (fun _ _ _ h => h) (Or.inl ⟨by rfl, ?_⟩) ?_ ?_
          rotate_left
          ·intro w'
           go_simp
           with_reducible rfl
          rotate_left
          ·simp only [Act.put, lA_, lZ_, lS_, i64_w, i32_w]
           rfl
          refine pure_ (i := 6) (N := some 43) (v := ?_) (a' := ?_) #[true, false, true, false, true, false, true, false, false, false, false, false, false, false, false, false, false, false, false] rfl rfl (any_of HT_.out (by kernel_rfl)) (fun _ _ _ h => h) (Or.inl ⟨by rfl, ?_⟩) ?_ ?_
          rotate_left
          ·intro w'
           go_simp
           with_reducible rfl
          rotate_left
          ·simp only [Act.put, lA_, lZ_, lS_, i64_w, i32_w]
           rfl
          refine take_ (i := 1) (N := some 38) (v := ?_) (a' := ?_) #[true, true, true, false, true, false, true, false, false, false, false, false, false, false, false, false, false, false, false] rfl rfl (take_ofW HT_.out HW_.out (by kernel_rfl)) (fun _ _ _ h => h) (Or.inl ⟨by rfl, ?_⟩) hHeld ?_ ?_
          rotate_left
          ·rintro w' ⟨s0, s1, s2⟩
           go_simp
           with_reducible rfl
          rotate_left
          ·simp only [Act.put, lA_, lZ_, lS_, i64_w, i32_w]
           rfl
          refine pure_ (i := 3) (N := some 40) (v := ?_) (a' := ?_) #[true, true, true, true, true, false, true, false, false, false, false, false, false, false, false, false, false, false, false] rfl rfl (any_of HT_.out (by kernel_rfl)) (fun _ _ _ h => h) (Or.inl ⟨by rfl, ?_⟩) ?_ ?_
          rotate_left
          ·intro w'
           go_simp
           with_reducible rfl
          rotate_left
          ·simp only [Act.put, lA_, lZ_, lS_, i64_w, i32_w]
           rfl
          refine take_ (i := 5) (N := some 42) (v := ?_) (a' := ?_) #[true, true, true, true, true, true, true, false, false, false, false, false, false, false, false, false, false, false, false] rfl rfl (take_ofW HT_.out HW_.out (by kernel_rfl)) (fun _ _ _ h => h) (Or.inl ⟨by rfl, ?_⟩) hHeld ?_ ?_
          rotate_left
          ·rintro w' ⟨s0, s1, s2⟩
           go_simp
           with_reducible rfl
          rotate_left
          ·simp only [Act.put, lA_, lZ_, lS_, i64_w, i32_w]
           rfl
          refine pure_ (i := 7) (N := some 44) (v := ?_) (a' := ?_) #[true, true, true, true, true, true, true, true, false, false, false, false, false, false, false, false, false, false, false] rfl rfl (any_of HT_.out (by kernel_rfl)) (fun _ _ _ h => h) (Or.inl ⟨by rfl, ?_⟩) ?_ ?_
          rotate_left
          ·intro w'
           go_simp
           with_reducible rfl
          rotate_left
          ·simp only [Act.put, lA_, lZ_, lS_, i64_w, i32_w]
           rfl
          refine take_ (i := 8) (N := some 45) (v := ?_) (a' := ?_) #[true, true, true, true, true, true, true, true, true, false, false, false, false, false, false, false, false, false, false] rfl rfl (take_ofW HT_.out HW_.out (by kernel_rfl)) (fun _ _ _ h => h) (Or.inl ⟨by rfl, ?_⟩) hHeld ?_ ?_
          rotate_left
          ·rintro w' ⟨s0, s1, s2⟩
           go_simp
           with_reducible rfl
          rotate_left
          ·simp only [Act.put, lA_, lZ_, lS_, i64_w, i32_w]
           rfl
          refine one_ (i := 9) (N := some 46) #[true, true, true, true, true, true, true, true, true, true, false, false, false, false, false, false, false, false, false] rfl rfl (one_of HT_.out (by kernel_rfl)) (by decide) (fun K hK => ?_)
          refine goes_ Try.func26 (by kernel_rfl) rfl #[.slice (some ad591) y587.length co15, .int .i64 (rd t579 x6_1)] (by rfl) rfl rfl (by (try simp only [List.map_toArray, List.map_cons, List.map_nil]); first | done | rfl | (simp only [List.length_drop, List.length_take]; rfl)) ?_
          with_reducible refine (laws_lwHas.calls k1 _ _ y587 (rd t579 x6_1) true _ ?side1 ?side2 A22.out).mono ?_
          (case side1 => repeat (first | exact (by repeat (first | (with_reducible exact HR590.out) | (with_reducible refine Kd.C_alloc ?_ _) | (with_reducible refine Kd.C_drewN ?_ _) | (with_reducible refine Kd.C_drew ?_) | exact HR590.out)) | (with_reducible refine Kd.C_alloc ?_ _) | (with_reducible refine Kd.C_drewN ?_ _) | (with_reducible refine Kd.C_drew ?_)))
          (case side2 => exact HC590.out)
          rintro e w' ⟨rfl, ⟨nd, rfl⟩⟩
          refine ⟨_, rfl, ?_⟩
          refine hK.out _ _ ⟨(blk_cell BK582.out 0).trans rfl, (blk_cell BK582.out 1).trans rfl, hHeld.2.2⟩ (fun hHeld => ?_)
          clear hK K
          refine norm_ (a' := ?_) ?_ ?_
          rotate_left
          ·show Act.put _ (some 46) _ = _
           simp only [Act.put, lA_, lZ_, lS_, i64_w, i32_w]
           rfl
          refine pure_ (i := 10) (N := some 47) (v := ?_) (a' := ?_) #[true, true, true, true, true, true, true, true, true, true, true, false, false, false, false, false, false, false, false] rfl rfl (any_of HT_.out (by kernel_rfl)) (fun _ _ _ h => h) (Or.inl ⟨by rfl, ?_⟩) ?_ ?_
          rotate_left
          ·intro w'
           go_simp
           with_reducible rfl
          rotate_left
          ·simp only [Act.put, lA_, lZ_, lS_, i64_w, i32_w]
           rfl
          refine pure_ (i := 11) (N := some 48) (v := undef) (a' := ?_) #[true, true, true, true, true, true, true, true, true, true, true, true, false, false, false, false, false, false, false] rfl rfl (any_of HT_.out (by kernel_rfl)) (fun _ _ _ h => h) (Or.inr ⟨by rfl, rfl⟩) ?_ ?_
          rotate_left
          ·simp only [Act.put, lA_, lZ_, lS_, i64_w, i32_w]
           rfl
          refine pure_ (i := 12) (N := some 49) (v := undef) (a' := ?_) #[true, true, true, true, true, true, true, true, true, true, true, true, true, false, false, false, false, false, false] rfl rfl (any_of HT_.out (by kernel_rfl)) (fun _ _ _ h => h) (Or.inr ⟨by rfl, rfl⟩) ?_ ?_
          rotate_left
          ·simp only [Act.put, lA_, lZ_, lS_, i64_w, i32_w]
           rfl
          refine pure_ (i := 13) (N := some 50) (v := undef) (a' := ?_) #[true, true, true, true, true, true, true, true, true, true, true, true, true, true, false, false, false, false, false] rfl rfl (any_of HT_.out (by kernel_rfl)) (fun _ _ _ h => h) (Or.inr ⟨by rfl, rfl⟩) ?_ ?_
          rotate_left
          ·simp only [Act.put, lA_, lZ_, lS_, i64_w, i32_w]
           rfl
          refine pure_ (i := 14) (N := some 51) (v := undef) (a' := ?_) #[true, true, true, true, true, true, true, true, true, true, true, true, true, true, true, false, false, false, false] rfl rfl (any_of HT_.out (by kernel_rfl)) (fun _ _ _ h => h) (Or.inr ⟨by rfl, rfl⟩) ?_ ?_
          rotate_left
          ·simp only [Act.put, lA_, lZ_, lS_, i64_w, i32_w]
           rfl
          refine pure_ (i := 15) (N := some 52) (v := undef) (a' := ?_) #[true, true, true, true, true, true, true, true, true, true, true, true, true, true, true, true, false, false, false] rfl rfl (any_of HT_.out (by kernel_rfl)) (fun _ _ _ h => h) (Or.inr ⟨by rfl, rfl⟩) ?_ ?_
          rotate_left
          ·simp only [Act.put, lA_, lZ_, lS_, i64_w, i32_w]
           rfl
          refine pure_ (i := 16) (N := some 53) (v := undef) (a' := ?_) #[true, true, true, true, true, true, true, true, true, true, true, true, true, true, true, true, true, false, false] rfl rfl (any_of HT_.out (by kernel_rfl)) (fun _ _ _ h => h) (Or.inr ⟨by rfl, rfl⟩) ?_ ?_
          rotate_left
          ·simp only [Act.put, lA_, lZ_, lS_, i64_w, i32_w]
           rfl
          refine pure_ (i := 17) (N := some 54) (v := undef) (a' := ?_) #[true, true, true, true, true, true, true, true, true, true, true, true, true, true, true, true, true, true, false] rfl rfl (any_of HT_.out (by kernel_rfl)) (fun _ _ _ h => h) (Or.inr ⟨by rfl, rfl⟩) ?_ ?_
          rotate_left
          ·simp only [Act.put, lA_, lZ_, lS_, i64_w, i32_w]
           rfl
          refine pure_ (i := 18) (N := some 55) (v := ?_) (a' := ?_) #[true, true, true, true, true, true, true, true, true, true, true, true, true, true, true, true, true, true, true] rfl rfl (any_of HT_.out (by kernel_rfl)) (fun _ _ _ h => h) (Or.inl ⟨by rfl, ?_⟩) ?_ ?_
          rotate_left
          ·intro w'
           go_simp
           with_reducible rfl
          rotate_left
          ·simp only [Act.put, lA_, lZ_, lS_, i64_w, i32_w]
           rfl
          refine done_ (done_of HT_.out (by kernel_rfl)) ?_
          try go_wp2
          go_meet
          case rel => exact ⟨_, (true), (by first | rfl | (simp; done) | (simp [*]; done)), H', ⟨by have := HK1.out; first | omega | exact Nat.le_refl _⟩, ⟨by (with_reducible repeat (first | apply Kd.R_alloc | apply Kd.R_drewN | apply Kd.R_drew)); exact HO_4.out⟩, ⟨by (with_reducible repeat (first | apply Kd.R_alloc | apply Kd.R_drewN | apply Kd.R_drew)); exact HO_583001.out⟩, ⟨by (with_reducible repeat (first | refine blk_drewN ?_ _ | refine blk_drew ?_ | refine blk_alloc ?_ _)); exact BK577.out⟩, ⟨by (with_reducible repeat (first | refine blk_drewN ?_ _ | refine blk_drew ?_ | refine blk_alloc ?_ _)); exact BK582.out⟩, ⟨by repeat (first | (with_reducible first | exact HB.out | apply below_alloc | apply pw_below_drewN | apply below_drew1 | refine below_set ?_ GE577.out | refine below_set ?_ GE582.out) | exact HB.out)⟩⟩
         ·replace c23 := Bool.eq_false_iff.mpr c23
          subst c23
          rw [if_neg (show ¬ (false = true) by decide)] at H
          replace H := Option.bind_eq_some_iff.mp H
          obtain ⟨t594, A260, H⟩ := H
          try dsimp only at H
          have A26 := Aside0.mk A260
          clear A260
          have H' := Aside0.mk H
          clear H
          try go_wp2
          have n0_ := Aside0.mk (Kd.R_drew HO_4.out)
          have n1_ := Aside0.mk (Kd.R_drew HO_583001.out)
          have n2_ := Aside0.mk (blk_drew BK577.out)
          have n3_ := Aside0.mk (blk_drew BK582.out)
          have n4_ := Aside0.mk (below_drew1 HB.out)
          clear HO_4
          clear HO_583001
          clear BK577
          clear BK582
          clear HB
          have HO_4 := n0_
          have HO_583001 := n1_
          have BK577 := n2_
          have BK582 := n3_
          have HB := n4_
          clear n0_ n1_ n2_ n3_ n4_
          have q28 : (x6_1 : Int) ≤ ((t579.length : Int) : Int) := of_decide_eq_true (by first | (with_reducible assumption) | assumption)
          obtain ⟨i028, hi028, _, hsz28, _⟩ := info_parts info2
          have hroom28 : t579.length ≤ co15 := (Kd.R_reads' HO_583001.out).2.1
          have hC28 : Kd.C (Kd.int .i64) _ Ao15 t579.length t579 := (Kd.R_reads' HO_583001.out).2.2
          have hcut28 := cut_to (P := Try.prog) 44 2 .i64 Try.underlying44 hi028 Ao15 t579.length co15 x6_1 (of_decide_eq_true (by first | (with_reducible assumption) | assumption)) q28 hroom28
          have hr28 := Kd.C_take (m := (x6_1 : Int).toNat) hC28 (by omega)
          have hy28 : y587.length = (x6_1 : Int).toNat := (by rw [Ny587.out, List.length_take]; omega)
          rw [← Ny587.out] at hr28
          rw [← hy28] at hcut28
          have HR590 := Aside0.mk hr28
          have HC590 := Aside0.mk (show y587.length ≤ co15 from by omega)
          clear hr28 hC28 hroom28 hi028 hsz28
          have KY28 := Aside0.mk hy28
          clear hy28
          have KL28 := Aside0.mk (show (x6_1 : Int).toNat ≤ t579.length from by omega)
          replace q28 := eq_true q28
          have p591 : 0 ≤ (x6_1 : Int) := of_decide_eq_true (by first | (with_reducible assumption) | assumption)
          have q591 : x6_1 < (t579.length : Int) := of_decide_eq_true (by first | (with_reducible assumption) | assumption)
          obtain ⟨ad591, e591, hx591_0⟩ := Kd.at_int (Kd.R_reads' HO_583001.out).2.2 x6_1 p591 q591
          cases e591
          replace p591 := eq_true p591
          replace q591 := eq_true q591
          have p593 : 0 ≤ (x6_1 : Int) := of_decide_eq_true (by first | (with_reducible assumption) | assumption)
          have q593 : x6_1 < (t579.length : Int) := of_decide_eq_true (by first | (with_reducible assumption) | assumption)
          obtain ⟨ad593, e593, hx593_0⟩ := Kd.at_int (Kd.R_reads' HO_583001.out).2.2 x6_1 p593 q593
          obtain rfl : ad591 = ad593 := (by injection e593)
          replace p593 := eq_true p593
          replace q593 := eq_true q593
          refine start_ (n := 19) (S := fun w' => w'.cell? ⟨gb582, 0, none⟩ = some (.int .i64 t578) ∧ w'.cell? ⟨gb582, 1, none⟩ = some (.slice (some ad591) t579.length co15) ∧ w'.cell? ⟨gb577, 0, none⟩ = some (.int .i64 t572) ∧ w'.cell? ⟨gb577, 1, none⟩ = some (.int .i64 t573) ∧ w'.cell? (ad591.add (x6_1).toNat) = some (.int .i64 (rd t579 x6_1)) ∧ w'.cell? (ad591.add (x6_1).toNat) = some (.int .i64 (rd t579 x6_1))) (ds := []) #[false, false, false, false, false, false, false, false, false, false, false, false, false, false, false, false, false, false, false] (by kernel_rfl) rfl rfl ⟨(blk_cell BK582.out 0).trans rfl, (blk_cell BK582.out 1).trans rfl, (blk_cell BK577.out 0).trans rfl, (blk_cell BK577.out 1).trans rfl, hx591_0, hx593_0⟩ (fun hHeld => ?_); refine with_tabW laws_FnWindows.tab10 laws_FnWindows.bits10 (fun HT_ HW_ => ?_)
          generalize wr.drew = w27 at HO_4 HO_583001 BK577 BK582 HB HR590 hx591_0 hx593_0 hHeld ⊢
          refine pure_ (i := 0) (N := some 37) (v := ?_) (a' := ?_) #[true, false, false, false, false, false, false, false, false, false, false, false, false, false, false, false, false, false, false] rfl rfl (any_of HT_.out (by kernel_rfl)) (fun _ _ _ h => h) (Or.inl ⟨by rfl, ?_⟩) ?_ ?_
          rotate_left
          ·intro w'
           go_simp
           with_reducible rfl
          rotate_left
          ·simp only [Act.put, lA_, lZ_, lS_, i64_w, i32_w]
           rfl
          refine pure_ (i := 2) (N := some 39) (v := ?_) (a' := ?_) #[true, false, true, false, false, false, false, false, false, false, false, false, false, false, false, false, false, false, false] rfl rfl (any_of HT_.out (by kernel_rfl)) (fun _ _ _ h => h) (Or.inl ⟨by rfl, ?_⟩) ?_ ?_
          rotate_left
          ·intro w'
           go_simp
           with_reducible rfl
          rotate_left
          ·simp only [Act.put, lA_, lZ_, lS_, i64_w, i32_w]
           rfl
          refine pure_ (i := 4) (N := some 41) (v := ?_) (a' := ?_) #[true, false, true, false, true, false, false, false, false, false, false, false, false, false, false, false, false, false, false] rfl rfl (any_of HT_.out (by kernel_rfl)) (fun _ _ _ h => h) (Or.inl ⟨by rfl, ?_⟩) ?_ ?_
          rotate_left
          ·intro w'
           go_simp
           with_reducible rfl
          rotate_left
          ·simp only [Act.put, lA_, lZ_, lS_, i64_w, i32_w]
           rfl
          refine pure_ (i := 6) (N := some 43) (v := ?_) (a' := ?_) #[true, false, true, false, true, false, true, false, false, false, false, false, false, false, false, false, false, false, false] rfl rfl (any_of HT_.out (by kernel_rfl)) (fun _ _ _ h => h) (Or.inl ⟨by rfl, ?_⟩) ?_ ?_
          rotate_left
          ·intro w'
           go_simp
           with_reducible rfl
          rotate_left
          ·simp only [Act.put, lA_, lZ_, lS_, i64_w, i32_w]
           rfl
          refine take_ (i := 1) (N := some 38) (v := ?_) (a' := ?_) #[true, true, true, false, true, false, true, false, false, false, false, false, false, false, false, false, false, false, false] rfl rfl (take_ofW HT_.out HW_.out (by kernel_rfl)) (fun _ _ _ h => h) (Or.inl ⟨by rfl, ?_⟩) hHeld ?_ ?_
          rotate_left
          ·rintro w' ⟨s0, s1, s2, s3, s4, s5⟩
           go_simp
           with_reducible rfl
          rotate_left
          ·simp only [Act.put, lA_, lZ_, lS_, i64_w, i32_w]
           rfl
          refine pure_ (i := 3) (N := some 40) (v := ?_) (a' := ?_) #[true, true, true, true, true, false, true, false, false, false, false, false, false, false, false, false, false, false, false] rfl rfl (any_of HT_.out (by kernel_rfl)) (fun _ _ _ h => h) (Or.inl ⟨by rfl, ?_⟩) ?_ ?_
          rotate_left
          ·intro w'
           go_simp
           with_reducible rfl
          rotate_left
          ·simp only [Act.put, lA_, lZ_, lS_, i64_w, i32_w]
           rfl
          refine take_ (i := 5) (N := some 42) (v := ?_) (a' := ?_) #[true, true, true, true, true, true, true, false, false, false, false, false, false, false, false, false, false, false, false] rfl rfl (take_ofW HT_.out HW_.out (by kernel_rfl)) (fun _ _ _ h => h) (Or.inl ⟨by rfl, ?_⟩) hHeld ?_ ?_
          rotate_left
          ·rintro w' ⟨s0, s1, s2, s3, s4, s5⟩
           go_simp
           with_reducible rfl
          rotate_left
          ·simp only [Act.put, lA_, lZ_, lS_, i64_w, i32_w]
           rfl
          refine pure_ (i := 7) (N := some 44) (v := ?_) (a' := ?_) #[true, true, true, true, true, true, true, true, false, false, false, false, false, false, false, false, false, false, false] rfl rfl (any_of HT_.out (by kernel_rfl)) (fun _ _ _ h => h) (Or.inl ⟨by rfl, ?_⟩) ?_ ?_
          rotate_left
          ·intro w'
           go_simp
           with_reducible rfl
          rotate_left
          ·simp only [Act.put, lA_, lZ_, lS_, i64_w, i32_w]
           rfl
          refine take_ (i := 8) (N := some 45) (v := ?_) (a' := ?_) #[true, true, true, true, true, true, true, true, true, false, false, false, false, false, false, false, false, false, false] rfl rfl (take_ofW HT_.out HW_.out (by kernel_rfl)) (fun _ _ _ h => h) (Or.inl ⟨by rfl, ?_⟩) hHeld ?_ ?_
          rotate_left
          ·rintro w' ⟨s0, s1, s2, s3, s4, s5⟩
           go_simp
           with_reducible rfl
          rotate_left
          ·simp only [Act.put, lA_, lZ_, lS_, i64_w, i32_w]
           rfl
          refine one_ (i := 9) (N := some 46) #[true, true, true, true, true, true, true, true, true, true, false, false, false, false, false, false, false, false, false] rfl rfl (one_of HT_.out (by kernel_rfl)) (by decide) (fun K hK => ?_)
          refine goes_ Try.func26 (by kernel_rfl) rfl #[.slice (some ad591) y587.length co15, .int .i64 (rd t579 x6_1)] (by rfl) rfl rfl (by (try simp only [List.map_toArray, List.map_cons, List.map_nil]); first | done | rfl | (simp only [List.length_drop, List.length_take]; rfl)) ?_
          with_reducible refine (laws_lwHas.calls k1 _ _ y587 (rd t579 x6_1) false _ ?side1 ?side2 A22.out).mono ?_
          (case side1 => repeat (first | exact (by repeat (first | (with_reducible exact HR590.out) | (with_reducible refine Kd.C_alloc ?_ _) | (with_reducible refine Kd.C_drewN ?_ _) | (with_reducible refine Kd.C_drew ?_) | exact HR590.out)) | (with_reducible refine Kd.C_alloc ?_ _) | (with_reducible refine Kd.C_drewN ?_ _) | (with_reducible refine Kd.C_drew ?_)))
          (case side2 => exact HC590.out)
          rintro e w' ⟨rfl, ⟨nd, rfl⟩⟩
          refine ⟨_, rfl, ?_⟩
          refine hK.out _ _ ⟨(blk_cell BK582.out 0).trans rfl, (blk_cell BK582.out 1).trans rfl, (blk_cell BK577.out 0).trans rfl, (blk_cell BK577.out 1).trans rfl, hHeld.2.2.2.2.1, hHeld.2.2.2.2.2⟩ (fun hHeld => ?_)
          clear hK K
          refine norm_ (a' := ?_) ?_ ?_
          rotate_left
          ·show Act.put _ (some 46) _ = _
           simp only [Act.put, lA_, lZ_, lS_, i64_w, i32_w]
           rfl
          refine pure_ (i := 10) (N := some 47) (v := ?_) (a' := ?_) #[true, true, true, true, true, true, true, true, true, true, true, false, false, false, false, false, false, false, false] rfl rfl (any_of HT_.out (by kernel_rfl)) (fun _ _ _ h => h) (Or.inl ⟨by rfl, ?_⟩) ?_ ?_
          rotate_left
          ·intro w'
           go_simp
           with_reducible rfl
          rotate_left
          ·simp only [Act.put, lA_, lZ_, lS_, i64_w, i32_w]
           rfl
          refine pure_ (i := 12) (N := some 49) (v := ?_) (a' := ?_) #[true, true, true, true, true, true, true, true, true, true, true, false, true, false, false, false, false, false, false] rfl rfl (any_of HT_.out (by kernel_rfl)) (fun _ _ _ h => h) (Or.inl ⟨by rfl, ?_⟩) ?_ ?_
          rotate_left
          ·intro w'
           go_simp
           with_reducible rfl
          rotate_left
          ·simp only [Act.put, lA_, lZ_, lS_, i64_w, i32_w]
           rfl
          refine pure_ (i := 14) (N := some 51) (v := ?_) (a' := ?_) #[true, true, true, true, true, true, true, true, true, true, true, false, true, false, true, false, false, false, false] rfl rfl (any_of HT_.out (by kernel_rfl)) (fun _ _ _ h => h) (Or.inl ⟨by rfl, ?_⟩) ?_ ?_
          rotate_left
          ·intro w'
           go_simp
           with_reducible rfl
          rotate_left
          ·simp only [Act.put, lA_, lZ_, lS_, i64_w, i32_w]
           rfl
          refine take_ (i := 11) (N := some 48) (v := ?_) (a' := ?_) #[true, true, true, true, true, true, true, true, true, true, true, true, true, false, true, false, false, false, false] rfl rfl (take_ofW HT_.out HW_.out (by kernel_rfl)) (fun _ _ _ h => h) (Or.inl ⟨by rfl, ?_⟩) hHeld ?_ ?_
          rotate_left
          ·rintro w' ⟨s0, s1, s2, s3, s4, s5⟩
           go_simp
           with_reducible rfl
          rotate_left
          ·simp only [Act.put, lA_, lZ_, lS_, i64_w, i32_w]
           rfl
          refine take_ (i := 13) (N := some 50) (v := ?_) (a' := ?_) #[true, true, true, true, true, true, true, true, true, true, true, true, true, true, true, false, false, false, false] rfl rfl (take_ofW HT_.out HW_.out (by kernel_rfl)) (fun _ _ _ h => h) (Or.inl ⟨by rfl, ?_⟩) hHeld ?_ ?_
          rotate_left
          ·rintro w' ⟨s0, s1, s2, s3, s4, s5⟩
           go_simp
           with_reducible rfl
          rotate_left
          ·simp only [Act.put, lA_, lZ_, lS_, i64_w, i32_w]
           rfl
          refine pure_ (i := 15) (N := some 52) (v := ?_) (a' := ?_) #[true, true, true, true, true, true, true, true, true, true, true, true, true, true, true, true, false, false, false] rfl rfl (any_of HT_.out (by kernel_rfl)) (fun _ _ _ h => h) (Or.inl ⟨by rfl, ?_⟩) ?_ ?_
          rotate_left
          ·intro w'
           go_simp
           with_reducible rfl
          rotate_left
          ·simp only [Act.put, lA_, lZ_, lS_, i64_w, i32_w]
           rfl
          refine take_ (i := 16) (N := some 53) (v := ?_) (a' := ?_) #[true, true, true, true, true, true, true, true, true, true, true, true, true, true, true, true, true, false, false] rfl rfl (take_ofW HT_.out HW_.out (by kernel_rfl)) (fun _ _ _ h => h) (Or.inl ⟨by rfl, ?_⟩) hHeld ?_ ?_
          rotate_left
          ·rintro w' ⟨s0, s1, s2, s3, s4, s5⟩
           go_simp
           with_reducible rfl
          rotate_left
          ·simp only [Act.put, lA_, lZ_, lS_, i64_w, i32_w]
           rfl
          refine one_ (i := 17) (N := some 54) #[true, true, true, true, true, true, true, true, true, true, true, true, true, true, true, true, true, true, false] rfl rfl (one_of HT_.out (by kernel_rfl)) (by decide) (fun K hK => ?_)
          refine goes_ Try.func27 (by kernel_rfl) rfl #[.agg #[.int .i64 t572, .int .i64 t573], .int .i64 (rd t579 x6_1)] (by rfl) rfl rfl (by (try simp only [List.map_toArray, List.map_cons, List.map_nil]); first | done | rfl | (simp only [List.length_drop, List.length_take]; rfl)) ?_
          with_reducible refine (impl_SeenIn.calls k1 t572 t573 (rd t579 x6_1) t594 _ A26.out).mono ?_
          rintro e w29 ⟨rfl, hb⟩
          have HS4_ := (hb.cell (World.block_lt_of_cell? _ _ (hHeld.2.2.2.2.1))).trans (hHeld.2.2.2.2.1)
          have HS5_ := (hb.cell (World.block_lt_of_cell? _ _ (hHeld.2.2.2.2.2))).trans (hHeld.2.2.2.2.2)
          refine ⟨_, rfl, ?_⟩
          have n0_ := Aside0.mk (Kd.R_below (by (with_reducible repeat (first | apply Kd.R_alloc | apply Kd.R_drewN | apply Kd.R_drew)); exact HO_4.out) hb)
          have n1_ := Aside0.mk (Kd.R_below (by (with_reducible repeat (first | apply Kd.R_alloc | apply Kd.R_drewN | apply Kd.R_drew)); exact HO_583001.out) hb)
          have n2_ := Aside0.mk (blk_below (g := gb577) (o := .cells #[.int .i64 t572, .int .i64 t573] 34 (0, 0)) (by (with_reducible repeat (first | refine blk_drewN ?_ _ | refine blk_drew ?_ | refine blk_alloc ?_ _)); exact BK577.out) hb)
          have n3_ := Aside0.mk (blk_below (g := gb582) (o := .cells #[.int .i64 t578, .slice (some ad591) t579.length co15] 48 (0, 0)) (by (with_reducible repeat (first | refine blk_drewN ?_ _ | refine blk_drew ?_ | refine blk_alloc ?_ _)); exact BK582.out) hb)
          have n4_ := Aside0.mk (Kd.C_below (by repeat (first | (with_reducible exact HR590.out) | (with_reducible refine Kd.C_alloc ?_ _) | (with_reducible refine Kd.C_drewN ?_ _) | (with_reducible refine Kd.C_drew ?_) | exact HR590.out)) hb)
          have n5_ := Aside0.mk (below_step (by repeat (first | (with_reducible first | exact HB.out | apply below_alloc | apply pw_below_drewN | apply below_drew1 | refine below_set ?_ GE577.out | refine below_set ?_ GE582.out) | exact HB.out)) hb)
          clear HO_4
          clear HO_583001
          clear BK577
          clear BK582
          clear HR590
          clear HB
          have HO_4 := n0_
          have HO_583001 := n1_
          have BK577 := n2_
          have BK582 := n3_
          have HR590 := n4_
          have HB := n5_
          clear n0_ n1_ n2_ n3_ n4_ n5_
          (try clear hb)
          (try clear hb2)
          (try clear hk)
          (try clear hi)
          refine hK.out _ _ ⟨(blk_cell BK582.out 0).trans rfl, (blk_cell BK582.out 1).trans rfl, (blk_cell BK577.out 0).trans rfl, (blk_cell BK577.out 1).trans rfl, HS4_, HS5_⟩ (fun hHeld => ?_)
          clear hK K
          refine norm_ (a' := ?_) ?_ ?_
          rotate_left
          ·show Act.put _ (some 54) _ = _
           simp only [Act.put, lA_, lZ_, lS_, i64_w, i32_w]
           rfl
          refine pure_ (i := 18) (N := some 55) (v := ?_) (a' := ?_) #[true, true, true, true, true, true, true, true, true, true, true, true, true, true, true, true, true, true, true] rfl rfl (any_of HT_.out (by kernel_rfl)) (fun _ _ _ h => h) (Or.inl ⟨by rfl, ?_⟩) ?_ ?_
          rotate_left
          ·intro w'
           go_simp
           with_reducible rfl
          rotate_left
          ·simp only [Act.put, lA_, lZ_, lS_, i64_w, i32_w]
           rfl
          refine done_ (done_of HT_.out (by kernel_rfl)) ?_
          try go_wp2
          go_meet
          case rel => exact ⟨_, (t594), (by first | rfl | (simp; done) | (simp [*]; done)), H', ⟨by have := HK1.out; first | omega | exact Nat.le_refl _⟩, ⟨by (with_reducible repeat (first | apply Kd.R_alloc | apply Kd.R_drewN | apply Kd.R_drew)); exact HO_4.out⟩, ⟨by (with_reducible repeat (first | apply Kd.R_alloc | apply Kd.R_drewN | apply Kd.R_drew)); exact HO_583001.out⟩, ⟨by (with_reducible repeat (first | refine blk_drewN ?_ _ | refine blk_drew ?_ | refine blk_alloc ?_ _)); exact BK577.out⟩, ⟨by (with_reducible repeat (first | refine blk_drewN ?_ _ | refine blk_drew ?_ | refine blk_alloc ?_ _)); exact BK582.out⟩, ⟨by repeat (first | (with_reducible first | exact HB.out | apply below_alloc | apply pw_below_drewN | apply below_drew1 | refine below_set ?_ GE577.out | refine below_set ?_ GE582.out) | exact HB.out)⟩⟩
        ·rw [if_neg c21] at H
         exact absurd H (by simp)
       ·rw [if_neg c20] at H
        exact absurd H (by simp)
      case rest =>
       clear HC17
       try clear c1
       try clear c2
       try clear p2
       try clear q2
       try clear c3
       try clear c5
       try clear p5
       try clear q5
       try clear hx5
       try clear c6
       try clear c6b0
       try clear c6b1
       try clear c9
       try clear c13
       try clear c16
       try clear c16b0
       try clear c18
       try clear c20
       try clear c20b0
       try clear c20b1
       try clear c21
       try clear c21b0
       try clear c21b1
       try clear c23
       try clear c24
       try clear q25
       try clear c26
       try clear c27
       try clear q28
       try clear hcz14_0
       try clear hcz14_1
       try clear hcz19_0
       try clear hcz19_1
       try clear hcz9_0
       try clear hcz9_1
       try clear hfz14_0
       try clear hfz14_1
       try clear hfz19_0
       try clear hfz19_1
       try clear hfz9_0
       try clear hfz9_1
       try clear hx591_0
       try clear hx593_0
       try clear p2
       try clear p591
       try clear p593
       try clear q25
       try clear q28
       try clear q591
       try clear q593
       obtain ⟨kq, x55_16, rfl, HA, HJ16, HO_4, HO_583001, BK577, BK582, HB⟩ := hcut
       cases kq with
       | zero => exact absurd HA.out (by simp [laws_FnWindows.j1])
       | succ kj16 =>
        have H := HA.out
        clear HA
        simp only [laws_FnWindows.j1] at H
        by_cases c30 : x55_16 = true
        ·subst c30
         rw [if_pos rfl] at H
         exact absurd (Option.some.inj H) (by decide)
        ·replace c30 := Bool.eq_false_iff.mpr c30
         subst c30
         rw [if_neg (show ¬ (false = true) by decide)] at H
         by_cases c31 : 0 ≤ x6_1
         ·rw [if_pos c31] at H
          have c31b0 : decide (0 ≤ x6_1) = true := decide_eq_true c31
          clear c31
          by_cases c32 : x6_1 < (t579.length : Int)
          ·rw [if_pos c32] at H
           have c32b0 : decide (x6_1 < (t579.length : Int)) = true := decide_eq_true c32
           clear c32
           replace H := Option.bind_eq_some_iff.mp H
           obtain ⟨⟨t596, t597, t598, t599⟩, A330, H⟩ := H
           try dsimp only at H
           have A33 := Aside0.mk A330
           clear A330
           by_cases c34 : t596 = 0
           ·rw [if_pos c34] at H
            have c34b0 : (t596 == 0) = true := beq_iff_eq.mpr c34
            have c34b1 : (t596 != 0) = false := bne_eq_false_iff_eq.mpr c34
            clear c34
            replace H := Option.bind_eq_some_iff.mp H
            obtain ⟨t602, A350, H⟩ := H
            try dsimp only at H
            have A35 := Aside0.mk A350
            clear A350
            by_cases c36 : t602 = true
            ·subst c36
             rw [if_pos rfl] at H
             replace H := Option.bind_eq_some_iff.mp H
             obtain ⟨t603, A370, H⟩ := H
             try dsimp only at H
             have A37 := Aside0.mk A370
             clear A370
             by_cases c38 : t603 = 0
             ·rw [if_pos c38] at H
              have c38b0 : (t603 == 0) = true := beq_iff_eq.mpr c38
              have c38b1 : (t603 != 0) = false := bne_eq_false_iff_eq.mpr c38
              clear c38
              replace H := Option.bind_eq_some_iff.mp H
              obtain ⟨⟨t605, t606, t607, t608⟩, A390, H⟩ := H
              try dsimp only at H
              have A39 := Aside0.mk A390
              clear A390
              by_cases c40 : t605 = 0
              ·rw [if_pos c40] at H
               have c40b0 : (t605 == 0) = true := beq_iff_eq.mpr c40
               have c40b1 : (t605 != 0) = false := bne_eq_false_iff_eq.mpr c40
               clear c40
               exact absurd (Option.some.inj H) (by decide)
              ·rw [if_neg c40] at H
               have c40b0 : (t605 == 0) = false := beq_eq_false_iff_ne.mpr c40
               have c40b1 : (t605 != 0) = true := bne_iff_ne.mpr c40
               by_cases c41 : t598 < t572
               ·rw [if_pos c41] at H
                have c41b0 : decide (t598 < t572) = true := decide_eq_true c41
                clear c41
                exact absurd (Option.some.inj H) (by decide)
               ·rw [if_neg c41] at H
                have c41b0 : decide (t598 < t572) = false := decide_eq_false c41
                clear c41
                have H' := Aside0.mk H
                clear H
                try go_wp2
                have n0_ := Aside0.mk (Kd.R_drew HO_4.out)
                have n1_ := Aside0.mk (Kd.R_drew HO_583001.out)
                have n2_ := Aside0.mk (blk_drew BK577.out)
                have n3_ := Aside0.mk (blk_drew BK582.out)
                have n4_ := Aside0.mk (below_drew1 HB.out)
                clear HO_4
                clear HO_583001
                clear BK577
                clear BK582
                clear HB
                have HO_4 := n0_
                have HO_583001 := n1_
                have BK577 := n2_
                have BK582 := n3_
                have HB := n4_
                clear n0_ n1_ n2_ n3_ n4_
                have p595 : 0 ≤ (x6_1 : Int) := of_decide_eq_true (by first | (with_reducible assumption) | assumption)
                have q595 : x6_1 < (t579.length : Int) := of_decide_eq_true (by first | (with_reducible assumption) | assumption)
                obtain ⟨ad595, e595, hx595_0⟩ := Kd.at_int (Kd.R_reads' HO_583001.out).2.2 x6_1 p595 q595
                cases e595
                replace p595 := eq_true p595
                replace q595 := eq_true q595
                refine start_ (n := 9) (S := fun w' => w'.cell? ⟨gb577, 0, none⟩ = some (.int .i64 t572) ∧ w'.cell? ⟨gb577, 1, none⟩ = some (.int .i64 t573) ∧ w'.cell? ⟨gb582, 0, none⟩ = some (.int .i64 t578) ∧ w'.cell? ⟨gb582, 1, none⟩ = some (.slice (some ad595) t579.length co15) ∧ w'.cell? (ad595.add (x6_1).toNat) = some (.int .i64 (rd t579 x6_1))) (ds := []) #[false, false, false, false, false, false, false, false, false] (by kernel_rfl) rfl rfl ⟨(blk_cell BK577.out 0).trans rfl, (blk_cell BK577.out 1).trans rfl, (blk_cell BK582.out 0).trans rfl, (blk_cell BK582.out 1).trans rfl, hx595_0⟩ (fun hHeld => ?_); refine with_tabW laws_FnWindows.tab12 laws_FnWindows.bits12 (fun HT_ HW_ => ?_)
                generalize wc.drew = w42 at HO_4 HO_583001 BK577 BK582 HB hx595_0 hHeld ⊢
                refine pure_ (i := 1) (N := some 57) (v := ?_) (a' := ?_) #[false, true, false, false, false, false, false, false, false] rfl rfl (any_of HT_.out (by kernel_rfl)) (fun _ _ _ h => h) (Or.inl ⟨by rfl, ?_⟩) ?_ ?_
                rotate_left
                ·intro w'
                 go_simp
                 with_reducible rfl
                rotate_left
                ·simp only [Act.put, lA_, lZ_, lS_, i64_w, i32_w]
                 rfl
                refine pure_ (i := 3) (N := some 59) (v := ?_) (a' := ?_) #[false, true, false, true, false, false, false, false, false] rfl rfl (any_of HT_.out (by kernel_rfl)) (fun _ _ _ h => h) (Or.inl ⟨by rfl, ?_⟩) ?_ ?_
                rotate_left
                ·intro w'
                 go_simp
                 with_reducible rfl
                rotate_left
                ·simp only [Act.put, lA_, lZ_, lS_, i64_w, i32_w]
                 rfl
                refine take_ (i := 0) (N := some 56) (v := ?_) (a' := ?_) #[true, true, false, true, false, false, false, false, false] rfl rfl (take_ofW HT_.out HW_.out (by kernel_rfl)) (fun _ _ _ h => h) (Or.inl ⟨by rfl, ?_⟩) hHeld ?_ ?_
                rotate_left
                ·rintro w' ⟨s0, s1, s2, s3, s4⟩
                 go_simp
                 with_reducible rfl
                rotate_left
                ·simp only [Act.put, lA_, lZ_, lS_, i64_w, i32_w]
                 rfl
                refine take_ (i := 2) (N := some 58) (v := ?_) (a' := ?_) #[true, true, true, true, false, false, false, false, false] rfl rfl (take_ofW HT_.out HW_.out (by kernel_rfl)) (fun _ _ _ h => h) (Or.inl ⟨by rfl, ?_⟩) hHeld ?_ ?_
                rotate_left
                ·rintro w' ⟨s0, s1, s2, s3, s4⟩
                 go_simp
                 with_reducible rfl
                rotate_left
                ·simp only [Act.put, lA_, lZ_, lS_, i64_w, i32_w]
                 rfl
                refine pure_ (i := 4) (N := some 60) (v := ?_) (a' := ?_) #[true, true, true, true, true, false, false, false, false] rfl rfl (any_of HT_.out (by kernel_rfl)) (fun _ _ _ h => h) (Or.inl ⟨by rfl, ?_⟩) ?_ ?_
                rotate_left
                ·intro w'
                 go_simp
                 with_reducible rfl
                rotate_left
                ·simp only [Act.put, lA_, lZ_, lS_, i64_w, i32_w]
                 rfl
                refine take_ (i := 5) (N := some 61) (v := ?_) (a' := ?_) #[true, true, true, true, true, true, false, false, false] rfl rfl (take_ofW HT_.out HW_.out (by kernel_rfl)) (fun _ _ _ h => h) (Or.inl ⟨by rfl, ?_⟩) hHeld ?_ ?_
                rotate_left
                ·rintro w' ⟨s0, s1, s2, s3, s4⟩
                 go_simp
                 with_reducible rfl
                rotate_left
                ·simp only [Act.put, lA_, lZ_, lS_, i64_w, i32_w]
                 rfl
                refine join_ (σ := Nat) 1 #[true, true, true, true, true, true, true, true, false] (fun s_ => [(62, .agg #[.int .i64 t596, .int .i64 t597, .int .i64 t598, .int .i64 t599]), (7, .pointer (some ⟨s_, 0, none⟩))]) (fun s_ w' => (w'.cell? ⟨gb577, 0, none⟩ = some (.int .i64 t572) ∧ w'.cell? ⟨gb577, 1, none⟩ = some (.int .i64 t573) ∧ w'.cell? ⟨gb582, 0, none⟩ = some (.int .i64 t578) ∧ w'.cell? ⟨gb582, 1, none⟩ = some (.slice (some ad595) t579.length co15) ∧ w'.cell? (ad595.add (x6_1).toNat) = some (.int .i64 (rd t579 x6_1))) ∧ (Kd.R (Kd.int .i64) 2 w' w.heap.size (fun k_ => some k_ ≠ (.slice (some ad595) t579.length co15 : Value).ownBlock) (.slice Ao10 t574.length co10) t574) ∧ (Kd.R (Kd.int .i64) 2 w' w.heap.size (fun k_ => some k_ ≠ (.slice Ao10 t574.length co10 : Value).ownBlock) (.slice (some ad595) t579.length co15) t579) ∧ (w'.heap[gb577]? = some (.cells #[.int .i64 t572, .int .i64 t573] 34 (0, 0))) ∧ (w'.heap[gb582]? = some (.cells #[.int .i64 t578, .slice (some ad595) t579.length co15] 48 (0, 0))) ∧ (w'.heap[s_]? = some (.cells #[.int .i64 0, .int .i64 0, .int .i64 0, .int .i64 0] 39 (0, 0))) ∧ (w.heap.size ≤ s_) ∧ (w.heap.size ≤ s_) ∧ (gb577 ≠ s_) ∧ (s_ ≠ gb577) ∧ (gb582 ≠ s_) ∧ (s_ ≠ gb582) ∧ (Below w.heap.size w w')) ?_ ?_
                rotate_left
                ·intro hCont
                 refine two_ (i := 6) (j := 7) (Ni := some 62) (Nj := some 7) #[true, true, true, true, true, true, true, false, false] #[true, true, true, true, true, true, false, true, false] rfl rfl rfl rfl (two_of HT_.out (by kernel_rfl)) (by decide) (by decide) (fun K hK => ?_) (fun K hK => ?_)
                 ·skip
                  refine goes_ Try.func18 (by kernel_rfl) rfl #[.agg #[.int .i64 t572, .int .i64 t573], .int .i64 (rd t579 x6_1)] (by rfl) rfl rfl (by (try simp only [List.map_toArray, List.map_cons, List.map_nil]); first | done | rfl | (simp only [List.length_drop, List.length_take]; rfl)) ?_
                  with_reducible refine (impl_TakeSeq.calls kj16 t572 t573 (rd t579 x6_1) t596 t597 t598 t599 _ A33.out).mono ?_
                  rintro e w43 ⟨rfl, hb⟩
                  have HS4_ := (hb.cell (World.block_lt_of_cell? _ _ (hHeld.2.2.2.2))).trans (hHeld.2.2.2.2)
                  refine ⟨_, rfl, ?_⟩
                  have n0_ := Aside0.mk (Kd.R_below (by (with_reducible repeat (first | apply Kd.R_alloc | apply Kd.R_drewN | apply Kd.R_drew)); exact HO_4.out) hb)
                  have n1_ := Aside0.mk (Kd.R_below (by (with_reducible repeat (first | apply Kd.R_alloc | apply Kd.R_drewN | apply Kd.R_drew)); exact HO_583001.out) hb)
                  have n2_ := Aside0.mk (blk_below (g := gb577) (o := .cells #[.int .i64 t572, .int .i64 t573] 34 (0, 0)) (by (with_reducible repeat (first | refine blk_drewN ?_ _ | refine blk_drew ?_ | refine blk_alloc ?_ _)); exact BK577.out) hb)
                  have n3_ := Aside0.mk (blk_below (g := gb582) (o := .cells #[.int .i64 t578, .slice (some ad595) t579.length co15] 48 (0, 0)) (by (with_reducible repeat (first | refine blk_drewN ?_ _ | refine blk_drew ?_ | refine blk_alloc ?_ _)); exact BK582.out) hb)
                  have n4_ := Aside0.mk (below_step (by repeat (first | (with_reducible first | exact HB.out | apply below_alloc | apply pw_below_drewN | apply below_drew1 | refine below_set ?_ GE577.out | refine below_set ?_ GE582.out) | exact HB.out)) hb)
                  clear HO_4
                  clear HO_583001
                  clear BK577
                  clear BK582
                  clear HB
                  have HO_4 := n0_
                  have HO_583001 := n1_
                  have BK577 := n2_
                  have BK582 := n3_
                  have HB := n4_
                  clear n0_ n1_ n2_ n3_ n4_
                  (try clear hb)
                  (try clear hb2)
                  (try clear hk)
                  (try clear hi)
                  refine hK.out _ _ ⟨(blk_cell BK577.out 0).trans rfl, (blk_cell BK577.out 1).trans rfl, (blk_cell BK582.out 0).trans rfl, (blk_cell BK582.out 1).trans rfl, HS4_⟩ (fun hHeld => ?_)
                  clear hK K
                  refine norm_ (a' := ?_) ?_ ?_
                  rotate_left
                  ·show Act.put _ (some 62) _ = _
                   simp only [Act.put, lA_, lZ_, lS_, i64_w, i32_w]
                   rfl
                  refine one_ (i := 7) (N := some 7) #[true, true, true, true, true, true, true, true, false] rfl rfl (one_of HT_.out (by kernel_rfl)) (by decide) (fun K hK => ?_)
                  refine box_step ?hg (N := 7) ?hd (cs := #[.int .i64 0, .int .i64 0, .int .i64 0, .int .i64 0]) (t := 39) ?hr ?_; (case hd => rfl); (case hg => rfl); (case hr => first | (go_simp; done) | (go_simp; rfl))
                  intro gb600 hg w44 hbox hb
                  have HS4_ := (hb.cell (World.block_lt_of_cell? _ _ (hHeld.2.2.2.2))).trans (hHeld.2.2.2.2)
                  have n0_ := Aside0.mk (Kd.R_below (by (with_reducible repeat (first | apply Kd.R_alloc | apply Kd.R_drewN | apply Kd.R_drew)); exact HO_4.out) hb)
                  have n1_ := Aside0.mk (Kd.R_below (by (with_reducible repeat (first | apply Kd.R_alloc | apply Kd.R_drewN | apply Kd.R_drew)); exact HO_583001.out) hb)
                  have n2_ := Aside0.mk (blk_below (g := gb577) (o := .cells #[.int .i64 t572, .int .i64 t573] 34 (0, 0)) (by (with_reducible repeat (first | refine blk_drewN ?_ _ | refine blk_drew ?_ | refine blk_alloc ?_ _)); exact BK577.out) hb)
                  have n3_ := Aside0.mk (blk_below (g := gb582) (o := .cells #[.int .i64 t578, .slice (some ad595) t579.length co15] 48 (0, 0)) (by (with_reducible repeat (first | refine blk_drewN ?_ _ | refine blk_drew ?_ | refine blk_alloc ?_ _)); exact BK582.out) hb)
                  have n4_ := Aside0.mk (below_step (by repeat (first | (with_reducible first | exact HB.out | apply below_alloc | apply pw_below_drewN | apply below_drew1 | refine below_set ?_ GE577.out | refine below_set ?_ GE582.out) | exact HB.out)) hb)
                  have n5_ := Aside0.mk (hbox)
                  have n6_ := Aside0.mk ((by rw [hg]; exact (below_size (by repeat (first | (with_reducible first | exact HB.out | apply below_alloc | apply pw_below_drewN | apply below_drew1 | refine below_set ?_ GE577.out | refine below_set ?_ GE582.out) | exact HB.out))) : w.heap.size ≤ gb600))
                  have n7_ := Aside0.mk ((by rw [hg]; exact (below_size (by repeat (first | (with_reducible first | exact HB.out | apply below_alloc | apply pw_below_drewN | apply below_drew1 | refine below_set ?_ GE577.out | refine below_set ?_ GE582.out) | exact HB.out))) : w.heap.size ≤ gb600))
                  have n8_ := Aside0.mk ((by rw [hg]; exact Nat.ne_of_lt (blk_lt (g := gb577) (o := .cells #[.int .i64 t572, .int .i64 t573] 34 (0, 0)) (by (with_reducible repeat (first | refine blk_drewN ?_ _ | refine blk_drew ?_ | refine blk_alloc ?_ _)); exact BK577.out)) : gb577 ≠ gb600))
                  have n9_ := Aside0.mk ((by rw [hg]; exact Nat.ne_of_gt (blk_lt (g := gb577) (o := .cells #[.int .i64 t572, .int .i64 t573] 34 (0, 0)) (by (with_reducible repeat (first | refine blk_drewN ?_ _ | refine blk_drew ?_ | refine blk_alloc ?_ _)); exact BK577.out)) : gb600 ≠ gb577))
                  have n10_ := Aside0.mk ((by rw [hg]; exact Nat.ne_of_lt (blk_lt (g := gb582) (o := .cells #[.int .i64 t578, .slice (some ad595) t579.length co15] 48 (0, 0)) (by (with_reducible repeat (first | refine blk_drewN ?_ _ | refine blk_drew ?_ | refine blk_alloc ?_ _)); exact BK582.out)) : gb582 ≠ gb600))
                  have n11_ := Aside0.mk ((by rw [hg]; exact Nat.ne_of_gt (blk_lt (g := gb582) (o := .cells #[.int .i64 t578, .slice (some ad595) t579.length co15] 48 (0, 0)) (by (with_reducible repeat (first | refine blk_drewN ?_ _ | refine blk_drew ?_ | refine blk_alloc ?_ _)); exact BK582.out)) : gb600 ≠ gb582))
                  clear HO_4
                  clear HO_583001
                  clear BK577
                  clear BK582
                  clear HB
                  have HO_4 := n0_
                  have HO_583001 := n1_
                  have BK577 := n2_
                  have BK582 := n3_
                  have HB := n4_
                  have BK600 := n5_
                  have GW600 := n6_
                  have GE600 := n7_
                  have NB577_600 := n8_
                  have NB600_577 := n9_
                  have NB582_600 := n10_
                  have NB600_582 := n11_
                  clear n0_ n1_ n2_ n3_ n4_ n5_ n6_ n7_ n8_ n9_ n10_ n11_
                  clear hb hbox hg
                  refine hK.out _ _ ⟨(blk_cell BK577.out 0).trans rfl, (blk_cell BK577.out 1).trans rfl, (blk_cell BK582.out 0).trans rfl, (blk_cell BK582.out 1).trans rfl, HS4_⟩ (fun hHeld => ?_)
                  clear hK K
                  refine norm_ (a' := ?_) ?_ ?_
                  rotate_left
                  ·show Act.put _ (some 7) _ = _
                   simp only [Act.put, lA_, lZ_, lS_, i64_w, i32_w]
                   rfl
                  exact norm_ (by simp only [putAll, Act.put, lA_, lZ_, lS_]) (hCont (gb600) _ ⟨hHeld, (by (with_reducible repeat (first | apply Kd.R_alloc | apply Kd.R_drewN | apply Kd.R_drew)); exact HO_4.out), (by (with_reducible repeat (first | apply Kd.R_alloc | apply Kd.R_drewN | apply Kd.R_drew)); exact HO_583001.out), (by (with_reducible repeat (first | refine blk_drewN ?_ _ | refine blk_drew ?_ | refine blk_alloc ?_ _)); exact BK577.out), (by (with_reducible repeat (first | refine blk_drewN ?_ _ | refine blk_drew ?_ | refine blk_alloc ?_ _)); exact BK582.out), (by (with_reducible repeat (first | refine blk_drewN ?_ _ | refine blk_drew ?_ | refine blk_alloc ?_ _)); exact BK600.out), GW600.out, GE600.out, NB577_600.out, NB600_577.out, NB582_600.out, NB600_582.out, (by repeat (first | (with_reducible first | exact HB.out | apply below_alloc | apply pw_below_drewN | apply below_drew1 | refine below_set ?_ GE577.out | refine below_set ?_ GE582.out | refine below_set ?_ GE600.out) | exact HB.out))⟩)
                 ·skip
                  refine box_step ?hg (N := 7) ?hd (cs := #[.int .i64 0, .int .i64 0, .int .i64 0, .int .i64 0]) (t := 39) ?hr ?_; (case hd => rfl); (case hg => rfl); (case hr => first | (go_simp; done) | (go_simp; rfl))
                  intro gb600 hg w43 hbox hb
                  have HS4_ := (hb.cell (World.block_lt_of_cell? _ _ (hHeld.2.2.2.2))).trans (hHeld.2.2.2.2)
                  have n0_ := Aside0.mk (Kd.R_below (by (with_reducible repeat (first | apply Kd.R_alloc | apply Kd.R_drewN | apply Kd.R_drew)); exact HO_4.out) hb)
                  have n1_ := Aside0.mk (Kd.R_below (by (with_reducible repeat (first | apply Kd.R_alloc | apply Kd.R_drewN | apply Kd.R_drew)); exact HO_583001.out) hb)
                  have n2_ := Aside0.mk (blk_below (g := gb577) (o := .cells #[.int .i64 t572, .int .i64 t573] 34 (0, 0)) (by (with_reducible repeat (first | refine blk_drewN ?_ _ | refine blk_drew ?_ | refine blk_alloc ?_ _)); exact BK577.out) hb)
                  have n3_ := Aside0.mk (blk_below (g := gb582) (o := .cells #[.int .i64 t578, .slice (some ad595) t579.length co15] 48 (0, 0)) (by (with_reducible repeat (first | refine blk_drewN ?_ _ | refine blk_drew ?_ | refine blk_alloc ?_ _)); exact BK582.out) hb)
                  have n4_ := Aside0.mk (below_step (by repeat (first | (with_reducible first | exact HB.out | apply below_alloc | apply pw_below_drewN | apply below_drew1 | refine below_set ?_ GE577.out | refine below_set ?_ GE582.out) | exact HB.out)) hb)
                  have n5_ := Aside0.mk (hbox)
                  have n6_ := Aside0.mk ((by rw [hg]; exact (below_size (by repeat (first | (with_reducible first | exact HB.out | apply below_alloc | apply pw_below_drewN | apply below_drew1 | refine below_set ?_ GE577.out | refine below_set ?_ GE582.out) | exact HB.out))) : w.heap.size ≤ gb600))
                  have n7_ := Aside0.mk ((by rw [hg]; exact (below_size (by repeat (first | (with_reducible first | exact HB.out | apply below_alloc | apply pw_below_drewN | apply below_drew1 | refine below_set ?_ GE577.out | refine below_set ?_ GE582.out) | exact HB.out))) : w.heap.size ≤ gb600))
                  have n8_ := Aside0.mk ((by rw [hg]; exact Nat.ne_of_lt (blk_lt (g := gb577) (o := .cells #[.int .i64 t572, .int .i64 t573] 34 (0, 0)) (by (with_reducible repeat (first | refine blk_drewN ?_ _ | refine blk_drew ?_ | refine blk_alloc ?_ _)); exact BK577.out)) : gb577 ≠ gb600))
                  have n9_ := Aside0.mk ((by rw [hg]; exact Nat.ne_of_gt (blk_lt (g := gb577) (o := .cells #[.int .i64 t572, .int .i64 t573] 34 (0, 0)) (by (with_reducible repeat (first | refine blk_drewN ?_ _ | refine blk_drew ?_ | refine blk_alloc ?_ _)); exact BK577.out)) : gb600 ≠ gb577))
                  have n10_ := Aside0.mk ((by rw [hg]; exact Nat.ne_of_lt (blk_lt (g := gb582) (o := .cells #[.int .i64 t578, .slice (some ad595) t579.length co15] 48 (0, 0)) (by (with_reducible repeat (first | refine blk_drewN ?_ _ | refine blk_drew ?_ | refine blk_alloc ?_ _)); exact BK582.out)) : gb582 ≠ gb600))
                  have n11_ := Aside0.mk ((by rw [hg]; exact Nat.ne_of_gt (blk_lt (g := gb582) (o := .cells #[.int .i64 t578, .slice (some ad595) t579.length co15] 48 (0, 0)) (by (with_reducible repeat (first | refine blk_drewN ?_ _ | refine blk_drew ?_ | refine blk_alloc ?_ _)); exact BK582.out)) : gb600 ≠ gb582))
                  clear HO_4
                  clear HO_583001
                  clear BK577
                  clear BK582
                  clear HB
                  have HO_4 := n0_
                  have HO_583001 := n1_
                  have BK577 := n2_
                  have BK582 := n3_
                  have HB := n4_
                  have BK600 := n5_
                  have GW600 := n6_
                  have GE600 := n7_
                  have NB577_600 := n8_
                  have NB600_577 := n9_
                  have NB582_600 := n10_
                  have NB600_582 := n11_
                  clear n0_ n1_ n2_ n3_ n4_ n5_ n6_ n7_ n8_ n9_ n10_ n11_
                  clear hb hbox hg
                  refine hK.out _ _ ⟨(blk_cell BK577.out 0).trans rfl, (blk_cell BK577.out 1).trans rfl, (blk_cell BK582.out 0).trans rfl, (blk_cell BK582.out 1).trans rfl, HS4_⟩ (fun hHeld => ?_)
                  clear hK K
                  refine norm_ (a' := ?_) ?_ ?_
                  rotate_left
                  ·show Act.put _ (some 7) _ = _
                   simp only [Act.put, lA_, lZ_, lS_, i64_w, i32_w]
                   rfl
                  refine one_ (i := 6) (N := some 62) #[true, true, true, true, true, true, true, true, false] rfl rfl (one_of HT_.out (by kernel_rfl)) (by decide) (fun K hK => ?_)
                  refine goes_ Try.func18 (by kernel_rfl) rfl #[.agg #[.int .i64 t572, .int .i64 t573], .int .i64 (rd t579 x6_1)] (by rfl) rfl rfl (by (try simp only [List.map_toArray, List.map_cons, List.map_nil]); first | done | rfl | (simp only [List.length_drop, List.length_take]; rfl)) ?_
                  with_reducible refine (impl_TakeSeq.calls kj16 t572 t573 (rd t579 x6_1) t596 t597 t598 t599 _ A33.out).mono ?_
                  rintro e w44 ⟨rfl, hb⟩
                  have HS4_ := (hb.cell (World.block_lt_of_cell? _ _ (hHeld.2.2.2.2))).trans (hHeld.2.2.2.2)
                  refine ⟨_, rfl, ?_⟩
                  have n0_ := Aside0.mk (Kd.R_below (by (with_reducible repeat (first | apply Kd.R_alloc | apply Kd.R_drewN | apply Kd.R_drew)); exact HO_4.out) hb)
                  have n1_ := Aside0.mk (Kd.R_below (by (with_reducible repeat (first | apply Kd.R_alloc | apply Kd.R_drewN | apply Kd.R_drew)); exact HO_583001.out) hb)
                  have n2_ := Aside0.mk (blk_below (g := gb577) (o := .cells #[.int .i64 t572, .int .i64 t573] 34 (0, 0)) (by (with_reducible repeat (first | refine blk_drewN ?_ _ | refine blk_drew ?_ | refine blk_alloc ?_ _)); exact BK577.out) hb)
                  have n3_ := Aside0.mk (blk_below (g := gb582) (o := .cells #[.int .i64 t578, .slice (some ad595) t579.length co15] 48 (0, 0)) (by (with_reducible repeat (first | refine blk_drewN ?_ _ | refine blk_drew ?_ | refine blk_alloc ?_ _)); exact BK582.out) hb)
                  have n4_ := Aside0.mk (blk_below (g := gb600) (o := .cells #[.int .i64 0, .int .i64 0, .int .i64 0, .int .i64 0] 39 (0, 0)) (by (with_reducible repeat (first | refine blk_drewN ?_ _ | refine blk_drew ?_ | refine blk_alloc ?_ _)); exact BK600.out) hb)
                  have n5_ := Aside0.mk (below_step (by repeat (first | (with_reducible first | exact HB.out | apply below_alloc | apply pw_below_drewN | apply below_drew1 | refine below_set ?_ GE577.out | refine below_set ?_ GE582.out | refine below_set ?_ GE600.out) | exact HB.out)) hb)
                  clear HO_4
                  clear HO_583001
                  clear BK577
                  clear BK582
                  clear BK600
                  clear HB
                  have HO_4 := n0_
                  have HO_583001 := n1_
                  have BK577 := n2_
                  have BK582 := n3_
                  have BK600 := n4_
                  have HB := n5_
                  clear n0_ n1_ n2_ n3_ n4_ n5_
                  (try clear hb)
                  (try clear hb2)
                  (try clear hk)
                  (try clear hi)
                  refine hK.out _ _ ⟨(blk_cell BK577.out 0).trans rfl, (blk_cell BK577.out 1).trans rfl, (blk_cell BK582.out 0).trans rfl, (blk_cell BK582.out 1).trans rfl, HS4_⟩ (fun hHeld => ?_)
                  clear hK K
                  refine norm_ (a' := ?_) ?_ ?_
                  rotate_left
                  ·show Act.put _ (some 62) _ = _
                   simp only [Act.put, lA_, lZ_, lS_, i64_w, i32_w]
                   rfl
                  exact norm_ (by simp only [putAll, Act.put, lA_, lZ_, lS_]) (hCont (gb600) _ ⟨hHeld, (by (with_reducible repeat (first | apply Kd.R_alloc | apply Kd.R_drewN | apply Kd.R_drew)); exact HO_4.out), (by (with_reducible repeat (first | apply Kd.R_alloc | apply Kd.R_drewN | apply Kd.R_drew)); exact HO_583001.out), (by (with_reducible repeat (first | refine blk_drewN ?_ _ | refine blk_drew ?_ | refine blk_alloc ?_ _)); exact BK577.out), (by (with_reducible repeat (first | refine blk_drewN ?_ _ | refine blk_drew ?_ | refine blk_alloc ?_ _)); exact BK582.out), (by (with_reducible repeat (first | refine blk_drewN ?_ _ | refine blk_drew ?_ | refine blk_alloc ?_ _)); exact BK600.out), GW600.out, GE600.out, NB577_600.out, NB600_577.out, NB582_600.out, NB600_582.out, (by repeat (first | (with_reducible first | exact HB.out | apply below_alloc | apply pw_below_drewN | apply below_drew1 | refine below_set ?_ GE577.out | refine below_set ?_ GE582.out | refine below_set ?_ GE600.out) | exact HB.out))⟩)
                rintro gb600 w45 ⟨hS_, h0_, h1_, h2_, h3_, h4_, h5_, h6_, h7_, h8_, h9_, h10_, h11_⟩
                have n0_ : Aside0 (Kd.R (Kd.int .i64) 2 w45 w.heap.size (fun k_ => some k_ ≠ (.slice (some ad595) t579.length co15 : Value).ownBlock) (.slice Ao10 t574.length co10) t574) := ⟨h0_⟩
                have n1_ : Aside0 (Kd.R (Kd.int .i64) 2 w45 w.heap.size (fun k_ => some k_ ≠ (.slice Ao10 t574.length co10 : Value).ownBlock) (.slice (some ad595) t579.length co15) t579) := ⟨h1_⟩
                have n2_ : Aside0 (w45.heap[gb577]? = some (.cells #[.int .i64 t572, .int .i64 t573] 34 (0, 0))) := ⟨h2_⟩
                have n3_ : Aside0 (w45.heap[gb582]? = some (.cells #[.int .i64 t578, .slice (some ad595) t579.length co15] 48 (0, 0))) := ⟨h3_⟩
                have n4_ : Aside0 (w45.heap[gb600]? = some (.cells #[.int .i64 0, .int .i64 0, .int .i64 0, .int .i64 0] 39 (0, 0))) := ⟨h4_⟩
                have n5_ : Aside0 (w.heap.size ≤ gb600) := ⟨h5_⟩
                have n6_ : Aside0 (w.heap.size ≤ gb600) := ⟨h6_⟩
                have n7_ : Aside0 (gb577 ≠ gb600) := ⟨h7_⟩
                have n8_ : Aside0 (gb600 ≠ gb577) := ⟨h8_⟩
                have n9_ : Aside0 (gb582 ≠ gb600) := ⟨h9_⟩
                have n10_ : Aside0 (gb600 ≠ gb582) := ⟨h10_⟩
                have n11_ : Aside0 (Below w.heap.size w w45) := ⟨h11_⟩
                clear HO_4
                clear HO_583001
                clear BK577
                clear BK582
                clear HB
                clear h0_ h1_ h2_ h3_ h4_ h5_ h6_ h7_ h8_ h9_ h10_ h11_
                have HO_4 := n0_
                have HO_583001 := n1_
                have BK577 := n2_
                have BK582 := n3_
                have BK600 := n4_
                have GW600 := n5_
                have GE600 := n6_
                have NB577_600 := n7_
                have NB600_577 := n8_
                have NB582_600 := n9_
                have NB600_582 := n10_
                have HB := n11_
                clear n0_ n1_ n2_ n3_ n4_ n5_ n6_ n7_ n8_ n9_ n10_ n11_
                have hHeld : w45.cell? ⟨gb577, 0, none⟩ = some (.int .i64 t572) ∧ w45.cell? ⟨gb577, 1, none⟩ = some (.int .i64 t573) ∧ w45.cell? ⟨gb582, 0, none⟩ = some (.int .i64 t578) ∧ w45.cell? ⟨gb582, 1, none⟩ = some (.slice (some ad595) t579.length co15) ∧ w45.cell? (ad595.add (x6_1).toNat) = some (.int .i64 (rd t579 x6_1)) := hS_
                refine norm_ (a' := ?_) ?_ ?_
                rotate_left
                ·simp only [putAll, Act.put, lA_, lZ_, lS_]
                 rfl
                refine one_ (i := 8) (N := none) #[true, true, true, true, true, true, true, true, true] rfl rfl (one_of HT_.out (by kernel_rfl)) (by decide) (fun K hK => ?_)
                have hs46 : w45.cell? ⟨gb600, 0, none⟩ = some (.int .i64 0) := (blk_cell BK600.out 0).trans rfl
                have hfs46 := blk_frozen BK600.out 0
                have hns46_0 := NB577_600.out
                have hns46_1 := NB582_600.out
                have hms46_0 := NB600_577.out
                have hms46_1 := NB600_582.out
                have hs47 : w45.cell? ⟨gb600, 1, none⟩ = some (.int .i64 0) := (blk_cell BK600.out 1).trans rfl
                have hfs47 := blk_frozen BK600.out 1
                have hns47_0 := NB577_600.out
                have hns47_1 := NB582_600.out
                have hms47_0 := NB600_577.out
                have hms47_1 := NB600_582.out
                have hs48 : w45.cell? ⟨gb600, 2, none⟩ = some (.int .i64 0) := (blk_cell BK600.out 2).trans rfl
                have hfs48 := blk_frozen BK600.out 2
                have hns48_0 := NB577_600.out
                have hns48_1 := NB582_600.out
                have hms48_0 := NB600_577.out
                have hms48_1 := NB600_582.out
                have hs49 : w45.cell? ⟨gb600, 3, none⟩ = some (.int .i64 0) := (blk_cell BK600.out 3).trans rfl
                have hfs49 := blk_frozen BK600.out 3
                have hns49_0 := NB577_600.out
                have hns49_1 := NB582_600.out
                have hms49_0 := NB600_577.out
                have hms49_1 := NB600_582.out
                refine skip_ (w1 := ?_) (by rfl) rfl ?_ ?_
                rotate_left
                ·go_simp
                 rfl
                refine hK.out _ _ ⟨((cell_far (p := ⟨gb600, _, none⟩) NB577_600.out _).trans (((cell_far (p := ⟨gb600, _, none⟩) NB577_600.out _).trans (((cell_far (p := ⟨gb600, _, none⟩) NB577_600.out _).trans (((cell_far (p := ⟨gb600, _, none⟩) NB577_600.out _).trans (hHeld.1)))))))), ((cell_far (p := ⟨gb600, _, none⟩) NB577_600.out _).trans (((cell_far (p := ⟨gb600, _, none⟩) NB577_600.out _).trans (((cell_far (p := ⟨gb600, _, none⟩) NB577_600.out _).trans (((cell_far (p := ⟨gb600, _, none⟩) NB577_600.out _).trans (hHeld.2.1)))))))), ((cell_far (p := ⟨gb600, _, none⟩) NB582_600.out _).trans (((cell_far (p := ⟨gb600, _, none⟩) NB582_600.out _).trans (((cell_far (p := ⟨gb600, _, none⟩) NB582_600.out _).trans (((cell_far (p := ⟨gb600, _, none⟩) NB582_600.out _).trans (hHeld.2.2.1)))))))), ((cell_far (p := ⟨gb600, _, none⟩) NB582_600.out _).trans (((cell_far (p := ⟨gb600, _, none⟩) NB582_600.out _).trans (((cell_far (p := ⟨gb600, _, none⟩) NB582_600.out _).trans (((cell_far (p := ⟨gb600, _, none⟩) NB582_600.out _).trans (hHeld.2.2.2.1)))))))), ((cell_far (p := ⟨gb600, _, none⟩) (by first | exact Kd.own_blk (Kd.R_ne HO_583001.out BK600.out (by decide)) | (rw [add_block]; exact Kd.own_blk (Kd.R_ne HO_583001.out BK600.out (by decide))) | (show (Addr.add _ _).block ≠ _; rw [add_block]; exact Kd.own_blk (Kd.R_ne HO_583001.out BK600.out (by decide))) | (dsimp only; exact Kd.own_blk (Kd.R_ne HO_583001.out BK600.out (by decide)))) _).trans (((cell_far (p := ⟨gb600, _, none⟩) (by first | exact Kd.own_blk (Kd.R_ne HO_583001.out BK600.out (by decide)) | (rw [add_block]; exact Kd.own_blk (Kd.R_ne HO_583001.out BK600.out (by decide))) | (show (Addr.add _ _).block ≠ _; rw [add_block]; exact Kd.own_blk (Kd.R_ne HO_583001.out BK600.out (by decide))) | (dsimp only; exact Kd.own_blk (Kd.R_ne HO_583001.out BK600.out (by decide)))) _).trans (((cell_far (p := ⟨gb600, _, none⟩) (by first | exact Kd.own_blk (Kd.R_ne HO_583001.out BK600.out (by decide)) | (rw [add_block]; exact Kd.own_blk (Kd.R_ne HO_583001.out BK600.out (by decide))) | (show (Addr.add _ _).block ≠ _; rw [add_block]; exact Kd.own_blk (Kd.R_ne HO_583001.out BK600.out (by decide))) | (dsimp only; exact Kd.own_blk (Kd.R_ne HO_583001.out BK600.out (by decide)))) _).trans (((cell_far (p := ⟨gb600, _, none⟩) (by first | exact Kd.own_blk (Kd.R_ne HO_583001.out BK600.out (by decide)) | (rw [add_block]; exact Kd.own_blk (Kd.R_ne HO_583001.out BK600.out (by decide))) | (show (Addr.add _ _).block ≠ _; rw [add_block]; exact Kd.own_blk (Kd.R_ne HO_583001.out BK600.out (by decide))) | (dsimp only; exact Kd.own_blk (Kd.R_ne HO_583001.out BK600.out (by decide)))) _).trans (hHeld.2.2.2.2))))))))⟩ (fun hHeld => ?_)
                clear hK K
                refine done_ (done_of HT_.out (by kernel_rfl)) ?_
                try go_wp2
                have n0_ : Aside0 (Kd.R (Kd.int .i64) 2 ((((w45.setCell ⟨gb600, 0, none⟩ (.int .i64 t596)).setCell ⟨gb600, 1, none⟩ (.int .i64 t597)).setCell ⟨gb600, 2, none⟩ (.int .i64 t598)).setCell ⟨gb600, 3, none⟩ (.int .i64 t599)) w.heap.size (fun k_ => some k_ ≠ (.slice (some ad595) t579.length co15 : Value).ownBlock) (.slice Ao10 t574.length co10) t574) := ⟨by (with_reducible repeat (first | apply Kd.R_alloc | apply Kd.R_drewN | apply Kd.R_drew)); exact Kd.R_mono (Kd.R_far (p := ⟨gb600, 3, none⟩) (Kd.R_far (p := ⟨gb600, 2, none⟩) (Kd.R_far (p := ⟨gb600, 1, none⟩) (Kd.R_far (p := ⟨gb600, 0, none⟩) (Kd.R_types HO_4.out BK600.out (by decide)) (fun _ hk => hk.2) (.int .i64 t596)) (fun _ hk => hk.2) (.int .i64 t597)) (fun _ hk => hk.2) (.int .i64 t598)) (fun _ hk => hk.2) (.int .i64 t599)) (fun _ hk => hk.1)⟩
                have n1_ : Aside0 (Kd.R (Kd.int .i64) 2 ((((w45.setCell ⟨gb600, 0, none⟩ (.int .i64 t596)).setCell ⟨gb600, 1, none⟩ (.int .i64 t597)).setCell ⟨gb600, 2, none⟩ (.int .i64 t598)).setCell ⟨gb600, 3, none⟩ (.int .i64 t599)) w.heap.size (fun k_ => some k_ ≠ (.slice Ao10 t574.length co10 : Value).ownBlock) (.slice (some ad595) t579.length co15) t579) := ⟨by (with_reducible repeat (first | apply Kd.R_alloc | apply Kd.R_drewN | apply Kd.R_drew)); exact Kd.R_mono (Kd.R_far (p := ⟨gb600, 3, none⟩) (Kd.R_far (p := ⟨gb600, 2, none⟩) (Kd.R_far (p := ⟨gb600, 1, none⟩) (Kd.R_far (p := ⟨gb600, 0, none⟩) (Kd.R_types HO_583001.out BK600.out (by decide)) (fun _ hk => hk.2) (.int .i64 t596)) (fun _ hk => hk.2) (.int .i64 t597)) (fun _ hk => hk.2) (.int .i64 t598)) (fun _ hk => hk.2) (.int .i64 t599)) (fun _ hk => hk.1)⟩
                have n2_ : Aside0 (((((w45.setCell ⟨gb600, 0, none⟩ (.int .i64 t596)).setCell ⟨gb600, 1, none⟩ (.int .i64 t597)).setCell ⟨gb600, 2, none⟩ (.int .i64 t598)).setCell ⟨gb600, 3, none⟩ (.int .i64 t599)).heap[gb577]? = some (.cells #[.int .i64 t572, .int .i64 t573] 34 (0, 0))) := ⟨by (with_reducible repeat (first | refine blk_drewN ?_ _ | refine blk_drew ?_ | refine blk_alloc ?_ _)); refine blk_far ?_ NB577_600.out _; (with_reducible repeat (first | refine blk_drewN ?_ _ | refine blk_drew ?_ | refine blk_alloc ?_ _)); refine blk_far ?_ NB577_600.out _; (with_reducible repeat (first | refine blk_drewN ?_ _ | refine blk_drew ?_ | refine blk_alloc ?_ _)); refine blk_far ?_ NB577_600.out _; (with_reducible repeat (first | refine blk_drewN ?_ _ | refine blk_drew ?_ | refine blk_alloc ?_ _)); refine blk_far ?_ NB577_600.out _; (with_reducible repeat (first | refine blk_drewN ?_ _ | refine blk_drew ?_ | refine blk_alloc ?_ _)); exact BK577.out⟩
                have n3_ : Aside0 (((((w45.setCell ⟨gb600, 0, none⟩ (.int .i64 t596)).setCell ⟨gb600, 1, none⟩ (.int .i64 t597)).setCell ⟨gb600, 2, none⟩ (.int .i64 t598)).setCell ⟨gb600, 3, none⟩ (.int .i64 t599)).heap[gb582]? = some (.cells #[.int .i64 t578, .slice (some ad595) t579.length co15] 48 (0, 0))) := ⟨by (with_reducible repeat (first | refine blk_drewN ?_ _ | refine blk_drew ?_ | refine blk_alloc ?_ _)); refine blk_far ?_ NB582_600.out _; (with_reducible repeat (first | refine blk_drewN ?_ _ | refine blk_drew ?_ | refine blk_alloc ?_ _)); refine blk_far ?_ NB582_600.out _; (with_reducible repeat (first | refine blk_drewN ?_ _ | refine blk_drew ?_ | refine blk_alloc ?_ _)); refine blk_far ?_ NB582_600.out _; (with_reducible repeat (first | refine blk_drewN ?_ _ | refine blk_drew ?_ | refine blk_alloc ?_ _)); refine blk_far ?_ NB582_600.out _; (with_reducible repeat (first | refine blk_drewN ?_ _ | refine blk_drew ?_ | refine blk_alloc ?_ _)); exact BK582.out⟩
                have n4_ : Aside0 (((((w45.setCell ⟨gb600, 0, none⟩ (.int .i64 t596)).setCell ⟨gb600, 1, none⟩ (.int .i64 t597)).setCell ⟨gb600, 2, none⟩ (.int .i64 t598)).setCell ⟨gb600, 3, none⟩ (.int .i64 t599)).heap[gb600]? = some (.cells #[.int .i64 t596, .int .i64 t597, .int .i64 t598, .int .i64 t599] 39 (0, 0))) := ⟨by (with_reducible repeat (first | refine blk_drewN ?_ _ | refine blk_drew ?_ | refine blk_alloc ?_ _)); refine blk_put (cs := #[.int .i64 t596, .int .i64 t597, .int .i64 t598, .int .i64 0]) ?_ 3 _ rfl; (with_reducible repeat (first | refine blk_drewN ?_ _ | refine blk_drew ?_ | refine blk_alloc ?_ _)); refine blk_put (cs := #[.int .i64 t596, .int .i64 t597, .int .i64 0, .int .i64 0]) ?_ 2 _ rfl; (with_reducible repeat (first | refine blk_drewN ?_ _ | refine blk_drew ?_ | refine blk_alloc ?_ _)); refine blk_put (cs := #[.int .i64 t596, .int .i64 0, .int .i64 0, .int .i64 0]) ?_ 1 _ rfl; (with_reducible repeat (first | refine blk_drewN ?_ _ | refine blk_drew ?_ | refine blk_alloc ?_ _)); refine blk_put (cs := #[.int .i64 0, .int .i64 0, .int .i64 0, .int .i64 0]) ?_ 0 _ rfl; (with_reducible repeat (first | refine blk_drewN ?_ _ | refine blk_drew ?_ | refine blk_alloc ?_ _)); exact BK600.out⟩
                have n5_ : Aside0 (Below w.heap.size w ((((w45.setCell ⟨gb600, 0, none⟩ (.int .i64 t596)).setCell ⟨gb600, 1, none⟩ (.int .i64 t597)).setCell ⟨gb600, 2, none⟩ (.int .i64 t598)).setCell ⟨gb600, 3, none⟩ (.int .i64 t599))) := ⟨by repeat (first | (with_reducible first | exact HB.out | apply below_alloc | apply pw_below_drewN | apply below_drew1 | refine below_set ?_ GE577.out | refine below_set ?_ GE582.out | refine below_set ?_ GE600.out) | exact HB.out)⟩
                (try clear HO_4)
                (try clear HO_583001)
                (try clear BK577)
                (try clear BK582)
                (try clear BK600)
                (try clear HB)
                generalize ((((w45.setCell ⟨gb600, 0, none⟩ (.int .i64 t596)).setCell ⟨gb600, 1, none⟩ (.int .i64 t597)).setCell ⟨gb600, 2, none⟩ (.int .i64 t598)).setCell ⟨gb600, 3, none⟩ (.int .i64 t599)) = w50 at n0_ n1_ n2_ n3_ n4_ n5_ ⊢
                have HO_4 := n0_
                have HO_583001 := n1_
                have BK577 := n2_
                have BK582 := n3_
                have BK600 := n4_
                have HB := n5_
                clear n0_ n1_ n2_ n3_ n4_ n5_
                have n0_ := Aside0.mk (Kd.R_drew HO_4.out)
                have n1_ := Aside0.mk (Kd.R_drew HO_583001.out)
                have n2_ := Aside0.mk (blk_drew BK577.out)
                have n3_ := Aside0.mk (blk_drew BK582.out)
                have n4_ := Aside0.mk (blk_drew BK600.out)
                have n5_ := Aside0.mk (below_drew1 HB.out)
                clear HO_4
                clear HO_583001
                clear BK577
                clear BK582
                clear BK600
                clear HB
                have HO_4 := n0_
                have HO_583001 := n1_
                have BK577 := n2_
                have BK582 := n3_
                have BK600 := n4_
                have HB := n5_
                clear n0_ n1_ n2_ n3_ n4_ n5_
                have p601 : 0 ≤ (x6_1 : Int) := of_decide_eq_true (by first | (with_reducible assumption) | assumption)
                have q601 : x6_1 < (t579.length : Int) := of_decide_eq_true (by first | (with_reducible assumption) | assumption)
                obtain ⟨ad601, e601, hx601_0⟩ := Kd.at_int (Kd.R_reads' HO_583001.out).2.2 x6_1 p601 q601
                obtain rfl : ad595 = ad601 := (by injection e601)
                replace p601 := eq_true p601
                replace q601 := eq_true q601
                have p604 : 0 ≤ (x6_1 : Int) := of_decide_eq_true (by first | (with_reducible assumption) | assumption)
                have q604 : x6_1 < (t579.length : Int) := of_decide_eq_true (by first | (with_reducible assumption) | assumption)
                obtain ⟨ad604, e604, hx604_0⟩ := Kd.at_int (Kd.R_reads' HO_583001.out).2.2 x6_1 p604 q604
                obtain rfl : ad595 = ad604 := (by injection e604)
                replace p604 := eq_true p604
                replace q604 := eq_true q604
                refine start_ (n := 40) (S := fun w' => w'.cell? ⟨gb600, 0, none⟩ = some (.int .i64 t596) ∧ w'.cell? ⟨gb600, 1, none⟩ = some (.int .i64 t597) ∧ w'.cell? ⟨gb600, 2, none⟩ = some (.int .i64 t598) ∧ w'.cell? ⟨gb600, 3, none⟩ = some (.int .i64 t599) ∧ w'.cell? ⟨gb582, 0, none⟩ = some (.int .i64 t578) ∧ w'.cell? ⟨gb582, 1, none⟩ = some (.slice (some ad595) t579.length co15) ∧ w'.cell? ⟨gb577, 0, none⟩ = some (.int .i64 t572) ∧ w'.cell? ⟨gb577, 1, none⟩ = some (.int .i64 t573) ∧ w'.cell? (ad595.add (x6_1).toNat) = some (.int .i64 (rd t579 x6_1)) ∧ w'.cell? (ad595.add (x6_1).toNat) = some (.int .i64 (rd t579 x6_1))) (ds := []) #[false, false, false, false, false, false, false, false, false, false, false, false, false, false, false, false, false, false, false, false, false, false, false, false, false, false, false, false, false, false, false, false, false, false, false, false, false, false, false, false] (by kernel_rfl) rfl rfl ⟨(blk_cell BK600.out 0).trans rfl, (blk_cell BK600.out 1).trans rfl, (blk_cell BK600.out 2).trans rfl, (blk_cell BK600.out 3).trans rfl, (blk_cell BK582.out 0).trans rfl, (blk_cell BK582.out 1).trans rfl, (blk_cell BK577.out 0).trans rfl, (blk_cell BK577.out 1).trans rfl, hx601_0, hx604_0⟩ (fun hHeld => ?_); refine with_tabW laws_FnWindows.tab13 laws_FnWindows.bits13 (fun HT_ HW_ => ?_)
                generalize w50.drew = w51 at HO_4 HO_583001 BK577 BK582 BK600 HB hx601_0 hx604_0 hHeld ⊢
                refine pure_ (i := 0) (N := some 63) (v := ?_) (a' := ?_) #[true, false, false, false, false, false, false, false, false, false, false, false, false, false, false, false, false, false, false, false, false, false, false, false, false, false, false, false, false, false, false, false, false, false, false, false, false, false, false, false] rfl rfl (any_of HT_.out (by kernel_rfl)) (fun _ _ _ h => h) (Or.inl ⟨by rfl, ?_⟩) ?_ ?_
                rotate_left
                ·intro w'
                 go_simp
                 with_reducible rfl
                rotate_left
                ·simp only [Act.put, lA_, lZ_, lS_, i64_w, i32_w]
                 rfl
                refine take_ (i := 1) (N := some 64) (v := ?_) (a' := ?_) #[true, true, false, false, false, false, false, false, false, false, false, false, false, false, false, false, false, false, false, false, false, false, false, false, false, false, false, false, false, false, false, false, false, false, false, false, false, false, false, false] rfl rfl (take_ofW HT_.out HW_.out (by kernel_rfl)) (fun _ _ _ h => h) (Or.inl ⟨by rfl, ?_⟩) hHeld ?_ ?_
                rotate_left
                ·rintro w' ⟨s0, s1, s2, s3, s4, s5, s6, s7, s8, s9⟩
                 go_simp
                 with_reducible rfl
                rotate_left
                ·simp only [Act.put, lA_, lZ_, lS_, i64_w, i32_w]
                 rfl
                refine pure_ (i := 2) (N := some 65) (v := ?_) (a' := ?_) #[true, true, true, false, false, false, false, false, false, false, false, false, false, false, false, false, false, false, false, false, false, false, false, false, false, false, false, false, false, false, false, false, false, false, false, false, false, false, false, false] rfl rfl (any_of HT_.out (by kernel_rfl)) (fun _ _ _ h => h) (Or.inl ⟨by rfl, ?_⟩) ?_ ?_
                rotate_left
                ·intro w'
                 go_simp
                 with_reducible rfl
                rotate_left
                ·simp only [Act.put, lA_, lZ_, lS_, i64_w, i32_w]
                 rfl
                refine pure_ (i := 3) (N := some 66) (v := ?_) (a' := ?_) #[true, true, true, true, false, false, false, false, false, false, false, false, false, false, false, false, false, false, false, false, false, false, false, false, false, false, false, false, false, false, false, false, false, false, false, false, false, false, false, false] rfl rfl (any_of HT_.out (by kernel_rfl)) (fun _ _ _ h => h) (Or.inl ⟨by rfl, ?_⟩) ?_ ?_
                rotate_left
                ·intro w'
                 go_simp
                 with_reducible rfl
                rotate_left
                ·simp only [Act.put, lA_, lZ_, lS_, i64_w, i32_w]
                 rfl
                refine pure_ (i := 4) (N := some 67) (v := ?_) (a' := ?_) #[true, true, true, true, true, false, false, false, false, false, false, false, false, false, false, false, false, false, false, false, false, false, false, false, false, false, false, false, false, false, false, false, false, false, false, false, false, false, false, false] rfl rfl (any_of HT_.out (by kernel_rfl)) (fun _ _ _ h => h) (Or.inl ⟨by rfl, ?_⟩) ?_ ?_
                rotate_left
                ·intro w'
                 go_simp
                 with_reducible rfl
                rotate_left
                ·simp only [Act.put, lA_, lZ_, lS_, i64_w, i32_w]
                 rfl
                refine pure_ (i := 6) (N := some 69) (v := ?_) (a' := ?_) #[true, true, true, true, true, false, true, false, false, false, false, false, false, false, false, false, false, false, false, false, false, false, false, false, false, false, false, false, false, false, false, false, false, false, false, false, false, false, false, false] rfl rfl (any_of HT_.out (by kernel_rfl)) (fun _ _ _ h => h) (Or.inl ⟨by rfl, ?_⟩) ?_ ?_
                rotate_left
                ·intro w'
                 go_simp
                 with_reducible rfl
                rotate_left
                ·simp only [Act.put, lA_, lZ_, lS_, i64_w, i32_w]
                 rfl
                refine pure_ (i := 8) (N := some 71) (v := ?_) (a' := ?_) #[true, true, true, true, true, false, true, false, true, false, false, false, false, false, false, false, false, false, false, false, false, false, false, false, false, false, false, false, false, false, false, false, false, false, false, false, false, false, false, false] rfl rfl (any_of HT_.out (by kernel_rfl)) (fun _ _ _ h => h) (Or.inl ⟨by rfl, ?_⟩) ?_ ?_
                rotate_left
                ·intro w'
                 go_simp
                 with_reducible rfl
                rotate_left
                ·simp only [Act.put, lA_, lZ_, lS_, i64_w, i32_w]
                 rfl
                refine take_ (i := 5) (N := some 68) (v := ?_) (a' := ?_) #[true, true, true, true, true, true, true, false, true, false, false, false, false, false, false, false, false, false, false, false, false, false, false, false, false, false, false, false, false, false, false, false, false, false, false, false, false, false, false, false] rfl rfl (take_ofW HT_.out HW_.out (by kernel_rfl)) (fun _ _ _ h => h) (Or.inl ⟨by rfl, ?_⟩) hHeld ?_ ?_
                rotate_left
                ·rintro w' ⟨s0, s1, s2, s3, s4, s5, s6, s7, s8, s9⟩
                 go_simp
                 with_reducible rfl
                rotate_left
                ·simp only [Act.put, lA_, lZ_, lS_, i64_w, i32_w]
                 rfl
                refine take_ (i := 7) (N := some 70) (v := ?_) (a' := ?_) #[true, true, true, true, true, true, true, true, true, false, false, false, false, false, false, false, false, false, false, false, false, false, false, false, false, false, false, false, false, false, false, false, false, false, false, false, false, false, false, false] rfl rfl (take_ofW HT_.out HW_.out (by kernel_rfl)) (fun _ _ _ h => h) (Or.inl ⟨by rfl, ?_⟩) hHeld ?_ ?_
                rotate_left
                ·rintro w' ⟨s0, s1, s2, s3, s4, s5, s6, s7, s8, s9⟩
                 go_simp
                 with_reducible rfl
                rotate_left
                ·simp only [Act.put, lA_, lZ_, lS_, i64_w, i32_w]
                 rfl
                refine pure_ (i := 9) (N := some 72) (v := ?_) (a' := ?_) #[true, true, true, true, true, true, true, true, true, true, false, false, false, false, false, false, false, false, false, false, false, false, false, false, false, false, false, false, false, false, false, false, false, false, false, false, false, false, false, false] rfl rfl (any_of HT_.out (by kernel_rfl)) (fun _ _ _ h => h) (Or.inl ⟨by rfl, ?_⟩) ?_ ?_
                rotate_left
                ·intro w'
                 go_simp
                 with_reducible rfl
                rotate_left
                ·simp only [Act.put, lA_, lZ_, lS_, i64_w, i32_w]
                 rfl
                refine take_ (i := 10) (N := some 73) (v := ?_) (a' := ?_) #[true, true, true, true, true, true, true, true, true, true, true, false, false, false, false, false, false, false, false, false, false, false, false, false, false, false, false, false, false, false, false, false, false, false, false, false, false, false, false, false] rfl rfl (take_ofW HT_.out HW_.out (by kernel_rfl)) (fun _ _ _ h => h) (Or.inl ⟨by rfl, ?_⟩) hHeld ?_ ?_
                rotate_left
                ·rintro w' ⟨s0, s1, s2, s3, s4, s5, s6, s7, s8, s9⟩
                 go_simp
                 with_reducible rfl
                rotate_left
                ·simp only [Act.put, lA_, lZ_, lS_, i64_w, i32_w]
                 rfl
                refine one_ (i := 11) (N := some 74) #[true, true, true, true, true, true, true, true, true, true, true, true, false, false, false, false, false, false, false, false, false, false, false, false, false, false, false, false, false, false, false, false, false, false, false, false, false, false, false, false] rfl rfl (one_of HT_.out (by kernel_rfl)) (by decide) (fun K hK => ?_)
                refine goes_ Try.func27 (by kernel_rfl) rfl #[.agg #[.int .i64 t598, .int .i64 t599], .int .i64 (rd t579 x6_1)] (by rfl) rfl rfl (by (try simp only [List.map_toArray, List.map_cons, List.map_nil]); first | done | rfl | (simp only [List.length_drop, List.length_take]; rfl)) ?_
                with_reducible refine (impl_SeenIn.calls kj16 t598 t599 (rd t579 x6_1) true _ A35.out).mono ?_
                rintro e w52 ⟨rfl, hb⟩
                have HS8_ := (hb.cell (World.block_lt_of_cell? _ _ (hHeld.2.2.2.2.2.2.2.2.1))).trans (hHeld.2.2.2.2.2.2.2.2.1)
                have HS9_ := (hb.cell (World.block_lt_of_cell? _ _ (hHeld.2.2.2.2.2.2.2.2.2))).trans (hHeld.2.2.2.2.2.2.2.2.2)
                refine ⟨_, rfl, ?_⟩
                have n0_ := Aside0.mk (Kd.R_below (by (with_reducible repeat (first | apply Kd.R_alloc | apply Kd.R_drewN | apply Kd.R_drew)); exact HO_4.out) hb)
                have n1_ := Aside0.mk (Kd.R_below (by (with_reducible repeat (first | apply Kd.R_alloc | apply Kd.R_drewN | apply Kd.R_drew)); exact HO_583001.out) hb)
                have n2_ := Aside0.mk (blk_below (g := gb577) (o := .cells #[.int .i64 t572, .int .i64 t573] 34 (0, 0)) (by (with_reducible repeat (first | refine blk_drewN ?_ _ | refine blk_drew ?_ | refine blk_alloc ?_ _)); exact BK577.out) hb)
                have n3_ := Aside0.mk (blk_below (g := gb582) (o := .cells #[.int .i64 t578, .slice (some ad595) t579.length co15] 48 (0, 0)) (by (with_reducible repeat (first | refine blk_drewN ?_ _ | refine blk_drew ?_ | refine blk_alloc ?_ _)); exact BK582.out) hb)
                have n4_ := Aside0.mk (blk_below (g := gb600) (o := .cells #[.int .i64 t596, .int .i64 t597, .int .i64 t598, .int .i64 t599] 39 (0, 0)) (by (with_reducible repeat (first | refine blk_drewN ?_ _ | refine blk_drew ?_ | refine blk_alloc ?_ _)); exact BK600.out) hb)
                have n5_ := Aside0.mk (below_step (by repeat (first | (with_reducible first | exact HB.out | apply below_alloc | apply pw_below_drewN | apply below_drew1 | refine below_set ?_ GE577.out | refine below_set ?_ GE582.out | refine below_set ?_ GE600.out) | exact HB.out)) hb)
                clear HO_4
                clear HO_583001
                clear BK577
                clear BK582
                clear BK600
                clear HB
                have HO_4 := n0_
                have HO_583001 := n1_
                have BK577 := n2_
                have BK582 := n3_
                have BK600 := n4_
                have HB := n5_
                clear n0_ n1_ n2_ n3_ n4_ n5_
                (try clear hb)
                (try clear hb2)
                (try clear hk)
                (try clear hi)
                refine hK.out _ _ ⟨(blk_cell BK600.out 0).trans rfl, (blk_cell BK600.out 1).trans rfl, (blk_cell BK600.out 2).trans rfl, (blk_cell BK600.out 3).trans rfl, (blk_cell BK582.out 0).trans rfl, (blk_cell BK582.out 1).trans rfl, (blk_cell BK577.out 0).trans rfl, (blk_cell BK577.out 1).trans rfl, HS8_, HS9_⟩ (fun hHeld => ?_)
                clear hK K
                refine norm_ (a' := ?_) ?_ ?_
                rotate_left
                ·show Act.put _ (some 74) _ = _
                 simp only [Act.put, lA_, lZ_, lS_, i64_w, i32_w]
                 rfl
                refine pure_ (i := 12) (N := some 75) (v := ?_) (a' := ?_) #[true, true, true, true, true, true, true, true, true, true, true, true, true, false, false, false, false, false, false, false, false, false, false, false, false, false, false, false, false, false, false, false, false, false, false, false, false, false, false, false] rfl rfl (any_of HT_.out (by kernel_rfl)) (fun _ _ _ h => h) (Or.inl ⟨by rfl, ?_⟩) ?_ ?_
                rotate_left
                ·intro w'
                 go_simp
                 with_reducible rfl
                rotate_left
                ·simp only [Act.put, lA_, lZ_, lS_, i64_w, i32_w]
                 rfl
                refine pure_ (i := 13) (N := some 76) (v := ?_) (a' := ?_) #[true, true, true, true, true, true, true, true, true, true, true, true, true, true, false, false, false, false, false, false, false, false, false, false, false, false, false, false, false, false, false, false, false, false, false, false, false, false, false, false] rfl rfl (any_of HT_.out (by kernel_rfl)) (fun _ _ _ h => h) (Or.inl ⟨by rfl, ?_⟩) ?_ ?_
                rotate_left
                ·intro w'
                 go_simp
                 with_reducible rfl
                rotate_left
                ·simp only [Act.put, lA_, lZ_, lS_, i64_w, i32_w]
                 rfl
                refine pure_ (i := 14) (N := some 77) (v := ?_) (a' := ?_) #[true, true, true, true, true, true, true, true, true, true, true, true, true, true, true, false, false, false, false, false, false, false, false, false, false, false, false, false, false, false, false, false, false, false, false, false, false, false, false, false] rfl rfl (any_of HT_.out (by kernel_rfl)) (fun _ _ _ h => h) (Or.inl ⟨by rfl, ?_⟩) ?_ ?_
                rotate_left
                ·intro w'
                 go_simp
                 with_reducible rfl
                rotate_left
                ·simp only [Act.put, lA_, lZ_, lS_, i64_w, i32_w]
                 rfl
                refine take_ (i := 15) (N := some 78) (v := ?_) (a' := ?_) #[true, true, true, true, true, true, true, true, true, true, true, true, true, true, true, true, false, false, false, false, false, false, false, false, false, false, false, false, false, false, false, false, false, false, false, false, false, false, false, false] rfl rfl (take_ofW HT_.out HW_.out (by kernel_rfl)) (fun _ _ _ h => h) (Or.inl ⟨by rfl, ?_⟩) hHeld ?_ ?_
                rotate_left
                ·rintro w' ⟨s0, s1, s2, s3, s4, s5, s6, s7, s8, s9⟩
                 go_simp
                 with_reducible rfl
                rotate_left
                ·simp only [Act.put, lA_, lZ_, lS_, i64_w, i32_w]
                 rfl
                refine one_ (i := 16) (N := some 79) #[true, true, true, true, true, true, true, true, true, true, true, true, true, true, true, true, true, false, false, false, false, false, false, false, false, false, false, false, false, false, false, false, false, false, false, false, false, false, false, false] rfl rfl (one_of HT_.out (by kernel_rfl)) (by decide) (fun K hK => ?_)
                refine goes_ Try.func28 (by kernel_rfl) rfl #[.agg #[.int .i64 t598, .int .i64 t599]] (by rfl) rfl rfl (by (try simp only [List.map_toArray, List.map_cons, List.map_nil]); first | done | rfl | (simp only [List.length_drop, List.length_take]; rfl)) ?_
                with_reducible refine (impl_WindowFault.calls kj16 t598 t599 t603 _ A37.out).mono ?_
                rintro e w53 ⟨rfl, hb⟩
                have HS8_ := (hb.cell (World.block_lt_of_cell? _ _ (hHeld.2.2.2.2.2.2.2.2.1))).trans (hHeld.2.2.2.2.2.2.2.2.1)
                have HS9_ := (hb.cell (World.block_lt_of_cell? _ _ (hHeld.2.2.2.2.2.2.2.2.2))).trans (hHeld.2.2.2.2.2.2.2.2.2)
                refine ⟨_, rfl, ?_⟩
                have n0_ := Aside0.mk (Kd.R_below (by (with_reducible repeat (first | apply Kd.R_alloc | apply Kd.R_drewN | apply Kd.R_drew)); exact HO_4.out) hb)
                have n1_ := Aside0.mk (Kd.R_below (by (with_reducible repeat (first | apply Kd.R_alloc | apply Kd.R_drewN | apply Kd.R_drew)); exact HO_583001.out) hb)
                have n2_ := Aside0.mk (blk_below (g := gb577) (o := .cells #[.int .i64 t572, .int .i64 t573] 34 (0, 0)) (by (with_reducible repeat (first | refine blk_drewN ?_ _ | refine blk_drew ?_ | refine blk_alloc ?_ _)); exact BK577.out) hb)
                have n3_ := Aside0.mk (blk_below (g := gb582) (o := .cells #[.int .i64 t578, .slice (some ad595) t579.length co15] 48 (0, 0)) (by (with_reducible repeat (first | refine blk_drewN ?_ _ | refine blk_drew ?_ | refine blk_alloc ?_ _)); exact BK582.out) hb)
                have n4_ := Aside0.mk (blk_below (g := gb600) (o := .cells #[.int .i64 t596, .int .i64 t597, .int .i64 t598, .int .i64 t599] 39 (0, 0)) (by (with_reducible repeat (first | refine blk_drewN ?_ _ | refine blk_drew ?_ | refine blk_alloc ?_ _)); exact BK600.out) hb)
                have n5_ := Aside0.mk (below_step (by repeat (first | (with_reducible first | exact HB.out | apply below_alloc | apply pw_below_drewN | apply below_drew1 | refine below_set ?_ GE577.out | refine below_set ?_ GE582.out | refine below_set ?_ GE600.out) | exact HB.out)) hb)
                clear HO_4
                clear HO_583001
                clear BK577
                clear BK582
                clear BK600
                clear HB
                have HO_4 := n0_
                have HO_583001 := n1_
                have BK577 := n2_
                have BK582 := n3_
                have BK600 := n4_
                have HB := n5_
                clear n0_ n1_ n2_ n3_ n4_ n5_
                (try clear hb)
                (try clear hb2)
                (try clear hk)
                (try clear hi)
                refine hK.out _ _ ⟨(blk_cell BK600.out 0).trans rfl, (blk_cell BK600.out 1).trans rfl, (blk_cell BK600.out 2).trans rfl, (blk_cell BK600.out 3).trans rfl, (blk_cell BK582.out 0).trans rfl, (blk_cell BK582.out 1).trans rfl, (blk_cell BK577.out 0).trans rfl, (blk_cell BK577.out 1).trans rfl, HS8_, HS9_⟩ (fun hHeld => ?_)
                clear hK K
                refine norm_ (a' := ?_) ?_ ?_
                rotate_left
                ·show Act.put _ (some 79) _ = _
                 simp only [Act.put, lA_, lZ_, lS_, i64_w, i32_w]
                 rfl
                refine pure_ (i := 17) (N := some 80) (v := ?_) (a' := ?_) #[true, true, true, true, true, true, true, true, true, true, true, true, true, true, true, true, true, true, false, false, false, false, false, false, false, false, false, false, false, false, false, false, false, false, false, false, false, false, false, false] rfl rfl (any_of HT_.out (by kernel_rfl)) (fun _ _ _ h => h) (Or.inl ⟨by rfl, ?_⟩) ?_ ?_
                rotate_left
                ·intro w'
                 go_simp
                 with_reducible rfl
                rotate_left
                ·simp only [Act.put, lA_, lZ_, lS_, i64_w, i32_w]
                 rfl
                refine pure_ (i := 18) (N := some 81) (v := ?_) (a' := ?_) #[true, true, true, true, true, true, true, true, true, true, true, true, true, true, true, true, true, true, true, false, false, false, false, false, false, false, false, false, false, false, false, false, false, false, false, false, false, false, false, false] rfl rfl (any_of HT_.out (by kernel_rfl)) (fun _ _ _ h => h) (Or.inl ⟨by rfl, ?_⟩) ?_ ?_
                rotate_left
                ·intro w'
                 go_simp
                 with_reducible rfl
                rotate_left
                ·simp only [Act.put, lA_, lZ_, lS_, i64_w, i32_w]
                 rfl
                refine pure_ (i := 19) (N := some 82) (v := ?_) (a' := ?_) #[true, true, true, true, true, true, true, true, true, true, true, true, true, true, true, true, true, true, true, true, false, false, false, false, false, false, false, false, false, false, false, false, false, false, false, false, false, false, false, false] rfl rfl (any_of HT_.out (by kernel_rfl)) (fun _ _ _ h => h) (Or.inl ⟨by rfl, ?_⟩) ?_ ?_
                rotate_left
                ·intro w'
                 go_simp
                 with_reducible rfl
                rotate_left
                ·simp only [Act.put, lA_, lZ_, lS_, i64_w, i32_w]
                 rfl
                refine pure_ (i := 20) (N := some 83) (v := ?_) (a' := ?_) #[true, true, true, true, true, true, true, true, true, true, true, true, true, true, true, true, true, true, true, true, true, false, false, false, false, false, false, false, false, false, false, false, false, false, false, false, false, false, false, false] rfl rfl (any_of HT_.out (by kernel_rfl)) (fun _ _ _ h => h) (Or.inl ⟨by rfl, ?_⟩) ?_ ?_
                rotate_left
                ·intro w'
                 go_simp
                 with_reducible rfl
                rotate_left
                ·simp only [Act.put, lA_, lZ_, lS_, i64_w, i32_w]
                 rfl
                refine pure_ (i := 22) (N := some 85) (v := ?_) (a' := ?_) #[true, true, true, true, true, true, true, true, true, true, true, true, true, true, true, true, true, true, true, true, true, false, true, false, false, false, false, false, false, false, false, false, false, false, false, false, false, false, false, false] rfl rfl (any_of HT_.out (by kernel_rfl)) (fun _ _ _ h => h) (Or.inl ⟨by rfl, ?_⟩) ?_ ?_
                rotate_left
                ·intro w'
                 go_simp
                 with_reducible rfl
                rotate_left
                ·simp only [Act.put, lA_, lZ_, lS_, i64_w, i32_w]
                 rfl
                refine pure_ (i := 24) (N := some 87) (v := ?_) (a' := ?_) #[true, true, true, true, true, true, true, true, true, true, true, true, true, true, true, true, true, true, true, true, true, false, true, false, true, false, false, false, false, false, false, false, false, false, false, false, false, false, false, false] rfl rfl (any_of HT_.out (by kernel_rfl)) (fun _ _ _ h => h) (Or.inl ⟨by rfl, ?_⟩) ?_ ?_
                rotate_left
                ·intro w'
                 go_simp
                 with_reducible rfl
                rotate_left
                ·simp only [Act.put, lA_, lZ_, lS_, i64_w, i32_w]
                 rfl
                refine take_ (i := 21) (N := some 84) (v := ?_) (a' := ?_) #[true, true, true, true, true, true, true, true, true, true, true, true, true, true, true, true, true, true, true, true, true, true, true, false, true, false, false, false, false, false, false, false, false, false, false, false, false, false, false, false] rfl rfl (take_ofW HT_.out HW_.out (by kernel_rfl)) (fun _ _ _ h => h) (Or.inl ⟨by rfl, ?_⟩) hHeld ?_ ?_
                rotate_left
                ·rintro w' ⟨s0, s1, s2, s3, s4, s5, s6, s7, s8, s9⟩
                 go_simp
                 with_reducible rfl
                rotate_left
                ·simp only [Act.put, lA_, lZ_, lS_, i64_w, i32_w]
                 rfl
                refine take_ (i := 23) (N := some 86) (v := ?_) (a' := ?_) #[true, true, true, true, true, true, true, true, true, true, true, true, true, true, true, true, true, true, true, true, true, true, true, true, true, false, false, false, false, false, false, false, false, false, false, false, false, false, false, false] rfl rfl (take_ofW HT_.out HW_.out (by kernel_rfl)) (fun _ _ _ h => h) (Or.inl ⟨by rfl, ?_⟩) hHeld ?_ ?_
                rotate_left
                ·rintro w' ⟨s0, s1, s2, s3, s4, s5, s6, s7, s8, s9⟩
                 go_simp
                 with_reducible rfl
                rotate_left
                ·simp only [Act.put, lA_, lZ_, lS_, i64_w, i32_w]
                 rfl
                refine pure_ (i := 25) (N := some 88) (v := ?_) (a' := ?_) #[true, true, true, true, true, true, true, true, true, true, true, true, true, true, true, true, true, true, true, true, true, true, true, true, true, true, false, false, false, false, false, false, false, false, false, false, false, false, false, false] rfl rfl (any_of HT_.out (by kernel_rfl)) (fun _ _ _ h => h) (Or.inl ⟨by rfl, ?_⟩) ?_ ?_
                rotate_left
                ·intro w'
                 go_simp
                 with_reducible rfl
                rotate_left
                ·simp only [Act.put, lA_, lZ_, lS_, i64_w, i32_w]
                 rfl
                refine take_ (i := 26) (N := some 89) (v := ?_) (a' := ?_) #[true, true, true, true, true, true, true, true, true, true, true, true, true, true, true, true, true, true, true, true, true, true, true, true, true, true, true, false, false, false, false, false, false, false, false, false, false, false, false, false] rfl rfl (take_ofW HT_.out HW_.out (by kernel_rfl)) (fun _ _ _ h => h) (Or.inl ⟨by rfl, ?_⟩) hHeld ?_ ?_
                rotate_left
                ·rintro w' ⟨s0, s1, s2, s3, s4, s5, s6, s7, s8, s9⟩
                 go_simp
                 with_reducible rfl
                rotate_left
                ·simp only [Act.put, lA_, lZ_, lS_, i64_w, i32_w]
                 rfl
                refine one_ (i := 27) (N := some 90) #[true, true, true, true, true, true, true, true, true, true, true, true, true, true, true, true, true, true, true, true, true, true, true, true, true, true, true, true, false, false, false, false, false, false, false, false, false, false, false, false] rfl rfl (one_of HT_.out (by kernel_rfl)) (by decide) (fun K hK => ?_)
                refine goes_ Try.func18 (by kernel_rfl) rfl #[.agg #[.int .i64 t598, .int .i64 t599], .int .i64 (rd t579 x6_1)] (by rfl) rfl rfl (by (try simp only [List.map_toArray, List.map_cons, List.map_nil]); first | done | rfl | (simp only [List.length_drop, List.length_take]; rfl)) ?_
                with_reducible refine (impl_TakeSeq.calls kj16 t598 t599 (rd t579 x6_1) t605 t606 t607 t608 _ A39.out).mono ?_
                rintro e w54 ⟨rfl, hb⟩
                have HS8_ := (hb.cell (World.block_lt_of_cell? _ _ (hHeld.2.2.2.2.2.2.2.2.1))).trans (hHeld.2.2.2.2.2.2.2.2.1)
                have HS9_ := (hb.cell (World.block_lt_of_cell? _ _ (hHeld.2.2.2.2.2.2.2.2.2))).trans (hHeld.2.2.2.2.2.2.2.2.2)
                refine ⟨_, rfl, ?_⟩
                have n0_ := Aside0.mk (Kd.R_below (by (with_reducible repeat (first | apply Kd.R_alloc | apply Kd.R_drewN | apply Kd.R_drew)); exact HO_4.out) hb)
                have n1_ := Aside0.mk (Kd.R_below (by (with_reducible repeat (first | apply Kd.R_alloc | apply Kd.R_drewN | apply Kd.R_drew)); exact HO_583001.out) hb)
                have n2_ := Aside0.mk (blk_below (g := gb577) (o := .cells #[.int .i64 t572, .int .i64 t573] 34 (0, 0)) (by (with_reducible repeat (first | refine blk_drewN ?_ _ | refine blk_drew ?_ | refine blk_alloc ?_ _)); exact BK577.out) hb)
                have n3_ := Aside0.mk (blk_below (g := gb582) (o := .cells #[.int .i64 t578, .slice (some ad595) t579.length co15] 48 (0, 0)) (by (with_reducible repeat (first | refine blk_drewN ?_ _ | refine blk_drew ?_ | refine blk_alloc ?_ _)); exact BK582.out) hb)
                have n4_ := Aside0.mk (blk_below (g := gb600) (o := .cells #[.int .i64 t596, .int .i64 t597, .int .i64 t598, .int .i64 t599] 39 (0, 0)) (by (with_reducible repeat (first | refine blk_drewN ?_ _ | refine blk_drew ?_ | refine blk_alloc ?_ _)); exact BK600.out) hb)
                have n5_ := Aside0.mk (below_step (by repeat (first | (with_reducible first | exact HB.out | apply below_alloc | apply pw_below_drewN | apply below_drew1 | refine below_set ?_ GE577.out | refine below_set ?_ GE582.out | refine below_set ?_ GE600.out) | exact HB.out)) hb)
                clear HO_4
                clear HO_583001
                clear BK577
                clear BK582
                clear BK600
                clear HB
                have HO_4 := n0_
                have HO_583001 := n1_
                have BK577 := n2_
                have BK582 := n3_
                have BK600 := n4_
                have HB := n5_
                clear n0_ n1_ n2_ n3_ n4_ n5_
                (try clear hb)
                (try clear hb2)
                (try clear hk)
                (try clear hi)
                refine hK.out _ _ ⟨(blk_cell BK600.out 0).trans rfl, (blk_cell BK600.out 1).trans rfl, (blk_cell BK600.out 2).trans rfl, (blk_cell BK600.out 3).trans rfl, (blk_cell BK582.out 0).trans rfl, (blk_cell BK582.out 1).trans rfl, (blk_cell BK577.out 0).trans rfl, (blk_cell BK577.out 1).trans rfl, HS8_, HS9_⟩ (fun hHeld => ?_)
                clear hK K
                refine norm_ (a' := ?_) ?_ ?_
                rotate_left
                ·show Act.put _ (some 90) _ = _
                 simp only [Act.put, lA_, lZ_, lS_, i64_w, i32_w]
                 rfl
                refine pure_ (i := 28) (N := some 91) (v := ?_) (a' := ?_) #[true, true, true, true, true, true, true, true, true, true, true, true, true, true, true, true, true, true, true, true, true, true, true, true, true, true, true, true, true, false, false, false, false, false, false, false, false, false, false, false] rfl rfl (any_of HT_.out (by kernel_rfl)) (fun _ _ _ h => h) (Or.inl ⟨by rfl, ?_⟩) ?_ ?_
                rotate_left
                ·intro w'
                 go_simp
                 first | with_reducible rfl | (apply Eq.trans; apply rfield_ (ty := 2) 0 Try.underlying39 Try.underlying2; exact rfl; exact rfl; exact rfl; with_reducible rfl)
                rotate_left
                ·simp only [Act.put, lA_, lZ_, lS_, i64_w, i32_w]
                 rfl
                refine pure_ (i := 29) (N := some 92) (v := ?_) (a' := ?_) #[true, true, true, true, true, true, true, true, true, true, true, true, true, true, true, true, true, true, true, true, true, true, true, true, true, true, true, true, true, true, false, false, false, false, false, false, false, false, false, false] rfl rfl (any_of HT_.out (by kernel_rfl)) (fun _ _ _ h => h) (Or.inl ⟨by rfl, ?_⟩) ?_ ?_
                rotate_left
                ·intro w'
                 go_simp
                 with_reducible rfl
                rotate_left
                ·simp only [Act.put, lA_, lZ_, lS_, i64_w, i32_w]
                 rfl
                refine pure_ (i := 30) (N := some 93) (v := ?_) (a' := ?_) #[true, true, true, true, true, true, true, true, true, true, true, true, true, true, true, true, true, true, true, true, true, true, true, true, true, true, true, true, true, true, true, false, false, false, false, false, false, false, false, false] rfl rfl (any_of HT_.out (by kernel_rfl)) (fun _ _ _ h => h) (Or.inl ⟨by rfl, ?_⟩) ?_ ?_
                rotate_left
                ·intro w'
                 go_simp
                 with_reducible rfl
                rotate_left
                ·simp only [Act.put, lA_, lZ_, lS_, i64_w, i32_w]
                 rfl
                refine pure_ (i := 31) (N := some 94) (v := ?_) (a' := ?_) #[true, true, true, true, true, true, true, true, true, true, true, true, true, true, true, true, true, true, true, true, true, true, true, true, true, true, true, true, true, true, true, true, false, false, false, false, false, false, false, false] rfl rfl (any_of HT_.out (by kernel_rfl)) (fun _ _ _ h => h) (Or.inl ⟨by rfl, ?_⟩) ?_ ?_
                rotate_left
                ·intro w'
                 go_simp
                 with_reducible rfl
                rotate_left
                ·simp only [Act.put, lA_, lZ_, lS_, i64_w, i32_w]
                 rfl
                refine pure_ (i := 32) (N := some 95) (v := ?_) (a' := ?_) #[true, true, true, true, true, true, true, true, true, true, true, true, true, true, true, true, true, true, true, true, true, true, true, true, true, true, true, true, true, true, true, true, true, false, false, false, false, false, false, false] rfl rfl (any_of HT_.out (by kernel_rfl)) (fun _ _ _ h => h) (Or.inl ⟨by rfl, ?_⟩) ?_ ?_
                rotate_left
                ·intro w'
                 go_simp
                 with_reducible rfl
                rotate_left
                ·simp only [Act.put, lA_, lZ_, lS_, i64_w, i32_w]
                 rfl
                refine pure_ (i := 33) (N := some 96) (v := ?_) (a' := ?_) #[true, true, true, true, true, true, true, true, true, true, true, true, true, true, true, true, true, true, true, true, true, true, true, true, true, true, true, true, true, true, true, true, true, true, false, false, false, false, false, false] rfl rfl (any_of HT_.out (by kernel_rfl)) (fun _ _ _ h => h) (Or.inl ⟨by rfl, ?_⟩) ?_ ?_
                rotate_left
                ·intro w'
                 go_simp
                 with_reducible rfl
                rotate_left
                ·simp only [Act.put, lA_, lZ_, lS_, i64_w, i32_w]
                 rfl
                refine pure_ (i := 35) (N := some 98) (v := ?_) (a' := ?_) #[true, true, true, true, true, true, true, true, true, true, true, true, true, true, true, true, true, true, true, true, true, true, true, true, true, true, true, true, true, true, true, true, true, true, false, true, false, false, false, false] rfl rfl (any_of HT_.out (by kernel_rfl)) (fun _ _ _ h => h) (Or.inl ⟨by rfl, ?_⟩) ?_ ?_
                rotate_left
                ·intro w'
                 go_simp
                 with_reducible rfl
                rotate_left
                ·simp only [Act.put, lA_, lZ_, lS_, i64_w, i32_w]
                 rfl
                refine take_ (i := 34) (N := some 97) (v := ?_) (a' := ?_) #[true, true, true, true, true, true, true, true, true, true, true, true, true, true, true, true, true, true, true, true, true, true, true, true, true, true, true, true, true, true, true, true, true, true, true, true, false, false, false, false] rfl rfl (take_ofW HT_.out HW_.out (by kernel_rfl)) (fun _ _ _ h => h) (Or.inl ⟨by rfl, ?_⟩) hHeld ?_ ?_
                rotate_left
                ·rintro w' ⟨s0, s1, s2, s3, s4, s5, s6, s7, s8, s9⟩
                 go_simp
                 with_reducible rfl
                rotate_left
                ·simp only [Act.put, lA_, lZ_, lS_, i64_w, i32_w]
                 rfl
                refine take_ (i := 36) (N := some 99) (v := ?_) (a' := ?_) #[true, true, true, true, true, true, true, true, true, true, true, true, true, true, true, true, true, true, true, true, true, true, true, true, true, true, true, true, true, true, true, true, true, true, true, true, true, false, false, false] rfl rfl (take_ofW HT_.out HW_.out (by kernel_rfl)) (fun _ _ _ h => h) (Or.inl ⟨by rfl, ?_⟩) hHeld ?_ ?_
                rotate_left
                ·rintro w' ⟨s0, s1, s2, s3, s4, s5, s6, s7, s8, s9⟩
                 go_simp
                 with_reducible rfl
                rotate_left
                ·simp only [Act.put, lA_, lZ_, lS_, i64_w, i32_w]
                 rfl
                refine pure_ (i := 37) (N := some 100) (v := ?_) (a' := ?_) #[true, true, true, true, true, true, true, true, true, true, true, true, true, true, true, true, true, true, true, true, true, true, true, true, true, true, true, true, true, true, true, true, true, true, true, true, true, true, false, false] rfl rfl (any_of HT_.out (by kernel_rfl)) (fun _ _ _ h => h) (Or.inl ⟨by rfl, ?_⟩) ?_ ?_
                rotate_left
                ·intro w'
                 go_simp
                 with_reducible rfl
                rotate_left
                ·simp only [Act.put, lA_, lZ_, lS_, i64_w, i32_w]
                 rfl
                refine pure_ (i := 38) (N := some 101) (v := ?_) (a' := ?_) #[true, true, true, true, true, true, true, true, true, true, true, true, true, true, true, true, true, true, true, true, true, true, true, true, true, true, true, true, true, true, true, true, true, true, true, true, true, true, true, false] rfl rfl (any_of HT_.out (by kernel_rfl)) (fun _ _ _ h => h) (Or.inl ⟨by rfl, ?_⟩) ?_ ?_
                rotate_left
                ·intro w'
                 go_simp
                 with_reducible rfl
                rotate_left
                ·simp only [Act.put, lA_, lZ_, lS_, i64_w, i32_w]
                 rfl
                refine pure_ (i := 39) (N := some 102) (v := ?_) (a' := ?_) #[true, true, true, true, true, true, true, true, true, true, true, true, true, true, true, true, true, true, true, true, true, true, true, true, true, true, true, true, true, true, true, true, true, true, true, true, true, true, true, true] rfl rfl (any_of HT_.out (by kernel_rfl)) (fun _ _ _ h => h) (Or.inl ⟨by rfl, ?_⟩) ?_ ?_
                rotate_left
                ·intro w'
                 go_simp
                 with_reducible rfl
                rotate_left
                ·simp only [Act.put, lA_, lZ_, lS_, i64_w, i32_w]
                 rfl
                refine done_ (done_of HT_.out (by kernel_rfl)) ?_
                try go_wp2
                go_roundg kj16
                case measure => have := HK1.out; have := HJ16.out; omega
                case rel => exact ⟨(wrap64 (x6_1 + 1)), (by first | rfl | (simp; done) | (simp [*]; done)), H', ⟨by have := HK1.out; have := HJ16.out; omega⟩, ⟨by (with_reducible repeat (first | apply Kd.R_alloc | apply Kd.R_drewN | apply Kd.R_drew)); exact HO_4.out⟩, ⟨by (with_reducible repeat (first | apply Kd.R_alloc | apply Kd.R_drewN | apply Kd.R_drew)); exact HO_583001.out⟩, ⟨by (with_reducible repeat (first | refine blk_drewN ?_ _ | refine blk_drew ?_ | refine blk_alloc ?_ _)); exact BK577.out⟩, ⟨by (with_reducible repeat (first | refine blk_drewN ?_ _ | refine blk_drew ?_ | refine blk_alloc ?_ _)); exact BK582.out⟩, ⟨by repeat (first | (with_reducible first | exact HB.out | apply below_alloc | apply pw_below_drewN | apply below_drew1 | refine below_set ?_ GE577.out | refine below_set ?_ GE582.out | refine below_set ?_ GE600.out) | exact HB.out)⟩⟩
             ·rw [if_neg c38] at H
              have c38b0 : (t603 == 0) = false := beq_eq_false_iff_ne.mpr c38
              have c38b1 : (t603 != 0) = true := bne_iff_ne.mpr c38
              exact absurd (Option.some.inj H) (by decide)
            ·replace c36 := Bool.eq_false_iff.mpr c36
             subst c36
             rw [if_neg (show ¬ (false = true) by decide)] at H
             exact absurd (Option.some.inj H) (by decide)
           ·rw [if_neg c34] at H
            have c34b0 : (t596 == 0) = false := beq_eq_false_iff_ne.mpr c34
            have c34b1 : (t596 != 0) = true := bne_iff_ne.mpr c34
            have H' := Aside0.mk H
            clear H
            try go_wp2
            have n0_ := Aside0.mk (Kd.R_drew HO_4.out)
            have n1_ := Aside0.mk (Kd.R_drew HO_583001.out)
            have n2_ := Aside0.mk (blk_drew BK577.out)
            have n3_ := Aside0.mk (blk_drew BK582.out)
            have n4_ := Aside0.mk (below_drew1 HB.out)
            clear HO_4
            clear HO_583001
            clear BK577
            clear BK582
            clear HB
            have HO_4 := n0_
            have HO_583001 := n1_
            have BK577 := n2_
            have BK582 := n3_
            have HB := n4_
            clear n0_ n1_ n2_ n3_ n4_
            have p595 : 0 ≤ (x6_1 : Int) := of_decide_eq_true (by first | (with_reducible assumption) | assumption)
            have q595 : x6_1 < (t579.length : Int) := of_decide_eq_true (by first | (with_reducible assumption) | assumption)
            obtain ⟨ad595, e595, hx595_0⟩ := Kd.at_int (Kd.R_reads' HO_583001.out).2.2 x6_1 p595 q595
            cases e595
            replace p595 := eq_true p595
            replace q595 := eq_true q595
            refine start_ (n := 9) (S := fun w' => w'.cell? ⟨gb577, 0, none⟩ = some (.int .i64 t572) ∧ w'.cell? ⟨gb577, 1, none⟩ = some (.int .i64 t573) ∧ w'.cell? ⟨gb582, 0, none⟩ = some (.int .i64 t578) ∧ w'.cell? ⟨gb582, 1, none⟩ = some (.slice (some ad595) t579.length co15) ∧ w'.cell? (ad595.add (x6_1).toNat) = some (.int .i64 (rd t579 x6_1))) (ds := []) #[false, false, false, false, false, false, false, false, false] (by kernel_rfl) rfl rfl ⟨(blk_cell BK577.out 0).trans rfl, (blk_cell BK577.out 1).trans rfl, (blk_cell BK582.out 0).trans rfl, (blk_cell BK582.out 1).trans rfl, hx595_0⟩ (fun hHeld => ?_); refine with_tabW laws_FnWindows.tab12 laws_FnWindows.bits12 (fun HT_ HW_ => ?_)
            generalize wc.drew = w55 at HO_4 HO_583001 BK577 BK582 HB hx595_0 hHeld ⊢
            refine pure_ (i := 1) (N := some 57) (v := ?_) (a' := ?_) #[false, true, false, false, false, false, false, false, false] rfl rfl (any_of HT_.out (by kernel_rfl)) (fun _ _ _ h => h) (Or.inl ⟨by rfl, ?_⟩) ?_ ?_
            rotate_left
            ·intro w'
             go_simp
             with_reducible rfl
            rotate_left
            ·simp only [Act.put, lA_, lZ_, lS_, i64_w, i32_w]
             rfl
            refine pure_ (i := 3) (N := some 59) (v := ?_) (a' := ?_) #[false, true, false, true, false, false, false, false, false] rfl rfl (any_of HT_.out (by kernel_rfl)) (fun _ _ _ h => h) (Or.inl ⟨by rfl, ?_⟩) ?_ ?_
            rotate_left
            ·intro w'
             go_simp
             with_reducible rfl
            rotate_left
            ·simp only [Act.put, lA_, lZ_, lS_, i64_w, i32_w]
             rfl
            refine take_ (i := 0) (N := some 56) (v := ?_) (a' := ?_) #[true, true, false, true, false, false, false, false, false] rfl rfl (take_ofW HT_.out HW_.out (by kernel_rfl)) (fun _ _ _ h => h) (Or.inl ⟨by rfl, ?_⟩) hHeld ?_ ?_
            rotate_left
            ·rintro w' ⟨s0, s1, s2, s3, s4⟩
             go_simp
             with_reducible rfl
            rotate_left
            ·simp only [Act.put, lA_, lZ_, lS_, i64_w, i32_w]
             rfl
            refine take_ (i := 2) (N := some 58) (v := ?_) (a' := ?_) #[true, true, true, true, false, false, false, false, false] rfl rfl (take_ofW HT_.out HW_.out (by kernel_rfl)) (fun _ _ _ h => h) (Or.inl ⟨by rfl, ?_⟩) hHeld ?_ ?_
            rotate_left
            ·rintro w' ⟨s0, s1, s2, s3, s4⟩
             go_simp
             with_reducible rfl
            rotate_left
            ·simp only [Act.put, lA_, lZ_, lS_, i64_w, i32_w]
             rfl
            refine pure_ (i := 4) (N := some 60) (v := ?_) (a' := ?_) #[true, true, true, true, true, false, false, false, false] rfl rfl (any_of HT_.out (by kernel_rfl)) (fun _ _ _ h => h) (Or.inl ⟨by rfl, ?_⟩) ?_ ?_
            rotate_left
            ·intro w'
             go_simp
             with_reducible rfl
            rotate_left
            ·simp only [Act.put, lA_, lZ_, lS_, i64_w, i32_w]
             rfl
            refine take_ (i := 5) (N := some 61) (v := ?_) (a' := ?_) #[true, true, true, true, true, true, false, false, false] rfl rfl (take_ofW HT_.out HW_.out (by kernel_rfl)) (fun _ _ _ h => h) (Or.inl ⟨by rfl, ?_⟩) hHeld ?_ ?_
            rotate_left
            ·rintro w' ⟨s0, s1, s2, s3, s4⟩
             go_simp
             with_reducible rfl
            rotate_left
            ·simp only [Act.put, lA_, lZ_, lS_, i64_w, i32_w]
             rfl
            refine join_ (σ := Nat) 1 #[true, true, true, true, true, true, true, true, false] (fun s_ => [(62, .agg #[.int .i64 t596, .int .i64 t597, .int .i64 t598, .int .i64 t599]), (7, .pointer (some ⟨s_, 0, none⟩))]) (fun s_ w' => (w'.cell? ⟨gb577, 0, none⟩ = some (.int .i64 t572) ∧ w'.cell? ⟨gb577, 1, none⟩ = some (.int .i64 t573) ∧ w'.cell? ⟨gb582, 0, none⟩ = some (.int .i64 t578) ∧ w'.cell? ⟨gb582, 1, none⟩ = some (.slice (some ad595) t579.length co15) ∧ w'.cell? (ad595.add (x6_1).toNat) = some (.int .i64 (rd t579 x6_1))) ∧ (Kd.R (Kd.int .i64) 2 w' w.heap.size (fun k_ => some k_ ≠ (.slice (some ad595) t579.length co15 : Value).ownBlock) (.slice Ao10 t574.length co10) t574) ∧ (Kd.R (Kd.int .i64) 2 w' w.heap.size (fun k_ => some k_ ≠ (.slice Ao10 t574.length co10 : Value).ownBlock) (.slice (some ad595) t579.length co15) t579) ∧ (w'.heap[gb577]? = some (.cells #[.int .i64 t572, .int .i64 t573] 34 (0, 0))) ∧ (w'.heap[gb582]? = some (.cells #[.int .i64 t578, .slice (some ad595) t579.length co15] 48 (0, 0))) ∧ (w'.heap[s_]? = some (.cells #[.int .i64 0, .int .i64 0, .int .i64 0, .int .i64 0] 39 (0, 0))) ∧ (w.heap.size ≤ s_) ∧ (w.heap.size ≤ s_) ∧ (gb577 ≠ s_) ∧ (s_ ≠ gb577) ∧ (gb582 ≠ s_) ∧ (s_ ≠ gb582) ∧ (Below w.heap.size w w')) ?_ ?_
            rotate_left
            ·intro hCont
             refine two_ (i := 6) (j := 7) (Ni := some 62) (Nj := some 7) #[true, true, true, true, true, true, true, false, false] #[true, true, true, true, true, true, false, true, false] rfl rfl rfl rfl (two_of HT_.out (by kernel_rfl)) (by decide) (by decide) (fun K hK => ?_) (fun K hK => ?_)
             ·skip
              refine goes_ Try.func18 (by kernel_rfl) rfl #[.agg #[.int .i64 t572, .int .i64 t573], .int .i64 (rd t579 x6_1)] (by rfl) rfl rfl (by (try simp only [List.map_toArray, List.map_cons, List.map_nil]); first | done | rfl | (simp only [List.length_drop, List.length_take]; rfl)) ?_
              with_reducible refine (impl_TakeSeq.calls kj16 t572 t573 (rd t579 x6_1) t596 t597 t598 t599 _ A33.out).mono ?_
              rintro e w56 ⟨rfl, hb⟩
              have HS4_ := (hb.cell (World.block_lt_of_cell? _ _ (hHeld.2.2.2.2))).trans (hHeld.2.2.2.2)
              refine ⟨_, rfl, ?_⟩
              have n0_ := Aside0.mk (Kd.R_below (by (with_reducible repeat (first | apply Kd.R_alloc | apply Kd.R_drewN | apply Kd.R_drew)); exact HO_4.out) hb)
              have n1_ := Aside0.mk (Kd.R_below (by (with_reducible repeat (first | apply Kd.R_alloc | apply Kd.R_drewN | apply Kd.R_drew)); exact HO_583001.out) hb)
              have n2_ := Aside0.mk (blk_below (g := gb577) (o := .cells #[.int .i64 t572, .int .i64 t573] 34 (0, 0)) (by (with_reducible repeat (first | refine blk_drewN ?_ _ | refine blk_drew ?_ | refine blk_alloc ?_ _)); exact BK577.out) hb)
              have n3_ := Aside0.mk (blk_below (g := gb582) (o := .cells #[.int .i64 t578, .slice (some ad595) t579.length co15] 48 (0, 0)) (by (with_reducible repeat (first | refine blk_drewN ?_ _ | refine blk_drew ?_ | refine blk_alloc ?_ _)); exact BK582.out) hb)
              have n4_ := Aside0.mk (below_step (by repeat (first | (with_reducible first | exact HB.out | apply below_alloc | apply pw_below_drewN | apply below_drew1 | refine below_set ?_ GE577.out | refine below_set ?_ GE582.out) | exact HB.out)) hb)
              clear HO_4
              clear HO_583001
              clear BK577
              clear BK582
              clear HB
              have HO_4 := n0_
              have HO_583001 := n1_
              have BK577 := n2_
              have BK582 := n3_
              have HB := n4_
              clear n0_ n1_ n2_ n3_ n4_
              (try clear hb)
              (try clear hb2)
              (try clear hk)
              (try clear hi)
              refine hK.out _ _ ⟨(blk_cell BK577.out 0).trans rfl, (blk_cell BK577.out 1).trans rfl, (blk_cell BK582.out 0).trans rfl, (blk_cell BK582.out 1).trans rfl, HS4_⟩ (fun hHeld => ?_)
              clear hK K
              refine norm_ (a' := ?_) ?_ ?_
              rotate_left
              ·show Act.put _ (some 62) _ = _
               simp only [Act.put, lA_, lZ_, lS_, i64_w, i32_w]
               rfl
              refine one_ (i := 7) (N := some 7) #[true, true, true, true, true, true, true, true, false] rfl rfl (one_of HT_.out (by kernel_rfl)) (by decide) (fun K hK => ?_)
              refine box_step ?hg (N := 7) ?hd (cs := #[.int .i64 0, .int .i64 0, .int .i64 0, .int .i64 0]) (t := 39) ?hr ?_; (case hd => rfl); (case hg => rfl); (case hr => first | (go_simp; done) | (go_simp; rfl))
              intro gb600 hg w57 hbox hb
              have HS4_ := (hb.cell (World.block_lt_of_cell? _ _ (hHeld.2.2.2.2))).trans (hHeld.2.2.2.2)
              have n0_ := Aside0.mk (Kd.R_below (by (with_reducible repeat (first | apply Kd.R_alloc | apply Kd.R_drewN | apply Kd.R_drew)); exact HO_4.out) hb)
              have n1_ := Aside0.mk (Kd.R_below (by (with_reducible repeat (first | apply Kd.R_alloc | apply Kd.R_drewN | apply Kd.R_drew)); exact HO_583001.out) hb)
              have n2_ := Aside0.mk (blk_below (g := gb577) (o := .cells #[.int .i64 t572, .int .i64 t573] 34 (0, 0)) (by (with_reducible repeat (first | refine blk_drewN ?_ _ | refine blk_drew ?_ | refine blk_alloc ?_ _)); exact BK577.out) hb)
              have n3_ := Aside0.mk (blk_below (g := gb582) (o := .cells #[.int .i64 t578, .slice (some ad595) t579.length co15] 48 (0, 0)) (by (with_reducible repeat (first | refine blk_drewN ?_ _ | refine blk_drew ?_ | refine blk_alloc ?_ _)); exact BK582.out) hb)
              have n4_ := Aside0.mk (below_step (by repeat (first | (with_reducible first | exact HB.out | apply below_alloc | apply pw_below_drewN | apply below_drew1 | refine below_set ?_ GE577.out | refine below_set ?_ GE582.out) | exact HB.out)) hb)
              have n5_ := Aside0.mk (hbox)
              have n6_ := Aside0.mk ((by rw [hg]; exact (below_size (by repeat (first | (with_reducible first | exact HB.out | apply below_alloc | apply pw_below_drewN | apply below_drew1 | refine below_set ?_ GE577.out | refine below_set ?_ GE582.out) | exact HB.out))) : w.heap.size ≤ gb600))
              have n7_ := Aside0.mk ((by rw [hg]; exact (below_size (by repeat (first | (with_reducible first | exact HB.out | apply below_alloc | apply pw_below_drewN | apply below_drew1 | refine below_set ?_ GE577.out | refine below_set ?_ GE582.out) | exact HB.out))) : w.heap.size ≤ gb600))
              have n8_ := Aside0.mk ((by rw [hg]; exact Nat.ne_of_lt (blk_lt (g := gb577) (o := .cells #[.int .i64 t572, .int .i64 t573] 34 (0, 0)) (by (with_reducible repeat (first | refine blk_drewN ?_ _ | refine blk_drew ?_ | refine blk_alloc ?_ _)); exact BK577.out)) : gb577 ≠ gb600))
              have n9_ := Aside0.mk ((by rw [hg]; exact Nat.ne_of_gt (blk_lt (g := gb577) (o := .cells #[.int .i64 t572, .int .i64 t573] 34 (0, 0)) (by (with_reducible repeat (first | refine blk_drewN ?_ _ | refine blk_drew ?_ | refine blk_alloc ?_ _)); exact BK577.out)) : gb600 ≠ gb577))
              have n10_ := Aside0.mk ((by rw [hg]; exact Nat.ne_of_lt (blk_lt (g := gb582) (o := .cells #[.int .i64 t578, .slice (some ad595) t579.length co15] 48 (0, 0)) (by (with_reducible repeat (first | refine blk_drewN ?_ _ | refine blk_drew ?_ | refine blk_alloc ?_ _)); exact BK582.out)) : gb582 ≠ gb600))
              have n11_ := Aside0.mk ((by rw [hg]; exact Nat.ne_of_gt (blk_lt (g := gb582) (o := .cells #[.int .i64 t578, .slice (some ad595) t579.length co15] 48 (0, 0)) (by (with_reducible repeat (first | refine blk_drewN ?_ _ | refine blk_drew ?_ | refine blk_alloc ?_ _)); exact BK582.out)) : gb600 ≠ gb582))
              clear HO_4
              clear HO_583001
              clear BK577
              clear BK582
              clear HB
              have HO_4 := n0_
              have HO_583001 := n1_
              have BK577 := n2_
              have BK582 := n3_
              have HB := n4_
              have BK600 := n5_
              have GW600 := n6_
              have GE600 := n7_
              have NB577_600 := n8_
              have NB600_577 := n9_
              have NB582_600 := n10_
              have NB600_582 := n11_
              clear n0_ n1_ n2_ n3_ n4_ n5_ n6_ n7_ n8_ n9_ n10_ n11_
              clear hb hbox hg
              refine hK.out _ _ ⟨(blk_cell BK577.out 0).trans rfl, (blk_cell BK577.out 1).trans rfl, (blk_cell BK582.out 0).trans rfl, (blk_cell BK582.out 1).trans rfl, HS4_⟩ (fun hHeld => ?_)
              clear hK K
              refine norm_ (a' := ?_) ?_ ?_
              rotate_left
              ·show Act.put _ (some 7) _ = _
               simp only [Act.put, lA_, lZ_, lS_, i64_w, i32_w]
               rfl
              exact norm_ (by simp only [putAll, Act.put, lA_, lZ_, lS_]) (hCont (gb600) _ ⟨hHeld, (by (with_reducible repeat (first | apply Kd.R_alloc | apply Kd.R_drewN | apply Kd.R_drew)); exact HO_4.out), (by (with_reducible repeat (first | apply Kd.R_alloc | apply Kd.R_drewN | apply Kd.R_drew)); exact HO_583001.out), (by (with_reducible repeat (first | refine blk_drewN ?_ _ | refine blk_drew ?_ | refine blk_alloc ?_ _)); exact BK577.out), (by (with_reducible repeat (first | refine blk_drewN ?_ _ | refine blk_drew ?_ | refine blk_alloc ?_ _)); exact BK582.out), (by (with_reducible repeat (first | refine blk_drewN ?_ _ | refine blk_drew ?_ | refine blk_alloc ?_ _)); exact BK600.out), GW600.out, GE600.out, NB577_600.out, NB600_577.out, NB582_600.out, NB600_582.out, (by repeat (first | (with_reducible first | exact HB.out | apply below_alloc | apply pw_below_drewN | apply below_drew1 | refine below_set ?_ GE577.out | refine below_set ?_ GE582.out | refine below_set ?_ GE600.out) | exact HB.out))⟩)
             ·skip
              refine box_step ?hg (N := 7) ?hd (cs := #[.int .i64 0, .int .i64 0, .int .i64 0, .int .i64 0]) (t := 39) ?hr ?_; (case hd => rfl); (case hg => rfl); (case hr => first | (go_simp; done) | (go_simp; rfl))
              intro gb600 hg w56 hbox hb
              have HS4_ := (hb.cell (World.block_lt_of_cell? _ _ (hHeld.2.2.2.2))).trans (hHeld.2.2.2.2)
              have n0_ := Aside0.mk (Kd.R_below (by (with_reducible repeat (first | apply Kd.R_alloc | apply Kd.R_drewN | apply Kd.R_drew)); exact HO_4.out) hb)
              have n1_ := Aside0.mk (Kd.R_below (by (with_reducible repeat (first | apply Kd.R_alloc | apply Kd.R_drewN | apply Kd.R_drew)); exact HO_583001.out) hb)
              have n2_ := Aside0.mk (blk_below (g := gb577) (o := .cells #[.int .i64 t572, .int .i64 t573] 34 (0, 0)) (by (with_reducible repeat (first | refine blk_drewN ?_ _ | refine blk_drew ?_ | refine blk_alloc ?_ _)); exact BK577.out) hb)
              have n3_ := Aside0.mk (blk_below (g := gb582) (o := .cells #[.int .i64 t578, .slice (some ad595) t579.length co15] 48 (0, 0)) (by (with_reducible repeat (first | refine blk_drewN ?_ _ | refine blk_drew ?_ | refine blk_alloc ?_ _)); exact BK582.out) hb)
              have n4_ := Aside0.mk (below_step (by repeat (first | (with_reducible first | exact HB.out | apply below_alloc | apply pw_below_drewN | apply below_drew1 | refine below_set ?_ GE577.out | refine below_set ?_ GE582.out) | exact HB.out)) hb)
              have n5_ := Aside0.mk (hbox)
              have n6_ := Aside0.mk ((by rw [hg]; exact (below_size (by repeat (first | (with_reducible first | exact HB.out | apply below_alloc | apply pw_below_drewN | apply below_drew1 | refine below_set ?_ GE577.out | refine below_set ?_ GE582.out) | exact HB.out))) : w.heap.size ≤ gb600))
              have n7_ := Aside0.mk ((by rw [hg]; exact (below_size (by repeat (first | (with_reducible first | exact HB.out | apply below_alloc | apply pw_below_drewN | apply below_drew1 | refine below_set ?_ GE577.out | refine below_set ?_ GE582.out) | exact HB.out))) : w.heap.size ≤ gb600))
              have n8_ := Aside0.mk ((by rw [hg]; exact Nat.ne_of_lt (blk_lt (g := gb577) (o := .cells #[.int .i64 t572, .int .i64 t573] 34 (0, 0)) (by (with_reducible repeat (first | refine blk_drewN ?_ _ | refine blk_drew ?_ | refine blk_alloc ?_ _)); exact BK577.out)) : gb577 ≠ gb600))
              have n9_ := Aside0.mk ((by rw [hg]; exact Nat.ne_of_gt (blk_lt (g := gb577) (o := .cells #[.int .i64 t572, .int .i64 t573] 34 (0, 0)) (by (with_reducible repeat (first | refine blk_drewN ?_ _ | refine blk_drew ?_ | refine blk_alloc ?_ _)); exact BK577.out)) : gb600 ≠ gb577))
              have n10_ := Aside0.mk ((by rw [hg]; exact Nat.ne_of_lt (blk_lt (g := gb582) (o := .cells #[.int .i64 t578, .slice (some ad595) t579.length co15] 48 (0, 0)) (by (with_reducible repeat (first | refine blk_drewN ?_ _ | refine blk_drew ?_ | refine blk_alloc ?_ _)); exact BK582.out)) : gb582 ≠ gb600))
              have n11_ := Aside0.mk ((by rw [hg]; exact Nat.ne_of_gt (blk_lt (g := gb582) (o := .cells #[.int .i64 t578, .slice (some ad595) t579.length co15] 48 (0, 0)) (by (with_reducible repeat (first | refine blk_drewN ?_ _ | refine blk_drew ?_ | refine blk_alloc ?_ _)); exact BK582.out)) : gb600 ≠ gb582))
              clear HO_4
              clear HO_583001
              clear BK577
              clear BK582
              clear HB
              have HO_4 := n0_
              have HO_583001 := n1_
              have BK577 := n2_
              have BK582 := n3_
              have HB := n4_
              have BK600 := n5_
              have GW600 := n6_
              have GE600 := n7_
              have NB577_600 := n8_
              have NB600_577 := n9_
              have NB582_600 := n10_
              have NB600_582 := n11_
              clear n0_ n1_ n2_ n3_ n4_ n5_ n6_ n7_ n8_ n9_ n10_ n11_
              clear hb hbox hg
              refine hK.out _ _ ⟨(blk_cell BK577.out 0).trans rfl, (blk_cell BK577.out 1).trans rfl, (blk_cell BK582.out 0).trans rfl, (blk_cell BK582.out 1).trans rfl, HS4_⟩ (fun hHeld => ?_)
              clear hK K
              refine norm_ (a' := ?_) ?_ ?_
              rotate_left
              ·show Act.put _ (some 7) _ = _
               simp only [Act.put, lA_, lZ_, lS_, i64_w, i32_w]
               rfl
              refine one_ (i := 6) (N := some 62) #[true, true, true, true, true, true, true, true, false] rfl rfl (one_of HT_.out (by kernel_rfl)) (by decide) (fun K hK => ?_)
              refine goes_ Try.func18 (by kernel_rfl) rfl #[.agg #[.int .i64 t572, .int .i64 t573], .int .i64 (rd t579 x6_1)] (by rfl) rfl rfl (by (try simp only [List.map_toArray, List.map_cons, List.map_nil]); first | done | rfl | (simp only [List.length_drop, List.length_take]; rfl)) ?_
              with_reducible refine (impl_TakeSeq.calls kj16 t572 t573 (rd t579 x6_1) t596 t597 t598 t599 _ A33.out).mono ?_
              rintro e w57 ⟨rfl, hb⟩
              have HS4_ := (hb.cell (World.block_lt_of_cell? _ _ (hHeld.2.2.2.2))).trans (hHeld.2.2.2.2)
              refine ⟨_, rfl, ?_⟩
              have n0_ := Aside0.mk (Kd.R_below (by (with_reducible repeat (first | apply Kd.R_alloc | apply Kd.R_drewN | apply Kd.R_drew)); exact HO_4.out) hb)
              have n1_ := Aside0.mk (Kd.R_below (by (with_reducible repeat (first | apply Kd.R_alloc | apply Kd.R_drewN | apply Kd.R_drew)); exact HO_583001.out) hb)
              have n2_ := Aside0.mk (blk_below (g := gb577) (o := .cells #[.int .i64 t572, .int .i64 t573] 34 (0, 0)) (by (with_reducible repeat (first | refine blk_drewN ?_ _ | refine blk_drew ?_ | refine blk_alloc ?_ _)); exact BK577.out) hb)
              have n3_ := Aside0.mk (blk_below (g := gb582) (o := .cells #[.int .i64 t578, .slice (some ad595) t579.length co15] 48 (0, 0)) (by (with_reducible repeat (first | refine blk_drewN ?_ _ | refine blk_drew ?_ | refine blk_alloc ?_ _)); exact BK582.out) hb)
              have n4_ := Aside0.mk (blk_below (g := gb600) (o := .cells #[.int .i64 0, .int .i64 0, .int .i64 0, .int .i64 0] 39 (0, 0)) (by (with_reducible repeat (first | refine blk_drewN ?_ _ | refine blk_drew ?_ | refine blk_alloc ?_ _)); exact BK600.out) hb)
              have n5_ := Aside0.mk (below_step (by repeat (first | (with_reducible first | exact HB.out | apply below_alloc | apply pw_below_drewN | apply below_drew1 | refine below_set ?_ GE577.out | refine below_set ?_ GE582.out | refine below_set ?_ GE600.out) | exact HB.out)) hb)
              clear HO_4
              clear HO_583001
              clear BK577
              clear BK582
              clear BK600
              clear HB
              have HO_4 := n0_
              have HO_583001 := n1_
              have BK577 := n2_
              have BK582 := n3_
              have BK600 := n4_
              have HB := n5_
              clear n0_ n1_ n2_ n3_ n4_ n5_
              (try clear hb)
              (try clear hb2)
              (try clear hk)
              (try clear hi)
              refine hK.out _ _ ⟨(blk_cell BK577.out 0).trans rfl, (blk_cell BK577.out 1).trans rfl, (blk_cell BK582.out 0).trans rfl, (blk_cell BK582.out 1).trans rfl, HS4_⟩ (fun hHeld => ?_)
              clear hK K
              refine norm_ (a' := ?_) ?_ ?_
              rotate_left
              ·show Act.put _ (some 62) _ = _
               simp only [Act.put, lA_, lZ_, lS_, i64_w, i32_w]
               rfl
              exact norm_ (by simp only [putAll, Act.put, lA_, lZ_, lS_]) (hCont (gb600) _ ⟨hHeld, (by (with_reducible repeat (first | apply Kd.R_alloc | apply Kd.R_drewN | apply Kd.R_drew)); exact HO_4.out), (by (with_reducible repeat (first | apply Kd.R_alloc | apply Kd.R_drewN | apply Kd.R_drew)); exact HO_583001.out), (by (with_reducible repeat (first | refine blk_drewN ?_ _ | refine blk_drew ?_ | refine blk_alloc ?_ _)); exact BK577.out), (by (with_reducible repeat (first | refine blk_drewN ?_ _ | refine blk_drew ?_ | refine blk_alloc ?_ _)); exact BK582.out), (by (with_reducible repeat (first | refine blk_drewN ?_ _ | refine blk_drew ?_ | refine blk_alloc ?_ _)); exact BK600.out), GW600.out, GE600.out, NB577_600.out, NB600_577.out, NB582_600.out, NB600_582.out, (by repeat (first | (with_reducible first | exact HB.out | apply below_alloc | apply pw_below_drewN | apply below_drew1 | refine below_set ?_ GE577.out | refine below_set ?_ GE582.out | refine below_set ?_ GE600.out) | exact HB.out))⟩)
            rintro gb600 w58 ⟨hS_, h0_, h1_, h2_, h3_, h4_, h5_, h6_, h7_, h8_, h9_, h10_, h11_⟩
            have n0_ : Aside0 (Kd.R (Kd.int .i64) 2 w58 w.heap.size (fun k_ => some k_ ≠ (.slice (some ad595) t579.length co15 : Value).ownBlock) (.slice Ao10 t574.length co10) t574) := ⟨h0_⟩
            have n1_ : Aside0 (Kd.R (Kd.int .i64) 2 w58 w.heap.size (fun k_ => some k_ ≠ (.slice Ao10 t574.length co10 : Value).ownBlock) (.slice (some ad595) t579.length co15) t579) := ⟨h1_⟩
            have n2_ : Aside0 (w58.heap[gb577]? = some (.cells #[.int .i64 t572, .int .i64 t573] 34 (0, 0))) := ⟨h2_⟩
            have n3_ : Aside0 (w58.heap[gb582]? = some (.cells #[.int .i64 t578, .slice (some ad595) t579.length co15] 48 (0, 0))) := ⟨h3_⟩
            have n4_ : Aside0 (w58.heap[gb600]? = some (.cells #[.int .i64 0, .int .i64 0, .int .i64 0, .int .i64 0] 39 (0, 0))) := ⟨h4_⟩
            have n5_ : Aside0 (w.heap.size ≤ gb600) := ⟨h5_⟩
            have n6_ : Aside0 (w.heap.size ≤ gb600) := ⟨h6_⟩
            have n7_ : Aside0 (gb577 ≠ gb600) := ⟨h7_⟩
            have n8_ : Aside0 (gb600 ≠ gb577) := ⟨h8_⟩
            have n9_ : Aside0 (gb582 ≠ gb600) := ⟨h9_⟩
            have n10_ : Aside0 (gb600 ≠ gb582) := ⟨h10_⟩
            have n11_ : Aside0 (Below w.heap.size w w58) := ⟨h11_⟩
            clear HO_4
            clear HO_583001
            clear BK577
            clear BK582
            clear HB
            clear h0_ h1_ h2_ h3_ h4_ h5_ h6_ h7_ h8_ h9_ h10_ h11_
            have HO_4 := n0_
            have HO_583001 := n1_
            have BK577 := n2_
            have BK582 := n3_
            have BK600 := n4_
            have GW600 := n5_
            have GE600 := n6_
            have NB577_600 := n7_
            have NB600_577 := n8_
            have NB582_600 := n9_
            have NB600_582 := n10_
            have HB := n11_
            clear n0_ n1_ n2_ n3_ n4_ n5_ n6_ n7_ n8_ n9_ n10_ n11_
            have hHeld : w58.cell? ⟨gb577, 0, none⟩ = some (.int .i64 t572) ∧ w58.cell? ⟨gb577, 1, none⟩ = some (.int .i64 t573) ∧ w58.cell? ⟨gb582, 0, none⟩ = some (.int .i64 t578) ∧ w58.cell? ⟨gb582, 1, none⟩ = some (.slice (some ad595) t579.length co15) ∧ w58.cell? (ad595.add (x6_1).toNat) = some (.int .i64 (rd t579 x6_1)) := hS_
            refine norm_ (a' := ?_) ?_ ?_
            rotate_left
            ·simp only [putAll, Act.put, lA_, lZ_, lS_]
             rfl
            refine one_ (i := 8) (N := none) #[true, true, true, true, true, true, true, true, true] rfl rfl (one_of HT_.out (by kernel_rfl)) (by decide) (fun K hK => ?_)
            have hs59 : w58.cell? ⟨gb600, 0, none⟩ = some (.int .i64 0) := (blk_cell BK600.out 0).trans rfl
            have hfs59 := blk_frozen BK600.out 0
            have hns59_0 := NB577_600.out
            have hns59_1 := NB582_600.out
            have hms59_0 := NB600_577.out
            have hms59_1 := NB600_582.out
            have hs60 : w58.cell? ⟨gb600, 1, none⟩ = some (.int .i64 0) := (blk_cell BK600.out 1).trans rfl
            have hfs60 := blk_frozen BK600.out 1
            have hns60_0 := NB577_600.out
            have hns60_1 := NB582_600.out
            have hms60_0 := NB600_577.out
            have hms60_1 := NB600_582.out
            have hs61 : w58.cell? ⟨gb600, 2, none⟩ = some (.int .i64 0) := (blk_cell BK600.out 2).trans rfl
            have hfs61 := blk_frozen BK600.out 2
            have hns61_0 := NB577_600.out
            have hns61_1 := NB582_600.out
            have hms61_0 := NB600_577.out
            have hms61_1 := NB600_582.out
            have hs62 : w58.cell? ⟨gb600, 3, none⟩ = some (.int .i64 0) := (blk_cell BK600.out 3).trans rfl
            have hfs62 := blk_frozen BK600.out 3
            have hns62_0 := NB577_600.out
            have hns62_1 := NB582_600.out
            have hms62_0 := NB600_577.out
            have hms62_1 := NB600_582.out
            refine skip_ (w1 := ?_) (by rfl) rfl ?_ ?_
            rotate_left
            ·go_simp
             rfl
            refine hK.out _ _ ⟨((cell_far (p := ⟨gb600, _, none⟩) NB577_600.out _).trans (((cell_far (p := ⟨gb600, _, none⟩) NB577_600.out _).trans (((cell_far (p := ⟨gb600, _, none⟩) NB577_600.out _).trans (((cell_far (p := ⟨gb600, _, none⟩) NB577_600.out _).trans (hHeld.1)))))))), ((cell_far (p := ⟨gb600, _, none⟩) NB577_600.out _).trans (((cell_far (p := ⟨gb600, _, none⟩) NB577_600.out _).trans (((cell_far (p := ⟨gb600, _, none⟩) NB577_600.out _).trans (((cell_far (p := ⟨gb600, _, none⟩) NB577_600.out _).trans (hHeld.2.1)))))))), ((cell_far (p := ⟨gb600, _, none⟩) NB582_600.out _).trans (((cell_far (p := ⟨gb600, _, none⟩) NB582_600.out _).trans (((cell_far (p := ⟨gb600, _, none⟩) NB582_600.out _).trans (((cell_far (p := ⟨gb600, _, none⟩) NB582_600.out _).trans (hHeld.2.2.1)))))))), ((cell_far (p := ⟨gb600, _, none⟩) NB582_600.out _).trans (((cell_far (p := ⟨gb600, _, none⟩) NB582_600.out _).trans (((cell_far (p := ⟨gb600, _, none⟩) NB582_600.out _).trans (((cell_far (p := ⟨gb600, _, none⟩) NB582_600.out _).trans (hHeld.2.2.2.1)))))))), ((cell_far (p := ⟨gb600, _, none⟩) (by first | exact Kd.own_blk (Kd.R_ne HO_583001.out BK600.out (by decide)) | (rw [add_block]; exact Kd.own_blk (Kd.R_ne HO_583001.out BK600.out (by decide))) | (show (Addr.add _ _).block ≠ _; rw [add_block]; exact Kd.own_blk (Kd.R_ne HO_583001.out BK600.out (by decide))) | (dsimp only; exact Kd.own_blk (Kd.R_ne HO_583001.out BK600.out (by decide)))) _).trans (((cell_far (p := ⟨gb600, _, none⟩) (by first | exact Kd.own_blk (Kd.R_ne HO_583001.out BK600.out (by decide)) | (rw [add_block]; exact Kd.own_blk (Kd.R_ne HO_583001.out BK600.out (by decide))) | (show (Addr.add _ _).block ≠ _; rw [add_block]; exact Kd.own_blk (Kd.R_ne HO_583001.out BK600.out (by decide))) | (dsimp only; exact Kd.own_blk (Kd.R_ne HO_583001.out BK600.out (by decide)))) _).trans (((cell_far (p := ⟨gb600, _, none⟩) (by first | exact Kd.own_blk (Kd.R_ne HO_583001.out BK600.out (by decide)) | (rw [add_block]; exact Kd.own_blk (Kd.R_ne HO_583001.out BK600.out (by decide))) | (show (Addr.add _ _).block ≠ _; rw [add_block]; exact Kd.own_blk (Kd.R_ne HO_583001.out BK600.out (by decide))) | (dsimp only; exact Kd.own_blk (Kd.R_ne HO_583001.out BK600.out (by decide)))) _).trans (((cell_far (p := ⟨gb600, _, none⟩) (by first | exact Kd.own_blk (Kd.R_ne HO_583001.out BK600.out (by decide)) | (rw [add_block]; exact Kd.own_blk (Kd.R_ne HO_583001.out BK600.out (by decide))) | (show (Addr.add _ _).block ≠ _; rw [add_block]; exact Kd.own_blk (Kd.R_ne HO_583001.out BK600.out (by decide))) | (dsimp only; exact Kd.own_blk (Kd.R_ne HO_583001.out BK600.out (by decide)))) _).trans (hHeld.2.2.2.2))))))))⟩ (fun hHeld => ?_)
            clear hK K
            refine done_ (done_of HT_.out (by kernel_rfl)) ?_
            try go_wp2
            have n0_ : Aside0 (Kd.R (Kd.int .i64) 2 ((((w58.setCell ⟨gb600, 0, none⟩ (.int .i64 t596)).setCell ⟨gb600, 1, none⟩ (.int .i64 t597)).setCell ⟨gb600, 2, none⟩ (.int .i64 t598)).setCell ⟨gb600, 3, none⟩ (.int .i64 t599)) w.heap.size (fun k_ => some k_ ≠ (.slice (some ad595) t579.length co15 : Value).ownBlock) (.slice Ao10 t574.length co10) t574) := ⟨by (with_reducible repeat (first | apply Kd.R_alloc | apply Kd.R_drewN | apply Kd.R_drew)); exact Kd.R_mono (Kd.R_far (p := ⟨gb600, 3, none⟩) (Kd.R_far (p := ⟨gb600, 2, none⟩) (Kd.R_far (p := ⟨gb600, 1, none⟩) (Kd.R_far (p := ⟨gb600, 0, none⟩) (Kd.R_types HO_4.out BK600.out (by decide)) (fun _ hk => hk.2) (.int .i64 t596)) (fun _ hk => hk.2) (.int .i64 t597)) (fun _ hk => hk.2) (.int .i64 t598)) (fun _ hk => hk.2) (.int .i64 t599)) (fun _ hk => hk.1)⟩
            have n1_ : Aside0 (Kd.R (Kd.int .i64) 2 ((((w58.setCell ⟨gb600, 0, none⟩ (.int .i64 t596)).setCell ⟨gb600, 1, none⟩ (.int .i64 t597)).setCell ⟨gb600, 2, none⟩ (.int .i64 t598)).setCell ⟨gb600, 3, none⟩ (.int .i64 t599)) w.heap.size (fun k_ => some k_ ≠ (.slice Ao10 t574.length co10 : Value).ownBlock) (.slice (some ad595) t579.length co15) t579) := ⟨by (with_reducible repeat (first | apply Kd.R_alloc | apply Kd.R_drewN | apply Kd.R_drew)); exact Kd.R_mono (Kd.R_far (p := ⟨gb600, 3, none⟩) (Kd.R_far (p := ⟨gb600, 2, none⟩) (Kd.R_far (p := ⟨gb600, 1, none⟩) (Kd.R_far (p := ⟨gb600, 0, none⟩) (Kd.R_types HO_583001.out BK600.out (by decide)) (fun _ hk => hk.2) (.int .i64 t596)) (fun _ hk => hk.2) (.int .i64 t597)) (fun _ hk => hk.2) (.int .i64 t598)) (fun _ hk => hk.2) (.int .i64 t599)) (fun _ hk => hk.1)⟩
            have n2_ : Aside0 (((((w58.setCell ⟨gb600, 0, none⟩ (.int .i64 t596)).setCell ⟨gb600, 1, none⟩ (.int .i64 t597)).setCell ⟨gb600, 2, none⟩ (.int .i64 t598)).setCell ⟨gb600, 3, none⟩ (.int .i64 t599)).heap[gb577]? = some (.cells #[.int .i64 t572, .int .i64 t573] 34 (0, 0))) := ⟨by (with_reducible repeat (first | refine blk_drewN ?_ _ | refine blk_drew ?_ | refine blk_alloc ?_ _)); refine blk_far ?_ NB577_600.out _; (with_reducible repeat (first | refine blk_drewN ?_ _ | refine blk_drew ?_ | refine blk_alloc ?_ _)); refine blk_far ?_ NB577_600.out _; (with_reducible repeat (first | refine blk_drewN ?_ _ | refine blk_drew ?_ | refine blk_alloc ?_ _)); refine blk_far ?_ NB577_600.out _; (with_reducible repeat (first | refine blk_drewN ?_ _ | refine blk_drew ?_ | refine blk_alloc ?_ _)); refine blk_far ?_ NB577_600.out _; (with_reducible repeat (first | refine blk_drewN ?_ _ | refine blk_drew ?_ | refine blk_alloc ?_ _)); exact BK577.out⟩
            have n3_ : Aside0 (((((w58.setCell ⟨gb600, 0, none⟩ (.int .i64 t596)).setCell ⟨gb600, 1, none⟩ (.int .i64 t597)).setCell ⟨gb600, 2, none⟩ (.int .i64 t598)).setCell ⟨gb600, 3, none⟩ (.int .i64 t599)).heap[gb582]? = some (.cells #[.int .i64 t578, .slice (some ad595) t579.length co15] 48 (0, 0))) := ⟨by (with_reducible repeat (first | refine blk_drewN ?_ _ | refine blk_drew ?_ | refine blk_alloc ?_ _)); refine blk_far ?_ NB582_600.out _; (with_reducible repeat (first | refine blk_drewN ?_ _ | refine blk_drew ?_ | refine blk_alloc ?_ _)); refine blk_far ?_ NB582_600.out _; (with_reducible repeat (first | refine blk_drewN ?_ _ | refine blk_drew ?_ | refine blk_alloc ?_ _)); refine blk_far ?_ NB582_600.out _; (with_reducible repeat (first | refine blk_drewN ?_ _ | refine blk_drew ?_ | refine blk_alloc ?_ _)); refine blk_far ?_ NB582_600.out _; (with_reducible repeat (first | refine blk_drewN ?_ _ | refine blk_drew ?_ | refine blk_alloc ?_ _)); exact BK582.out⟩
            have n4_ : Aside0 (((((w58.setCell ⟨gb600, 0, none⟩ (.int .i64 t596)).setCell ⟨gb600, 1, none⟩ (.int .i64 t597)).setCell ⟨gb600, 2, none⟩ (.int .i64 t598)).setCell ⟨gb600, 3, none⟩ (.int .i64 t599)).heap[gb600]? = some (.cells #[.int .i64 t596, .int .i64 t597, .int .i64 t598, .int .i64 t599] 39 (0, 0))) := ⟨by (with_reducible repeat (first | refine blk_drewN ?_ _ | refine blk_drew ?_ | refine blk_alloc ?_ _)); refine blk_put (cs := #[.int .i64 t596, .int .i64 t597, .int .i64 t598, .int .i64 0]) ?_ 3 _ rfl; (with_reducible repeat (first | refine blk_drewN ?_ _ | refine blk_drew ?_ | refine blk_alloc ?_ _)); refine blk_put (cs := #[.int .i64 t596, .int .i64 t597, .int .i64 0, .int .i64 0]) ?_ 2 _ rfl; (with_reducible repeat (first | refine blk_drewN ?_ _ | refine blk_drew ?_ | refine blk_alloc ?_ _)); refine blk_put (cs := #[.int .i64 t596, .int .i64 0, .int .i64 0, .int .i64 0]) ?_ 1 _ rfl; (with_reducible repeat (first | refine blk_drewN ?_ _ | refine blk_drew ?_ | refine blk_alloc ?_ _)); refine blk_put (cs := #[.int .i64 0, .int .i64 0, .int .i64 0, .int .i64 0]) ?_ 0 _ rfl; (with_reducible repeat (first | refine blk_drewN ?_ _ | refine blk_drew ?_ | refine blk_alloc ?_ _)); exact BK600.out⟩
            have n5_ : Aside0 (Below w.heap.size w ((((w58.setCell ⟨gb600, 0, none⟩ (.int .i64 t596)).setCell ⟨gb600, 1, none⟩ (.int .i64 t597)).setCell ⟨gb600, 2, none⟩ (.int .i64 t598)).setCell ⟨gb600, 3, none⟩ (.int .i64 t599))) := ⟨by repeat (first | (with_reducible first | exact HB.out | apply below_alloc | apply pw_below_drewN | apply below_drew1 | refine below_set ?_ GE577.out | refine below_set ?_ GE582.out | refine below_set ?_ GE600.out) | exact HB.out)⟩
            (try clear HO_4)
            (try clear HO_583001)
            (try clear BK577)
            (try clear BK582)
            (try clear BK600)
            (try clear HB)
            generalize ((((w58.setCell ⟨gb600, 0, none⟩ (.int .i64 t596)).setCell ⟨gb600, 1, none⟩ (.int .i64 t597)).setCell ⟨gb600, 2, none⟩ (.int .i64 t598)).setCell ⟨gb600, 3, none⟩ (.int .i64 t599)) = w63 at n0_ n1_ n2_ n3_ n4_ n5_ ⊢
            have HO_4 := n0_
            have HO_583001 := n1_
            have BK577 := n2_
            have BK582 := n3_
            have BK600 := n4_
            have HB := n5_
            clear n0_ n1_ n2_ n3_ n4_ n5_
            have n0_ := Aside0.mk (Kd.R_drew HO_4.out)
            have n1_ := Aside0.mk (Kd.R_drew HO_583001.out)
            have n2_ := Aside0.mk (blk_drew BK577.out)
            have n3_ := Aside0.mk (blk_drew BK582.out)
            have n4_ := Aside0.mk (blk_drew BK600.out)
            have n5_ := Aside0.mk (below_drew1 HB.out)
            clear HO_4
            clear HO_583001
            clear BK577
            clear BK582
            clear BK600
            clear HB
            have HO_4 := n0_
            have HO_583001 := n1_
            have BK577 := n2_
            have BK582 := n3_
            have BK600 := n4_
            have HB := n5_
            clear n0_ n1_ n2_ n3_ n4_ n5_
            refine start_ (n := 40) (S := fun w' => w'.cell? ⟨gb600, 0, none⟩ = some (.int .i64 t596) ∧ w'.cell? ⟨gb600, 1, none⟩ = some (.int .i64 t597) ∧ w'.cell? ⟨gb600, 2, none⟩ = some (.int .i64 t598) ∧ w'.cell? ⟨gb600, 3, none⟩ = some (.int .i64 t599)) (ds := []) #[false, false, false, false, false, false, false, false, false, false, false, false, false, false, false, false, false, false, false, false, false, false, false, false, false, false, false, false, false, false, false, false, false, false, false, false, false, false, false, false] (by kernel_rfl) rfl rfl ⟨(blk_cell BK600.out 0).trans rfl, (blk_cell BK600.out 1).trans rfl, (blk_cell BK600.out 2).trans rfl, (blk_cell BK600.out 3).trans rfl⟩ (fun hHeld => ?_); refine with_tabW laws_FnWindows.tab13 laws_FnWindows.bits13 (fun HT_ HW_ => ?_)
            generalize w63.drew = w64 at HO_4 HO_583001 BK577 BK582 BK600 HB hHeld ⊢
            refine pure_ (i := 0) (N := some 63) (v := ?_) (a' := ?_) #[true, false, false, false, false, false, false, false, false, false, false, false, false, false, false, false, false, false, false, false, false, false, false, false, false, false, false, false, false, false, false, false, false, false, false, false, false, false, false, false] rfl rfl (any_of HT_.out (by kernel_rfl)) (fun _ _ _ h => h) (Or.inl ⟨by rfl, ?_⟩) ?_ ?_
            rotate_left
            ·intro w'
             go_simp
             with_reducible rfl
            rotate_left
            ·simp only [Act.put, lA_, lZ_, lS_, i64_w, i32_w]
             rfl
            refine take_ (i := 1) (N := some 64) (v := ?_) (a' := ?_) #[true, true, false, false, false, false, false, false, false, false, false, false, false, false, false, false, false, false, false, false, false, false, false, false, false, false, false, false, false, false, false, false, false, false, false, false, false, false, false, false] rfl rfl (take_ofW HT_.out HW_.out (by kernel_rfl)) (fun _ _ _ h => h) (Or.inl ⟨by rfl, ?_⟩) hHeld ?_ ?_
            rotate_left
            ·rintro w' ⟨s0, s1, s2, s3⟩
             go_simp
             with_reducible rfl
            rotate_left
            ·simp only [Act.put, lA_, lZ_, lS_, i64_w, i32_w]
             rfl
            refine pure_ (i := 2) (N := some 65) (v := ?_) (a' := ?_) #[true, true, true, false, false, false, false, false, false, false, false, false, false, false, false, false, false, false, false, false, false, false, false, false, false, false, false, false, false, false, false, false, false, false, false, false, false, false, false, false] rfl rfl (any_of HT_.out (by kernel_rfl)) (fun _ _ _ h => h) (Or.inl ⟨by rfl, ?_⟩) ?_ ?_
            rotate_left
            ·intro w'
             go_simp
             with_reducible rfl
            rotate_left
            ·simp only [Act.put, lA_, lZ_, lS_, i64_w, i32_w]
             rfl
            refine pure_ (i := 3) (N := some 66) (v := ?_) (a' := ?_) #[true, true, true, true, false, false, false, false, false, false, false, false, false, false, false, false, false, false, false, false, false, false, false, false, false, false, false, false, false, false, false, false, false, false, false, false, false, false, false, false] rfl rfl (any_of HT_.out (by kernel_rfl)) (fun _ _ _ h => h) (Or.inl ⟨by rfl, ?_⟩) ?_ ?_
            rotate_left
            ·intro w'
             go_simp
             with_reducible rfl
            rotate_left
            ·simp only [Act.put, lA_, lZ_, lS_, i64_w, i32_w]
             rfl
            refine pure_ (i := 4) (N := some 67) (v := undef) (a' := ?_) #[true, true, true, true, true, false, false, false, false, false, false, false, false, false, false, false, false, false, false, false, false, false, false, false, false, false, false, false, false, false, false, false, false, false, false, false, false, false, false, false] rfl rfl (any_of HT_.out (by kernel_rfl)) (fun _ _ _ h => h) (Or.inr ⟨by rfl, rfl⟩) ?_ ?_
            rotate_left
            ·simp only [Act.put, lA_, lZ_, lS_, i64_w, i32_w]
             rfl
            refine pure_ (i := 5) (N := some 68) (v := undef) (a' := ?_) #[true, true, true, true, true, true, false, false, false, false, false, false, false, false, false, false, false, false, false, false, false, false, false, false, false, false, false, false, false, false, false, false, false, false, false, false, false, false, false, false] rfl rfl (any_of HT_.out (by kernel_rfl)) (fun _ _ _ h => h) (Or.inr ⟨by rfl, rfl⟩) ?_ ?_
            rotate_left
            ·simp only [Act.put, lA_, lZ_, lS_, i64_w, i32_w]
             rfl
            refine pure_ (i := 6) (N := some 69) (v := undef) (a' := ?_) #[true, true, true, true, true, true, true, false, false, false, false, false, false, false, false, false, false, false, false, false, false, false, false, false, false, false, false, false, false, false, false, false, false, false, false, false, false, false, false, false] rfl rfl (any_of HT_.out (by kernel_rfl)) (fun _ _ _ h => h) (Or.inr ⟨by rfl, rfl⟩) ?_ ?_
            rotate_left
            ·simp only [Act.put, lA_, lZ_, lS_, i64_w, i32_w]
             rfl
            refine pure_ (i := 7) (N := some 70) (v := undef) (a' := ?_) #[true, true, true, true, true, true, true, true, false, false, false, false, false, false, false, false, false, false, false, false, false, false, false, false, false, false, false, false, false, false, false, false, false, false, false, false, false, false, false, false] rfl rfl (any_of HT_.out (by kernel_rfl)) (fun _ _ _ h => h) (Or.inr ⟨by rfl, rfl⟩) ?_ ?_
            rotate_left
            ·simp only [Act.put, lA_, lZ_, lS_, i64_w, i32_w]
             rfl
            refine pure_ (i := 8) (N := some 71) (v := undef) (a' := ?_) #[true, true, true, true, true, true, true, true, true, false, false, false, false, false, false, false, false, false, false, false, false, false, false, false, false, false, false, false, false, false, false, false, false, false, false, false, false, false, false, false] rfl rfl (any_of HT_.out (by kernel_rfl)) (fun _ _ _ h => h) (Or.inr ⟨by rfl, rfl⟩) ?_ ?_
            rotate_left
            ·simp only [Act.put, lA_, lZ_, lS_, i64_w, i32_w]
             rfl
            refine pure_ (i := 9) (N := some 72) (v := undef) (a' := ?_) #[true, true, true, true, true, true, true, true, true, true, false, false, false, false, false, false, false, false, false, false, false, false, false, false, false, false, false, false, false, false, false, false, false, false, false, false, false, false, false, false] rfl rfl (any_of HT_.out (by kernel_rfl)) (fun _ _ _ h => h) (Or.inr ⟨by rfl, rfl⟩) ?_ ?_
            rotate_left
            ·simp only [Act.put, lA_, lZ_, lS_, i64_w, i32_w]
             rfl
            refine pure_ (i := 10) (N := some 73) (v := undef) (a' := ?_) #[true, true, true, true, true, true, true, true, true, true, true, false, false, false, false, false, false, false, false, false, false, false, false, false, false, false, false, false, false, false, false, false, false, false, false, false, false, false, false, false] rfl rfl (any_of HT_.out (by kernel_rfl)) (fun _ _ _ h => h) (Or.inr ⟨by rfl, rfl⟩) ?_ ?_
            rotate_left
            ·simp only [Act.put, lA_, lZ_, lS_, i64_w, i32_w]
             rfl
            refine pure_ (i := 11) (N := some 74) (v := undef) (a' := ?_) #[true, true, true, true, true, true, true, true, true, true, true, true, false, false, false, false, false, false, false, false, false, false, false, false, false, false, false, false, false, false, false, false, false, false, false, false, false, false, false, false] rfl rfl (any_of HT_.out (by kernel_rfl)) (fun _ _ _ h => h) (Or.inr ⟨by rfl, rfl⟩) ?_ ?_
            rotate_left
            ·simp only [Act.put, lA_, lZ_, lS_, i64_w, i32_w]
             rfl
            refine pure_ (i := 12) (N := some 75) (v := undef) (a' := ?_) #[true, true, true, true, true, true, true, true, true, true, true, true, true, false, false, false, false, false, false, false, false, false, false, false, false, false, false, false, false, false, false, false, false, false, false, false, false, false, false, false] rfl rfl (any_of HT_.out (by kernel_rfl)) (fun _ _ _ h => h) (Or.inr ⟨by rfl, rfl⟩) ?_ ?_
            rotate_left
            ·simp only [Act.put, lA_, lZ_, lS_, i64_w, i32_w]
             rfl
            refine pure_ (i := 13) (N := some 76) (v := undef) (a' := ?_) #[true, true, true, true, true, true, true, true, true, true, true, true, true, true, false, false, false, false, false, false, false, false, false, false, false, false, false, false, false, false, false, false, false, false, false, false, false, false, false, false] rfl rfl (any_of HT_.out (by kernel_rfl)) (fun _ _ _ h => h) (Or.inr ⟨by rfl, rfl⟩) ?_ ?_
            rotate_left
            ·simp only [Act.put, lA_, lZ_, lS_, i64_w, i32_w]
             rfl
            refine pure_ (i := 14) (N := some 77) (v := undef) (a' := ?_) #[true, true, true, true, true, true, true, true, true, true, true, true, true, true, true, false, false, false, false, false, false, false, false, false, false, false, false, false, false, false, false, false, false, false, false, false, false, false, false, false] rfl rfl (any_of HT_.out (by kernel_rfl)) (fun _ _ _ h => h) (Or.inr ⟨by rfl, rfl⟩) ?_ ?_
            rotate_left
            ·simp only [Act.put, lA_, lZ_, lS_, i64_w, i32_w]
             rfl
            refine pure_ (i := 15) (N := some 78) (v := undef) (a' := ?_) #[true, true, true, true, true, true, true, true, true, true, true, true, true, true, true, true, false, false, false, false, false, false, false, false, false, false, false, false, false, false, false, false, false, false, false, false, false, false, false, false] rfl rfl (any_of HT_.out (by kernel_rfl)) (fun _ _ _ h => h) (Or.inr ⟨by rfl, rfl⟩) ?_ ?_
            rotate_left
            ·simp only [Act.put, lA_, lZ_, lS_, i64_w, i32_w]
             rfl
            refine pure_ (i := 16) (N := some 79) (v := undef) (a' := ?_) #[true, true, true, true, true, true, true, true, true, true, true, true, true, true, true, true, true, false, false, false, false, false, false, false, false, false, false, false, false, false, false, false, false, false, false, false, false, false, false, false] rfl rfl (any_of HT_.out (by kernel_rfl)) (fun _ _ _ h => h) (Or.inr ⟨by rfl, rfl⟩) ?_ ?_
            rotate_left
            ·simp only [Act.put, lA_, lZ_, lS_, i64_w, i32_w]
             rfl
            refine pure_ (i := 17) (N := some 80) (v := undef) (a' := ?_) #[true, true, true, true, true, true, true, true, true, true, true, true, true, true, true, true, true, true, false, false, false, false, false, false, false, false, false, false, false, false, false, false, false, false, false, false, false, false, false, false] rfl rfl (any_of HT_.out (by kernel_rfl)) (fun _ _ _ h => h) (Or.inr ⟨by rfl, rfl⟩) ?_ ?_
            rotate_left
            ·simp only [Act.put, lA_, lZ_, lS_, i64_w, i32_w]
             rfl
            refine pure_ (i := 18) (N := some 81) (v := undef) (a' := ?_) #[true, true, true, true, true, true, true, true, true, true, true, true, true, true, true, true, true, true, true, false, false, false, false, false, false, false, false, false, false, false, false, false, false, false, false, false, false, false, false, false] rfl rfl (any_of HT_.out (by kernel_rfl)) (fun _ _ _ h => h) (Or.inr ⟨by rfl, rfl⟩) ?_ ?_
            rotate_left
            ·simp only [Act.put, lA_, lZ_, lS_, i64_w, i32_w]
             rfl
            refine pure_ (i := 19) (N := some 82) (v := undef) (a' := ?_) #[true, true, true, true, true, true, true, true, true, true, true, true, true, true, true, true, true, true, true, true, false, false, false, false, false, false, false, false, false, false, false, false, false, false, false, false, false, false, false, false] rfl rfl (any_of HT_.out (by kernel_rfl)) (fun _ _ _ h => h) (Or.inr ⟨by rfl, rfl⟩) ?_ ?_
            rotate_left
            ·simp only [Act.put, lA_, lZ_, lS_, i64_w, i32_w]
             rfl
            refine pure_ (i := 20) (N := some 83) (v := undef) (a' := ?_) #[true, true, true, true, true, true, true, true, true, true, true, true, true, true, true, true, true, true, true, true, true, false, false, false, false, false, false, false, false, false, false, false, false, false, false, false, false, false, false, false] rfl rfl (any_of HT_.out (by kernel_rfl)) (fun _ _ _ h => h) (Or.inr ⟨by rfl, rfl⟩) ?_ ?_
            rotate_left
            ·simp only [Act.put, lA_, lZ_, lS_, i64_w, i32_w]
             rfl
            refine pure_ (i := 21) (N := some 84) (v := undef) (a' := ?_) #[true, true, true, true, true, true, true, true, true, true, true, true, true, true, true, true, true, true, true, true, true, true, false, false, false, false, false, false, false, false, false, false, false, false, false, false, false, false, false, false] rfl rfl (any_of HT_.out (by kernel_rfl)) (fun _ _ _ h => h) (Or.inr ⟨by rfl, rfl⟩) ?_ ?_
            rotate_left
            ·simp only [Act.put, lA_, lZ_, lS_, i64_w, i32_w]
             rfl
            refine pure_ (i := 22) (N := some 85) (v := undef) (a' := ?_) #[true, true, true, true, true, true, true, true, true, true, true, true, true, true, true, true, true, true, true, true, true, true, true, false, false, false, false, false, false, false, false, false, false, false, false, false, false, false, false, false] rfl rfl (any_of HT_.out (by kernel_rfl)) (fun _ _ _ h => h) (Or.inr ⟨by rfl, rfl⟩) ?_ ?_
            rotate_left
            ·simp only [Act.put, lA_, lZ_, lS_, i64_w, i32_w]
             rfl
            refine pure_ (i := 23) (N := some 86) (v := undef) (a' := ?_) #[true, true, true, true, true, true, true, true, true, true, true, true, true, true, true, true, true, true, true, true, true, true, true, true, false, false, false, false, false, false, false, false, false, false, false, false, false, false, false, false] rfl rfl (any_of HT_.out (by kernel_rfl)) (fun _ _ _ h => h) (Or.inr ⟨by rfl, rfl⟩) ?_ ?_
            rotate_left
            ·simp only [Act.put, lA_, lZ_, lS_, i64_w, i32_w]
             rfl
            refine pure_ (i := 24) (N := some 87) (v := undef) (a' := ?_) #[true, true, true, true, true, true, true, true, true, true, true, true, true, true, true, true, true, true, true, true, true, true, true, true, true, false, false, false, false, false, false, false, false, false, false, false, false, false, false, false] rfl rfl (any_of HT_.out (by kernel_rfl)) (fun _ _ _ h => h) (Or.inr ⟨by rfl, rfl⟩) ?_ ?_
            rotate_left
            ·simp only [Act.put, lA_, lZ_, lS_, i64_w, i32_w]
             rfl
            refine pure_ (i := 25) (N := some 88) (v := undef) (a' := ?_) #[true, true, true, true, true, true, true, true, true, true, true, true, true, true, true, true, true, true, true, true, true, true, true, true, true, true, false, false, false, false, false, false, false, false, false, false, false, false, false, false] rfl rfl (any_of HT_.out (by kernel_rfl)) (fun _ _ _ h => h) (Or.inr ⟨by rfl, rfl⟩) ?_ ?_
            rotate_left
            ·simp only [Act.put, lA_, lZ_, lS_, i64_w, i32_w]
             rfl
            refine pure_ (i := 26) (N := some 89) (v := undef) (a' := ?_) #[true, true, true, true, true, true, true, true, true, true, true, true, true, true, true, true, true, true, true, true, true, true, true, true, true, true, true, false, false, false, false, false, false, false, false, false, false, false, false, false] rfl rfl (any_of HT_.out (by kernel_rfl)) (fun _ _ _ h => h) (Or.inr ⟨by rfl, rfl⟩) ?_ ?_
            rotate_left
            ·simp only [Act.put, lA_, lZ_, lS_, i64_w, i32_w]
             rfl
            refine pure_ (i := 27) (N := some 90) (v := undef) (a' := ?_) #[true, true, true, true, true, true, true, true, true, true, true, true, true, true, true, true, true, true, true, true, true, true, true, true, true, true, true, true, false, false, false, false, false, false, false, false, false, false, false, false] rfl rfl (any_of HT_.out (by kernel_rfl)) (fun _ _ _ h => h) (Or.inr ⟨by rfl, rfl⟩) ?_ ?_
            rotate_left
            ·simp only [Act.put, lA_, lZ_, lS_, i64_w, i32_w]
             rfl
            refine pure_ (i := 28) (N := some 91) (v := undef) (a' := ?_) #[true, true, true, true, true, true, true, true, true, true, true, true, true, true, true, true, true, true, true, true, true, true, true, true, true, true, true, true, true, false, false, false, false, false, false, false, false, false, false, false] rfl rfl (any_of HT_.out (by kernel_rfl)) (fun _ _ _ h => h) (Or.inr ⟨by rfl, rfl⟩) ?_ ?_
            rotate_left
            ·simp only [Act.put, lA_, lZ_, lS_, i64_w, i32_w]
             rfl
            refine pure_ (i := 29) (N := some 92) (v := undef) (a' := ?_) #[true, true, true, true, true, true, true, true, true, true, true, true, true, true, true, true, true, true, true, true, true, true, true, true, true, true, true, true, true, true, false, false, false, false, false, false, false, false, false, false] rfl rfl (any_of HT_.out (by kernel_rfl)) (fun _ _ _ h => h) (Or.inr ⟨by rfl, rfl⟩) ?_ ?_
            rotate_left
            ·simp only [Act.put, lA_, lZ_, lS_, i64_w, i32_w]
             rfl
            refine pure_ (i := 30) (N := some 93) (v := undef) (a' := ?_) #[true, true, true, true, true, true, true, true, true, true, true, true, true, true, true, true, true, true, true, true, true, true, true, true, true, true, true, true, true, true, true, false, false, false, false, false, false, false, false, false] rfl rfl (any_of HT_.out (by kernel_rfl)) (fun _ _ _ h => h) (Or.inr ⟨by rfl, rfl⟩) ?_ ?_
            rotate_left
            ·simp only [Act.put, lA_, lZ_, lS_, i64_w, i32_w]
             rfl
            refine pure_ (i := 31) (N := some 94) (v := undef) (a' := ?_) #[true, true, true, true, true, true, true, true, true, true, true, true, true, true, true, true, true, true, true, true, true, true, true, true, true, true, true, true, true, true, true, true, false, false, false, false, false, false, false, false] rfl rfl (any_of HT_.out (by kernel_rfl)) (fun _ _ _ h => h) (Or.inr ⟨by rfl, rfl⟩) ?_ ?_
            rotate_left
            ·simp only [Act.put, lA_, lZ_, lS_, i64_w, i32_w]
             rfl
            refine pure_ (i := 32) (N := some 95) (v := undef) (a' := ?_) #[true, true, true, true, true, true, true, true, true, true, true, true, true, true, true, true, true, true, true, true, true, true, true, true, true, true, true, true, true, true, true, true, true, false, false, false, false, false, false, false] rfl rfl (any_of HT_.out (by kernel_rfl)) (fun _ _ _ h => h) (Or.inr ⟨by rfl, rfl⟩) ?_ ?_
            rotate_left
            ·simp only [Act.put, lA_, lZ_, lS_, i64_w, i32_w]
             rfl
            refine pure_ (i := 33) (N := some 96) (v := undef) (a' := ?_) #[true, true, true, true, true, true, true, true, true, true, true, true, true, true, true, true, true, true, true, true, true, true, true, true, true, true, true, true, true, true, true, true, true, true, false, false, false, false, false, false] rfl rfl (any_of HT_.out (by kernel_rfl)) (fun _ _ _ h => h) (Or.inr ⟨by rfl, rfl⟩) ?_ ?_
            rotate_left
            ·simp only [Act.put, lA_, lZ_, lS_, i64_w, i32_w]
             rfl
            refine pure_ (i := 34) (N := some 97) (v := undef) (a' := ?_) #[true, true, true, true, true, true, true, true, true, true, true, true, true, true, true, true, true, true, true, true, true, true, true, true, true, true, true, true, true, true, true, true, true, true, true, false, false, false, false, false] rfl rfl (any_of HT_.out (by kernel_rfl)) (fun _ _ _ h => h) (Or.inr ⟨by rfl, rfl⟩) ?_ ?_
            rotate_left
            ·simp only [Act.put, lA_, lZ_, lS_, i64_w, i32_w]
             rfl
            refine pure_ (i := 35) (N := some 98) (v := undef) (a' := ?_) #[true, true, true, true, true, true, true, true, true, true, true, true, true, true, true, true, true, true, true, true, true, true, true, true, true, true, true, true, true, true, true, true, true, true, true, true, false, false, false, false] rfl rfl (any_of HT_.out (by kernel_rfl)) (fun _ _ _ h => h) (Or.inr ⟨by rfl, rfl⟩) ?_ ?_
            rotate_left
            ·simp only [Act.put, lA_, lZ_, lS_, i64_w, i32_w]
             rfl
            refine pure_ (i := 36) (N := some 99) (v := undef) (a' := ?_) #[true, true, true, true, true, true, true, true, true, true, true, true, true, true, true, true, true, true, true, true, true, true, true, true, true, true, true, true, true, true, true, true, true, true, true, true, true, false, false, false] rfl rfl (any_of HT_.out (by kernel_rfl)) (fun _ _ _ h => h) (Or.inr ⟨by rfl, rfl⟩) ?_ ?_
            rotate_left
            ·simp only [Act.put, lA_, lZ_, lS_, i64_w, i32_w]
             rfl
            refine pure_ (i := 37) (N := some 100) (v := undef) (a' := ?_) #[true, true, true, true, true, true, true, true, true, true, true, true, true, true, true, true, true, true, true, true, true, true, true, true, true, true, true, true, true, true, true, true, true, true, true, true, true, true, false, false] rfl rfl (any_of HT_.out (by kernel_rfl)) (fun _ _ _ h => h) (Or.inr ⟨by rfl, rfl⟩) ?_ ?_
            rotate_left
            ·simp only [Act.put, lA_, lZ_, lS_, i64_w, i32_w]
             rfl
            refine pure_ (i := 38) (N := some 101) (v := undef) (a' := ?_) #[true, true, true, true, true, true, true, true, true, true, true, true, true, true, true, true, true, true, true, true, true, true, true, true, true, true, true, true, true, true, true, true, true, true, true, true, true, true, true, false] rfl rfl (any_of HT_.out (by kernel_rfl)) (fun _ _ _ h => h) (Or.inr ⟨by rfl, rfl⟩) ?_ ?_
            rotate_left
            ·simp only [Act.put, lA_, lZ_, lS_, i64_w, i32_w]
             rfl
            refine pure_ (i := 39) (N := some 102) (v := ?_) (a' := ?_) #[true, true, true, true, true, true, true, true, true, true, true, true, true, true, true, true, true, true, true, true, true, true, true, true, true, true, true, true, true, true, true, true, true, true, true, true, true, true, true, true] rfl rfl (any_of HT_.out (by kernel_rfl)) (fun _ _ _ h => h) (Or.inl ⟨by rfl, ?_⟩) ?_ ?_
            rotate_left
            ·intro w'
             go_simp
             with_reducible rfl
            rotate_left
            ·simp only [Act.put, lA_, lZ_, lS_, i64_w, i32_w]
             rfl
            refine done_ (done_of HT_.out (by kernel_rfl)) ?_
            try go_wp2
            go_roundg kj16
            case measure => have := HK1.out; have := HJ16.out; omega
            case rel => exact ⟨(wrap64 (x6_1 + 1)), (by first | rfl | (simp; done) | (simp [*]; done)), H', ⟨by have := HK1.out; have := HJ16.out; omega⟩, ⟨by (with_reducible repeat (first | apply Kd.R_alloc | apply Kd.R_drewN | apply Kd.R_drew)); exact HO_4.out⟩, ⟨by (with_reducible repeat (first | apply Kd.R_alloc | apply Kd.R_drewN | apply Kd.R_drew)); exact HO_583001.out⟩, ⟨by (with_reducible repeat (first | refine blk_drewN ?_ _ | refine blk_drew ?_ | refine blk_alloc ?_ _)); exact BK577.out⟩, ⟨by (with_reducible repeat (first | refine blk_drewN ?_ _ | refine blk_drew ?_ | refine blk_alloc ?_ _)); exact BK582.out⟩, ⟨by repeat (first | (with_reducible first | exact HB.out | apply below_alloc | apply pw_below_drewN | apply below_drew1 | refine below_set ?_ GE577.out | refine below_set ?_ GE582.out | refine below_set ?_ GE600.out) | exact HB.out)⟩⟩
          ·rw [if_neg c32] at H
           exact absurd H (by simp)
         ·rw [if_neg c31] at H
          exact absurd H (by simp)
     ·rw [if_neg c16] at H
      have c16b0 : decide (x6_1 < (t579.length : Int)) = false := decide_eq_false c16
      clear c16
      replace H := Option.bind_eq_some_iff.mp H
      obtain ⟨⟨t609, t610⟩, A650, H⟩ := H
      try dsimp only at H
      have A65 := Aside0.mk A650
      clear A650
      have H' := Aside0.mk H
      clear H
      have hnb66 := NB582_577.out
      have hnc66 := NB577_582.out
      have hcz67_0 : wr.cell? ⟨gb582, 0, none⟩ = some (.int .i64 t578) := (blk_cell BK582.out 0).trans rfl
      have hcz67_1 : wr.cell? ⟨gb582, 1, none⟩ = some (.slice Ao15 t579.length co15) := (blk_cell BK582.out 1).trans rfl
      have hfz67_0 := blk_frozen BK582.out 0
      have hfz67_1 := blk_frozen BK582.out 1
      have hcz68_0 : wr.cell? ⟨gb577, 0, none⟩ = some (.int .i64 t572) := (blk_cell BK577.out 0).trans rfl
      have hcz68_1 : wr.cell? ⟨gb577, 1, none⟩ = some (.int .i64 t573) := (blk_cell BK577.out 1).trans rfl
      have hfz68_0 := blk_frozen BK577.out 0
      have hfz68_1 := blk_frozen BK577.out 1
      go_wp2_with (first | (refine upon_field_ (ty := 2) 0 Try.underlying39 Try.underlying2 rfl rfl rfl ?_) | (refine upon_field_ (ty := 2) 0 Try.underlying48 Try.underlying2 rfl rfl rfl ?_) | (refine upon_field_ (ty := 44) 1 Try.underlying48 Try.underlying44 rfl rfl rfl ?_) | ((with_reducible refine gate_callee (f := 29) rfl ?_); refine goesL_ (some 104) rfl rfl Try.func29 (by kernel_rfl) rfl #[.agg #[.int .i64 t572, .int .i64 t573]] rfl (by (try simp only [List.map_toArray, List.map_cons, List.map_nil]); first | done | rfl | (simp only [List.length_drop, List.length_take]; rfl)) ?_; (with_reducible refine (impl_MissingIn.calls k1 t572 t573 t609 t610 _ A65.out).mono ?_); rintro e w69 ⟨v611, rfl, ho0, hb⟩; refine ⟨_, rfl, ?_⟩; have n0_ := Aside0.mk (Kd.R_elder' (by (with_reducible repeat (first | apply Kd.R_alloc | apply Kd.R_drewN | apply Kd.R_drew)); exact HO_4.out) (Kd.R_base ho0) hb); have n1_ := Aside0.mk (Kd.R_elder' (by (with_reducible repeat (first | apply Kd.R_alloc | apply Kd.R_drewN | apply Kd.R_drew)); exact HO_583001.out) (Kd.R_base ho0) hb); have n2_ := Aside0.mk (Kd.R_lower (Kd.R_new' (Kd.R_new' ho0 (Kd.R_lt (by (with_reducible repeat (first | apply Kd.R_alloc | apply Kd.R_drewN | apply Kd.R_drew)); exact HO_4.out))) (Kd.R_lt (by (with_reducible repeat (first | apply Kd.R_alloc | apply Kd.R_drewN | apply Kd.R_drew)); exact HO_583001.out))) (below_size (by repeat (first | (with_reducible first | exact HB.out | apply below_alloc | apply pw_below_drewN | apply below_drew1 | refine below_set ?_ GE577.out | refine below_set ?_ GE582.out) | exact HB.out)))); have n3_ := Aside0.mk (blk_below (g := gb577) (o := .cells #[.int .i64 t572, .int .i64 t573] 34 (0, 0)) (by (with_reducible repeat (first | refine blk_drewN ?_ _ | refine blk_drew ?_ | refine blk_alloc ?_ _)); exact BK577.out) hb); have n4_ := Aside0.mk (blk_below (g := gb582) (o := .cells #[.int .i64 t578, .slice Ao15 t579.length co15] 48 (0, 0)) (by (with_reducible repeat (first | refine blk_drewN ?_ _ | refine blk_drew ?_ | refine blk_alloc ?_ _)); exact BK582.out) hb); have n5_ := Aside0.mk (below_step (by repeat (first | (with_reducible first | exact HB.out | apply below_alloc | apply pw_below_drewN | apply below_drew1 | refine below_set ?_ GE577.out | refine below_set ?_ GE582.out) | exact HB.out)) hb); clear HO_4; clear HO_583001; clear BK577; clear BK582; clear HB; have HO_4 := n0_; have HO_583001 := n1_; have HO612 := n2_; have BK577 := n3_; have BK582 := n4_; have HB := n5_; clear n0_ n1_ n2_ n3_ n4_ n5_; (try clear hb); (try clear hb2); (try clear hk); (try clear hi); (try clear ho0)) | ((with_reducible refine gate_dst (N := 8) rfl ?_); refine box_event ?hg (N := 8) ?hd (cs := #[.int .i64 0, .slice none 0 0]) (t := 48) ?hr ?_; (case hd => rfl); (case hg => rfl); (case hr => first | (go_simp; done) | (go_simp; rfl)); intro gb613 hg w70 hbox hb; have n0_ := Aside0.mk (Kd.R_below (by (with_reducible repeat (first | apply Kd.R_alloc | apply Kd.R_drewN | apply Kd.R_drew)); exact HO_4.out) hb); have n1_ := Aside0.mk (Kd.R_below (by (with_reducible repeat (first | apply Kd.R_alloc | apply Kd.R_drewN | apply Kd.R_drew)); exact HO_583001.out) hb); have n2_ := Aside0.mk (Kd.R_below (by (with_reducible repeat (first | apply Kd.R_alloc | apply Kd.R_drewN | apply Kd.R_drew)); exact HO612.out) hb); have n3_ := Aside0.mk (blk_below (g := gb577) (o := .cells #[.int .i64 t572, .int .i64 t573] 34 (0, 0)) (by (with_reducible repeat (first | refine blk_drewN ?_ _ | refine blk_drew ?_ | refine blk_alloc ?_ _)); exact BK577.out) hb); have n4_ := Aside0.mk (blk_below (g := gb582) (o := .cells #[.int .i64 t578, .slice Ao15 t579.length co15] 48 (0, 0)) (by (with_reducible repeat (first | refine blk_drewN ?_ _ | refine blk_drew ?_ | refine blk_alloc ?_ _)); exact BK582.out) hb); have n5_ := Aside0.mk (below_step (by repeat (first | (with_reducible first | exact HB.out | apply below_alloc | apply pw_below_drewN | apply below_drew1 | refine below_set ?_ GE577.out | refine below_set ?_ GE582.out) | exact HB.out)) hb); have n6_ := Aside0.mk (hbox); have n7_ := Aside0.mk ((by rw [hg]; exact (below_size (by repeat (first | (with_reducible first | exact HB.out | apply below_alloc | apply pw_below_drewN | apply below_drew1 | refine below_set ?_ GE577.out | refine below_set ?_ GE582.out) | exact HB.out))) : w.heap.size ≤ gb613)); have n8_ := Aside0.mk ((by rw [hg]; exact (below_size (by repeat (first | (with_reducible first | exact HB.out | apply below_alloc | apply pw_below_drewN | apply below_drew1 | refine below_set ?_ GE577.out | refine below_set ?_ GE582.out) | exact HB.out))) : w.heap.size ≤ gb613)); have n9_ := Aside0.mk ((by rw [hg]; exact Nat.ne_of_lt (blk_lt (g := gb577) (o := .cells #[.int .i64 t572, .int .i64 t573] 34 (0, 0)) (by (with_reducible repeat (first | refine blk_drewN ?_ _ | refine blk_drew ?_ | refine blk_alloc ?_ _)); exact BK577.out)) : gb577 ≠ gb613)); have n10_ := Aside0.mk ((by rw [hg]; exact Nat.ne_of_gt (blk_lt (g := gb577) (o := .cells #[.int .i64 t572, .int .i64 t573] 34 (0, 0)) (by (with_reducible repeat (first | refine blk_drewN ?_ _ | refine blk_drew ?_ | refine blk_alloc ?_ _)); exact BK577.out)) : gb613 ≠ gb577)); have n11_ := Aside0.mk ((by rw [hg]; exact Nat.ne_of_lt (blk_lt (g := gb582) (o := .cells #[.int .i64 t578, .slice Ao15 t579.length co15] 48 (0, 0)) (by (with_reducible repeat (first | refine blk_drewN ?_ _ | refine blk_drew ?_ | refine blk_alloc ?_ _)); exact BK582.out)) : gb582 ≠ gb613)); have n12_ := Aside0.mk ((by rw [hg]; exact Nat.ne_of_gt (blk_lt (g := gb582) (o := .cells #[.int .i64 t578, .slice Ao15 t579.length co15] 48 (0, 0)) (by (with_reducible repeat (first | refine blk_drewN ?_ _ | refine blk_drew ?_ | refine blk_alloc ?_ _)); exact BK582.out)) : gb613 ≠ gb582)); clear HO_4; clear HO_583001; clear HO612; clear BK577; clear BK582; clear HB; have HO_4 := n0_; have HO_583001 := n1_; have HO612 := n2_; have BK577 := n3_; have BK582 := n4_; have HB := n5_; have BK613 := n6_; have GW613 := n7_; have GE613 := n8_; have NB577_613 := n9_; have NB613_577 := n10_; have NB582_613 := n11_; have NB613_582 := n12_; clear n0_ n1_ n2_ n3_ n4_ n5_ n6_ n7_ n8_ n9_ n10_ n11_ n12_; clear hb hbox hg; have hnb71 := NB613_577.out; have hnc71 := NB577_613.out; have hnb72 := NB613_582.out; have hnc72 := NB582_613.out; have hcz73_0 : w70.cell? ⟨gb613, 0, none⟩ = some (.int .i64 0) := (blk_cell BK613.out 0).trans rfl; have hcz73_1 : w70.cell? ⟨gb613, 1, none⟩ = some (.slice none 0 0) := (blk_cell BK613.out 1).trans rfl; have hfz73_0 := blk_frozen BK613.out 0; have hfz73_1 := blk_frozen BK613.out 1; obtain ⟨Ao74, co74, eo74⟩ := Kd.R_slice HO612.out; subst eo74))
      go_loopg [9] k1 (fun kq v9 w' => ∃ (x9_2 : Int), v9 = .int .i64 x9_2 ∧ Aside0 (laws_FnWindows.l1 kq t574 x9_2 t572 t573 t578 t579 t609 t610 = some true) ∧ Aside0 (kq ≤ k1) ∧ Aside0 (Kd.R (Kd.int .i64) 2 w' w.heap.size (fun k_ => some k_ ≠ ((.slice Ao15 t579.length co15) : Value).ownBlock ∧ some k_ ≠ ((.slice Ao74 t610.length co74) : Value).ownBlock) (.slice Ao10 t574.length co10) t574) ∧ Aside0 (Kd.R (Kd.int .i64) 2 w' w.heap.size (fun k_ => some k_ ≠ ((.slice Ao10 t574.length co10) : Value).ownBlock ∧ some k_ ≠ ((.slice Ao74 t610.length co74) : Value).ownBlock) (.slice Ao15 t579.length co15) t579) ∧ Aside0 (Kd.R (Kd.int .i64) 2 w' w.heap.size (fun k_ => some k_ ≠ ((.slice Ao10 t574.length co10) : Value).ownBlock ∧ some k_ ≠ ((.slice Ao15 t579.length co15) : Value).ownBlock) (.slice Ao74 t610.length co74) t610) ∧ Aside0 (w'.heap[gb577]? = some (.cells #[.int .i64 t572, .int .i64 t573] 34 (0, 0))) ∧ Aside0 (w'.heap[gb582]? = some (.cells #[.int .i64 t578, (.slice Ao15 t579.length co15)] 48 (0, 0))) ∧ Aside0 (w'.heap[gb613]? = some (.cells #[.int .i64 t609, (.slice Ao74 t610.length co74)] 48 (0, 0))) ∧ Aside0 (Below w.heap.size w w'))
      case atStart => exact ⟨(0), (by first | rfl | (simp; done) | (simp [*]; done)), H', ⟨Nat.le_refl _⟩, ⟨by (with_reducible repeat (first | apply Kd.R_alloc | apply Kd.R_drewN | apply Kd.R_drew)); exact Kd.R_mono (Kd.R_far (p := ⟨gb613, 1, none⟩) (Kd.R_far (p := ⟨gb613, 0, none⟩) (Kd.R_types HO_4.out BK613.out (by decide)) (fun _ hk => hk.2) (.int .i64 t609)) (fun _ hk => hk.2) (.slice Ao74 t610.length co74)) (fun _ hk => ⟨hk.1.1, hk.1.2⟩)⟩, ⟨by (with_reducible repeat (first | apply Kd.R_alloc | apply Kd.R_drewN | apply Kd.R_drew)); exact Kd.R_mono (Kd.R_far (p := ⟨gb613, 1, none⟩) (Kd.R_far (p := ⟨gb613, 0, none⟩) (Kd.R_types HO_583001.out BK613.out (by decide)) (fun _ hk => hk.2) (.int .i64 t609)) (fun _ hk => hk.2) (.slice Ao74 t610.length co74)) (fun _ hk => ⟨hk.1.1, hk.1.2⟩)⟩, ⟨by (with_reducible repeat (first | apply Kd.R_alloc | apply Kd.R_drewN | apply Kd.R_drew)); exact Kd.R_mono (Kd.R_far (p := ⟨gb613, 1, none⟩) (Kd.R_far (p := ⟨gb613, 0, none⟩) (Kd.R_types HO612.out BK613.out (by decide)) (fun _ hk => hk.2) (.int .i64 t609)) (fun _ hk => hk.2) (.slice Ao74 t610.length co74)) (fun _ hk => ⟨hk.1.1.2, hk.1.2⟩)⟩, ⟨by (with_reducible repeat (first | refine blk_drewN ?_ _ | refine blk_drew ?_ | refine blk_alloc ?_ _)); refine blk_far ?_ NB577_613.out _; (with_reducible repeat (first | refine blk_drewN ?_ _ | refine blk_drew ?_ | refine blk_alloc ?_ _)); refine blk_far ?_ NB577_613.out _; (with_reducible repeat (first | refine blk_drewN ?_ _ | refine blk_drew ?_ | refine blk_alloc ?_ _)); exact BK577.out⟩, ⟨by (with_reducible repeat (first | refine blk_drewN ?_ _ | refine blk_drew ?_ | refine blk_alloc ?_ _)); refine blk_far ?_ NB582_613.out _; (with_reducible repeat (first | refine blk_drewN ?_ _ | refine blk_drew ?_ | refine blk_alloc ?_ _)); refine blk_far ?_ NB582_613.out _; (with_reducible repeat (first | refine blk_drewN ?_ _ | refine blk_drew ?_ | refine blk_alloc ?_ _)); exact BK582.out⟩, ⟨by (with_reducible repeat (first | refine blk_drewN ?_ _ | refine blk_drew ?_ | refine blk_alloc ?_ _)); refine blk_put (cs := #[.int .i64 t609, .slice none 0 0]) ?_ 1 _ rfl; (with_reducible repeat (first | refine blk_drewN ?_ _ | refine blk_drew ?_ | refine blk_alloc ?_ _)); refine blk_put (cs := #[.int .i64 0, .slice none 0 0]) ?_ 0 _ rfl; (with_reducible repeat (first | refine blk_drewN ?_ _ | refine blk_drew ?_ | refine blk_alloc ?_ _)); exact BK613.out⟩, ⟨by repeat (first | (with_reducible first | exact HB.out | apply below_alloc | apply pw_below_drewN | apply below_drew1 | refine below_set ?_ GE577.out | refine below_set ?_ GE582.out | refine below_set ?_ GE613.out) | exact HB.out)⟩⟩
      case round =>
       clear H'
       try clear c1
       try clear c2
       try clear p2
       try clear c3
       try clear p5
       try clear q5
       try clear hx5
       try clear c6
       try clear p6
       try clear c7
       try clear c16
       try clear c16b0
       try clear c18
       try clear c29
       try clear c31
       try clear c32
       try clear c34
       try clear c34b0
       try clear c34b1
       try clear c36
       try clear c38
       try clear c38b0
       try clear c38b1
       try clear p59
       try clear q59
       try clear hx59
       try clear p64
       try clear c66
       try clear c71
       try clear c72
       try clear hcz67_0
       try clear hcz67_1
       try clear hcz68_0
       try clear hcz68_1
       try clear hcz73_0
       try clear hcz73_1
       try clear hfz67_0
       try clear hfz67_1
       try clear hfz68_0
       try clear hfz68_1
       try clear hfz73_0
       try clear hfz73_1
       try clear hx595_0
       try clear p595
       try clear q595
       obtain ⟨x9_2, rfl, HA, HK2, HO_4, HO_583001, HO_614001, BK577, BK582, BK613, HB⟩ := hrel
       cases gk with
       | zero => exact absurd HA.out (by simp [laws_FnWindows.l1])
       | succ k2 =>
        have H := HA.out
        clear HA
        simp only [laws_FnWindows.l1] at H
        by_cases c75 : x9_2 < (t610.length : Int)
        ·rw [if_pos c75] at H
         have c75b0 : decide (x9_2 < (t610.length : Int)) = true := decide_eq_true c75
         clear c75
         by_cases c76 : 0 ≤ x9_2
         ·rw [if_pos c76] at H
          have c76b0 : decide (0 ≤ x9_2) = true := decide_eq_true c76
          clear c76
          replace H := Option.bind_eq_some_iff.mp H
          obtain ⟨t615, A770, H⟩ := H
          try dsimp only at H
          have A77 := Aside0.mk A770
          clear A770
          by_cases c78 : t615 = true
          ·subst c78
           rw [if_pos rfl] at H
           exact absurd (Option.some.inj H) (by decide)
          ·replace c78 := Bool.eq_false_iff.mpr c78
           subst c78
           rw [if_neg (show ¬ (false = true) by decide)] at H
           by_cases c79 : (rd t610 x9_2) ≥ t572
           ·rw [if_pos c79] at H
            have c79b0 : decide (t572 ≤ (rd t610 x9_2)) = true := decide_eq_true c79
            clear c79
            exact absurd (Option.some.inj H) (by decide)
           ·rw [if_neg c79] at H
            have c79b0 : decide (t572 ≤ (rd t610 x9_2)) = false := decide_eq_false c79
            clear c79
            have H' := Aside0.mk H
            clear H
            have hnb80 := NB613_577.out
            have hnc80 := NB577_613.out
            have hnb81 := NB613_582.out
            have hnc81 := NB582_613.out
            have hcz82_0 : wr.cell? ⟨gb613, 0, none⟩ = some (.int .i64 t609) := (blk_cell BK613.out 0).trans rfl
            have hcz82_1 : wr.cell? ⟨gb613, 1, none⟩ = some (.slice Ao74 t610.length co74) := (blk_cell BK613.out 1).trans rfl
            have hfz82_0 := blk_frozen BK613.out 0
            have hfz82_1 := blk_frozen BK613.out 1
            try go_wp2
            have n0_ := Aside0.mk (Kd.R_drew HO_4.out)
            have n1_ := Aside0.mk (Kd.R_drew HO_583001.out)
            have n2_ := Aside0.mk (Kd.R_drew HO_614001.out)
            have n3_ := Aside0.mk (blk_drew BK577.out)
            have n4_ := Aside0.mk (blk_drew BK582.out)
            have n5_ := Aside0.mk (blk_drew BK613.out)
            have n6_ := Aside0.mk (below_drew1 HB.out)
            clear HO_4
            clear HO_583001
            clear HO_614001
            clear BK577
            clear BK582
            clear BK613
            clear HB
            have HO_4 := n0_
            have HO_583001 := n1_
            have HO_614001 := n2_
            have BK577 := n3_
            have BK582 := n4_
            have BK613 := n5_
            have HB := n6_
            clear n0_ n1_ n2_ n3_ n4_ n5_ n6_
            have p614 : 0 ≤ (x9_2 : Int) := of_decide_eq_true (by first | (with_reducible assumption) | assumption)
            have q614 : x9_2 < (t610.length : Int) := of_decide_eq_true (by first | (with_reducible assumption) | assumption)
            obtain ⟨ad614, e614, hx614_0⟩ := Kd.at_int (Kd.R_reads' HO_614001.out).2.2 x9_2 p614 q614
            cases e614
            replace p614 := eq_true p614
            replace q614 := eq_true q614
            have p616 : 0 ≤ (x9_2 : Int) := of_decide_eq_true (by first | (with_reducible assumption) | assumption)
            have q616 : x9_2 < (t610.length : Int) := of_decide_eq_true (by first | (with_reducible assumption) | assumption)
            obtain ⟨ad616, e616, hx616_0⟩ := Kd.at_int (Kd.R_reads' HO_614001.out).2.2 x9_2 p616 q616
            obtain rfl : ad614 = ad616 := (by injection e616)
            replace p616 := eq_true p616
            replace q616 := eq_true q616
            refine start_ (n := 17) (S := fun w' => w'.cell? ⟨gb577, 0, none⟩ = some (.int .i64 t572) ∧ w'.cell? ⟨gb577, 1, none⟩ = some (.int .i64 t573) ∧ w'.cell? ⟨gb613, 0, none⟩ = some (.int .i64 t609) ∧ w'.cell? ⟨gb613, 1, none⟩ = some (.slice (some ad614) t610.length co74) ∧ w'.cell? (ad614.add (x9_2).toNat) = some (.int .i64 (rd t610 x9_2)) ∧ w'.cell? (ad614.add (x9_2).toNat) = some (.int .i64 (rd t610 x9_2))) (ds := []) #[false, false, false, false, false, false, false, false, false, false, false, false, false, false, false, false, false] (by kernel_rfl) rfl rfl ⟨(blk_cell BK577.out 0).trans rfl, (blk_cell BK577.out 1).trans rfl, (blk_cell BK613.out 0).trans rfl, (blk_cell BK613.out 1).trans rfl, hx614_0, hx616_0⟩ (fun hHeld => ?_); refine with_tabW laws_FnWindows.tab19 laws_FnWindows.bits19 (fun HT_ HW_ => ?_)
            generalize wr.drew = w83 at HO_4 HO_583001 HO_614001 BK577 BK582 BK613 HB hx614_0 hx616_0 hHeld ⊢
            refine pure_ (i := 1) (N := some 113) (v := ?_) (a' := ?_) #[false, true, false, false, false, false, false, false, false, false, false, false, false, false, false, false, false] rfl rfl (any_of HT_.out (by kernel_rfl)) (fun _ _ _ h => h) (Or.inl ⟨by rfl, ?_⟩) ?_ ?_
            rotate_left
            ·intro w'
             go_simp
             with_reducible rfl
            rotate_left
            ·simp only [Act.put, lA_, lZ_, lS_, i64_w, i32_w]
             rfl
            refine pure_ (i := 3) (N := some 115) (v := ?_) (a' := ?_) #[false, true, false, true, false, false, false, false, false, false, false, false, false, false, false, false, false] rfl rfl (any_of HT_.out (by kernel_rfl)) (fun _ _ _ h => h) (Or.inl ⟨by rfl, ?_⟩) ?_ ?_
            rotate_left
            ·intro w'
             go_simp
             with_reducible rfl
            rotate_left
            ·simp only [Act.put, lA_, lZ_, lS_, i64_w, i32_w]
             rfl
            refine take_ (i := 0) (N := some 112) (v := ?_) (a' := ?_) #[true, true, false, true, false, false, false, false, false, false, false, false, false, false, false, false, false] rfl rfl (take_ofW HT_.out HW_.out (by kernel_rfl)) (fun _ _ _ h => h) (Or.inl ⟨by rfl, ?_⟩) hHeld ?_ ?_
            rotate_left
            ·rintro w' ⟨s0, s1, s2, s3, s4, s5⟩
             go_simp
             with_reducible rfl
            rotate_left
            ·simp only [Act.put, lA_, lZ_, lS_, i64_w, i32_w]
             rfl
            refine take_ (i := 2) (N := some 114) (v := ?_) (a' := ?_) #[true, true, true, true, false, false, false, false, false, false, false, false, false, false, false, false, false] rfl rfl (take_ofW HT_.out HW_.out (by kernel_rfl)) (fun _ _ _ h => h) (Or.inl ⟨by rfl, ?_⟩) hHeld ?_ ?_
            rotate_left
            ·rintro w' ⟨s0, s1, s2, s3, s4, s5⟩
             go_simp
             with_reducible rfl
            rotate_left
            ·simp only [Act.put, lA_, lZ_, lS_, i64_w, i32_w]
             rfl
            refine pure_ (i := 4) (N := some 116) (v := ?_) (a' := ?_) #[true, true, true, true, true, false, false, false, false, false, false, false, false, false, false, false, false] rfl rfl (any_of HT_.out (by kernel_rfl)) (fun _ _ _ h => h) (Or.inl ⟨by rfl, ?_⟩) ?_ ?_
            rotate_left
            ·intro w'
             go_simp
             with_reducible rfl
            rotate_left
            ·simp only [Act.put, lA_, lZ_, lS_, i64_w, i32_w]
             rfl
            refine take_ (i := 5) (N := some 117) (v := ?_) (a' := ?_) #[true, true, true, true, true, true, false, false, false, false, false, false, false, false, false, false, false] rfl rfl (take_ofW HT_.out HW_.out (by kernel_rfl)) (fun _ _ _ h => h) (Or.inl ⟨by rfl, ?_⟩) hHeld ?_ ?_
            rotate_left
            ·rintro w' ⟨s0, s1, s2, s3, s4, s5⟩
             go_simp
             with_reducible rfl
            rotate_left
            ·simp only [Act.put, lA_, lZ_, lS_, i64_w, i32_w]
             rfl
            refine one_ (i := 6) (N := some 118) #[true, true, true, true, true, true, true, false, false, false, false, false, false, false, false, false, false] rfl rfl (one_of HT_.out (by kernel_rfl)) (by decide) (fun K hK => ?_)
            refine goes_ Try.func27 (by kernel_rfl) rfl #[.agg #[.int .i64 t572, .int .i64 t573], .int .i64 (rd t610 x9_2)] (by rfl) rfl rfl (by (try simp only [List.map_toArray, List.map_cons, List.map_nil]); first | done | rfl | (simp only [List.length_drop, List.length_take]; rfl)) ?_
            with_reducible refine (impl_SeenIn.calls k2 t572 t573 (rd t610 x9_2) false _ A77.out).mono ?_
            rintro e w84 ⟨rfl, hb⟩
            have HS4_ := (hb.cell (World.block_lt_of_cell? _ _ (hHeld.2.2.2.2.1))).trans (hHeld.2.2.2.2.1)
            have HS5_ := (hb.cell (World.block_lt_of_cell? _ _ (hHeld.2.2.2.2.2))).trans (hHeld.2.2.2.2.2)
            refine ⟨_, rfl, ?_⟩
            have n0_ := Aside0.mk (Kd.R_below (by (with_reducible repeat (first | apply Kd.R_alloc | apply Kd.R_drewN | apply Kd.R_drew)); exact HO_4.out) hb)
            have n1_ := Aside0.mk (Kd.R_below (by (with_reducible repeat (first | apply Kd.R_alloc | apply Kd.R_drewN | apply Kd.R_drew)); exact HO_583001.out) hb)
            have n2_ := Aside0.mk (Kd.R_below (by (with_reducible repeat (first | apply Kd.R_alloc | apply Kd.R_drewN | apply Kd.R_drew)); exact HO_614001.out) hb)
            have n3_ := Aside0.mk (blk_below (g := gb577) (o := .cells #[.int .i64 t572, .int .i64 t573] 34 (0, 0)) (by (with_reducible repeat (first | refine blk_drewN ?_ _ | refine blk_drew ?_ | refine blk_alloc ?_ _)); exact BK577.out) hb)
            have n4_ := Aside0.mk (blk_below (g := gb582) (o := .cells #[.int .i64 t578, .slice Ao15 t579.length co15] 48 (0, 0)) (by (with_reducible repeat (first | refine blk_drewN ?_ _ | refine blk_drew ?_ | refine blk_alloc ?_ _)); exact BK582.out) hb)
            have n5_ := Aside0.mk (blk_below (g := gb613) (o := .cells #[.int .i64 t609, .slice (some ad614) t610.length co74] 48 (0, 0)) (by (with_reducible repeat (first | refine blk_drewN ?_ _ | refine blk_drew ?_ | refine blk_alloc ?_ _)); exact BK613.out) hb)
            have n6_ := Aside0.mk (below_step (by repeat (first | (with_reducible first | exact HB.out | apply below_alloc | apply pw_below_drewN | apply below_drew1 | refine below_set ?_ GE577.out | refine below_set ?_ GE582.out | refine below_set ?_ GE613.out) | exact HB.out)) hb)
            clear HO_4
            clear HO_583001
            clear HO_614001
            clear BK577
            clear BK582
            clear BK613
            clear HB
            have HO_4 := n0_
            have HO_583001 := n1_
            have HO_614001 := n2_
            have BK577 := n3_
            have BK582 := n4_
            have BK613 := n5_
            have HB := n6_
            clear n0_ n1_ n2_ n3_ n4_ n5_ n6_
            (try clear hb)
            (try clear hb2)
            (try clear hk)
            (try clear hi)
            refine hK.out _ _ ⟨(blk_cell BK577.out 0).trans rfl, (blk_cell BK577.out 1).trans rfl, (blk_cell BK613.out 0).trans rfl, (blk_cell BK613.out 1).trans rfl, HS4_, HS5_⟩ (fun hHeld => ?_)
            clear hK K
            refine norm_ (a' := ?_) ?_ ?_
            rotate_left
            ·show Act.put _ (some 118) _ = _
             simp only [Act.put, lA_, lZ_, lS_, i64_w, i32_w]
             rfl
            refine pure_ (i := 7) (N := some 119) (v := ?_) (a' := ?_) #[true, true, true, true, true, true, true, true, false, false, false, false, false, false, false, false, false] rfl rfl (any_of HT_.out (by kernel_rfl)) (fun _ _ _ h => h) (Or.inl ⟨by rfl, ?_⟩) ?_ ?_
            rotate_left
            ·intro w'
             go_simp
             with_reducible rfl
            rotate_left
            ·simp only [Act.put, lA_, lZ_, lS_, i64_w, i32_w]
             rfl
            refine pure_ (i := 8) (N := some 120) (v := ?_) (a' := ?_) #[true, true, true, true, true, true, true, true, true, false, false, false, false, false, false, false, false] rfl rfl (any_of HT_.out (by kernel_rfl)) (fun _ _ _ h => h) (Or.inl ⟨by rfl, ?_⟩) ?_ ?_
            rotate_left
            ·intro w'
             go_simp
             with_reducible rfl
            rotate_left
            ·simp only [Act.put, lA_, lZ_, lS_, i64_w, i32_w]
             rfl
            refine pure_ (i := 10) (N := some 122) (v := ?_) (a' := ?_) #[true, true, true, true, true, true, true, true, true, false, true, false, false, false, false, false, false] rfl rfl (any_of HT_.out (by kernel_rfl)) (fun _ _ _ h => h) (Or.inl ⟨by rfl, ?_⟩) ?_ ?_
            rotate_left
            ·intro w'
             go_simp
             with_reducible rfl
            rotate_left
            ·simp only [Act.put, lA_, lZ_, lS_, i64_w, i32_w]
             rfl
            refine pure_ (i := 13) (N := some 125) (v := ?_) (a' := ?_) #[true, true, true, true, true, true, true, true, true, false, true, false, false, true, false, false, false] rfl rfl (any_of HT_.out (by kernel_rfl)) (fun _ _ _ h => h) (Or.inl ⟨by rfl, ?_⟩) ?_ ?_
            rotate_left
            ·intro w'
             go_simp
             with_reducible rfl
            rotate_left
            ·simp only [Act.put, lA_, lZ_, lS_, i64_w, i32_w]
             rfl
            refine take_ (i := 9) (N := some 121) (v := ?_) (a' := ?_) #[true, true, true, true, true, true, true, true, true, true, true, false, false, true, false, false, false] rfl rfl (take_ofW HT_.out HW_.out (by kernel_rfl)) (fun _ _ _ h => h) (Or.inl ⟨by rfl, ?_⟩) hHeld ?_ ?_
            rotate_left
            ·rintro w' ⟨s0, s1, s2, s3, s4, s5⟩
             go_simp
             with_reducible rfl
            rotate_left
            ·simp only [Act.put, lA_, lZ_, lS_, i64_w, i32_w]
             rfl
            refine pure_ (i := 11) (N := some 123) (v := ?_) (a' := ?_) #[true, true, true, true, true, true, true, true, true, true, true, true, false, true, false, false, false] rfl rfl (any_of HT_.out (by kernel_rfl)) (fun _ _ _ h => h) (Or.inl ⟨by rfl, ?_⟩) ?_ ?_
            rotate_left
            ·intro w'
             go_simp
             with_reducible rfl
            rotate_left
            ·simp only [Act.put, lA_, lZ_, lS_, i64_w, i32_w]
             rfl
            refine take_ (i := 12) (N := some 124) (v := ?_) (a' := ?_) #[true, true, true, true, true, true, true, true, true, true, true, true, true, true, false, false, false] rfl rfl (take_ofW HT_.out HW_.out (by kernel_rfl)) (fun _ _ _ h => h) (Or.inl ⟨by rfl, ?_⟩) hHeld ?_ ?_
            rotate_left
            ·rintro w' ⟨s0, s1, s2, s3, s4, s5⟩
             go_simp
             with_reducible rfl
            rotate_left
            ·simp only [Act.put, lA_, lZ_, lS_, i64_w, i32_w]
             rfl
            refine take_ (i := 14) (N := some 126) (v := ?_) (a' := ?_) #[true, true, true, true, true, true, true, true, true, true, true, true, true, true, true, false, false] rfl rfl (take_ofW HT_.out HW_.out (by kernel_rfl)) (fun _ _ _ h => h) (Or.inl ⟨by rfl, ?_⟩) hHeld ?_ ?_
            rotate_left
            ·rintro w' ⟨s0, s1, s2, s3, s4, s5⟩
             go_simp
             with_reducible rfl
            rotate_left
            ·simp only [Act.put, lA_, lZ_, lS_, i64_w, i32_w]
             rfl
            refine pure_ (i := 15) (N := some 127) (v := ?_) (a' := ?_) #[true, true, true, true, true, true, true, true, true, true, true, true, true, true, true, true, false] rfl rfl (any_of HT_.out (by kernel_rfl)) (fun _ _ _ h => h) (Or.inl ⟨by rfl, ?_⟩) ?_ ?_
            rotate_left
            ·intro w'
             go_simp
             with_reducible rfl
            rotate_left
            ·simp only [Act.put, lA_, lZ_, lS_, i64_w, i32_w]
             rfl
            refine pure_ (i := 16) (N := some 128) (v := ?_) (a' := ?_) #[true, true, true, true, true, true, true, true, true, true, true, true, true, true, true, true, true] rfl rfl (any_of HT_.out (by kernel_rfl)) (fun _ _ _ h => h) (Or.inl ⟨by rfl, ?_⟩) ?_ ?_
            rotate_left
            ·intro w'
             go_simp
             with_reducible rfl
            rotate_left
            ·simp only [Act.put, lA_, lZ_, lS_, i64_w, i32_w]
             rfl
            refine done_ (done_of HT_.out (by kernel_rfl)) ?_
            try go_wp2
            go_roundg k2
            case measure => have := HK1.out; have := HK2.out; omega
            case rel => exact ⟨(wrap64 (x9_2 + 1)), (by first | rfl | (simp; done) | (simp [*]; done)), H', ⟨by have := HK1.out; have := HK2.out; omega⟩, ⟨by (with_reducible repeat (first | apply Kd.R_alloc | apply Kd.R_drewN | apply Kd.R_drew)); exact HO_4.out⟩, ⟨by (with_reducible repeat (first | apply Kd.R_alloc | apply Kd.R_drewN | apply Kd.R_drew)); exact HO_583001.out⟩, ⟨by (with_reducible repeat (first | apply Kd.R_alloc | apply Kd.R_drewN | apply Kd.R_drew)); exact HO_614001.out⟩, ⟨by (with_reducible repeat (first | refine blk_drewN ?_ _ | refine blk_drew ?_ | refine blk_alloc ?_ _)); exact BK577.out⟩, ⟨by (with_reducible repeat (first | refine blk_drewN ?_ _ | refine blk_drew ?_ | refine blk_alloc ?_ _)); exact BK582.out⟩, ⟨by (with_reducible repeat (first | refine blk_drewN ?_ _ | refine blk_drew ?_ | refine blk_alloc ?_ _)); exact BK613.out⟩, ⟨by repeat (first | (with_reducible first | exact HB.out | apply below_alloc | apply pw_below_drewN | apply below_drew1 | refine below_set ?_ GE577.out | refine below_set ?_ GE582.out | refine below_set ?_ GE613.out) | exact HB.out)⟩⟩
         ·rw [if_neg c76] at H
          exact absurd H (by simp)
        ·rw [if_neg c75] at H
         have c75b0 : decide (x9_2 < (t610.length : Int)) = false := decide_eq_false c75
         clear c75
         replace H := Option.bind_eq_some_iff.mp H
         obtain ⟨⟨t617, t618⟩, A850, H⟩ := H
         try dsimp only at H
         have A85 := Aside0.mk A850
         clear A850
         by_cases c86 : (t579.length : Int) = (t618.length : Int)
         ·rw [if_pos c86] at H
          have c86b0 : ((t579.length : Int) == (t618.length : Int)) = true := beq_iff_eq.mpr c86
          have c86b1 : ((t579.length : Int) != (t618.length : Int)) = false := bne_eq_false_iff_eq.mpr c86
          have c86b2 : (t579.length == t618.length) = true := by first | simpa using c86 | (simp at c86 ⊢; omega)
          clear c86
          have hr_ := Aside0.mk (Option.some.inj H)
          clear H
          have hnb87 := NB613_577.out
          have hnc87 := NB577_613.out
          have hnb88 := NB613_582.out
          have hnc88 := NB582_613.out
          have hcz89_0 : wr.cell? ⟨gb613, 0, none⟩ = some (.int .i64 t609) := (blk_cell BK613.out 0).trans rfl
          have hcz89_1 : wr.cell? ⟨gb613, 1, none⟩ = some (.slice Ao74 t610.length co74) := (blk_cell BK613.out 1).trans rfl
          have hfz89_0 := blk_frozen BK613.out 0
          have hfz89_1 := blk_frozen BK613.out 1
          try go_wp2
          have n0_ := Aside0.mk (Kd.R_drew HO_4.out)
          have n1_ := Aside0.mk (Kd.R_drew HO_583001.out)
          have n2_ := Aside0.mk (Kd.R_drew HO_614001.out)
          have n3_ := Aside0.mk (blk_drew BK577.out)
          have n4_ := Aside0.mk (blk_drew BK582.out)
          have n5_ := Aside0.mk (blk_drew BK613.out)
          have n6_ := Aside0.mk (below_drew1 HB.out)
          clear HO_4
          clear HO_583001
          clear HO_614001
          clear BK577
          clear BK582
          clear BK613
          clear HB
          have HO_4 := n0_
          have HO_583001 := n1_
          have HO_614001 := n2_
          have BK577 := n3_
          have BK582 := n4_
          have BK613 := n5_
          have HB := n6_
          clear n0_ n1_ n2_ n3_ n4_ n5_ n6_
          refine start_ (n := 15) (S := fun w' => w'.cell? ⟨gb582, 0, none⟩ = some (.int .i64 t578) ∧ w'.cell? ⟨gb582, 1, none⟩ = some (.slice Ao15 t579.length co15) ∧ w'.cell? ⟨gb577, 0, none⟩ = some (.int .i64 t572) ∧ w'.cell? ⟨gb577, 1, none⟩ = some (.int .i64 t573) ∧ w'.cell? ⟨gb613, 0, none⟩ = some (.int .i64 t609) ∧ w'.cell? ⟨gb613, 1, none⟩ = some (.slice Ao74 t610.length co74)) (ds := []) #[false, false, false, false, false, false, false, false, false, false, false, false, false, false, false] (by kernel_rfl) rfl rfl ⟨(blk_cell BK582.out 0).trans rfl, (blk_cell BK582.out 1).trans rfl, (blk_cell BK577.out 0).trans rfl, (blk_cell BK577.out 1).trans rfl, (blk_cell BK613.out 0).trans rfl, (blk_cell BK613.out 1).trans rfl⟩ (fun hHeld => ?_); refine with_tabW laws_FnWindows.tab21 laws_FnWindows.bits21 (fun HT_ HW_ => ?_)
          generalize wr.drew = w90 at HO_4 HO_583001 HO_614001 BK577 BK582 BK613 HB hHeld ⊢
          refine pure_ (i := 0) (N := some 129) (v := ?_) (a' := ?_) #[true, false, false, false, false, false, false, false, false, false, false, false, false, false, false] rfl rfl (any_of HT_.out (by kernel_rfl)) (fun _ _ _ h => h) (Or.inl ⟨by rfl, ?_⟩) ?_ ?_
          rotate_left
          ·intro w'
           go_simp
           with_reducible rfl
          rotate_left
          ·simp only [Act.put, lA_, lZ_, lS_, i64_w, i32_w]
           rfl
          refine pure_ (i := 4) (N := some 133) (v := ?_) (a' := ?_) #[true, false, false, false, true, false, false, false, false, false, false, false, false, false, false] rfl rfl (any_of HT_.out (by kernel_rfl)) (fun _ _ _ h => h) (Or.inl ⟨by rfl, ?_⟩) ?_ ?_
          rotate_left
          ·intro w'
           go_simp
           with_reducible rfl
          rotate_left
          ·simp only [Act.put, lA_, lZ_, lS_, i64_w, i32_w]
           rfl
          refine take_ (i := 1) (N := some 130) (v := ?_) (a' := ?_) #[true, true, false, false, true, false, false, false, false, false, false, false, false, false, false] rfl rfl (take_ofW HT_.out HW_.out (by kernel_rfl)) (fun _ _ _ h => h) (Or.inl ⟨by rfl, ?_⟩) hHeld ?_ ?_
          rotate_left
          ·rintro w' ⟨s0, s1, s2, s3, s4, s5⟩
           go_simp
           with_reducible rfl
          rotate_left
          ·simp only [Act.put, lA_, lZ_, lS_, i64_w, i32_w]
           rfl
          refine pure_ (i := 2) (N := some 131) (v := ?_) (a' := ?_) #[true, true, true, false, true, false, false, false, false, false, false, false, false, false, false] rfl rfl (any_of HT_.out (by kernel_rfl)) (fun _ _ _ h => h) (Or.inl ⟨by rfl, ?_⟩) ?_ ?_
          rotate_left
          ·intro w'
           go_simp
           with_reducible rfl
          rotate_left
          ·simp only [Act.put, lA_, lZ_, lS_, i64_w, i32_w]
           rfl
          refine take_ (i := 3) (N := some 132) (v := ?_) (a' := ?_) #[true, true, true, true, true, false, false, false, false, false, false, false, false, false, false] rfl rfl (take_ofW HT_.out HW_.out (by kernel_rfl)) (fun _ _ _ h => h) (Or.inl ⟨by rfl, ?_⟩) hHeld ?_ ?_
          rotate_left
          ·rintro w' ⟨s0, s1, s2, s3, s4, s5⟩
           go_simp
           with_reducible rfl
          rotate_left
          ·simp only [Act.put, lA_, lZ_, lS_, i64_w, i32_w]
           rfl
          refine one_ (i := 5) (N := some 134) #[true, true, true, true, true, true, false, false, false, false, false, false, false, false, false] rfl rfl (one_of HT_.out (by kernel_rfl)) (by decide) (fun K hK => ?_)
          refine goes_ Try.func25 (by kernel_rfl) rfl #[.agg #[.int .i64 t572, .int .i64 t573], .slice Ao10 t574.length co10] (by rfl) rfl rfl (by (try simp only [List.map_toArray, List.map_cons, List.map_nil]); first | done | rfl | (simp only [List.length_drop, List.length_take]; rfl)) ?_
          with_reducible refine (spec_TakeAll.calls k2 t572 t573 _ _ t574 t617 t618 _ ?side1 ?side2 A85.out).mono ?_
          (case side1 => repeat (first | exact (Kd.R_reads' HO_4.out).2.2 | (with_reducible refine Kd.C_alloc ?_ _) | (with_reducible refine Kd.C_drewN ?_ _) | (with_reducible refine Kd.C_drew ?_)))
          (case side2 => exact (Kd.R_reads' HO_4.out).2.1)
          rintro e w91 ⟨v619, rfl, ho0, hb⟩
          refine ⟨_, rfl, ?_⟩
          have n0_ := Aside0.mk (Kd.R_elder' (by (with_reducible repeat (first | apply Kd.R_alloc | apply Kd.R_drewN | apply Kd.R_drew)); exact HO_4.out) (Kd.R_base ho0) hb)
          have n1_ := Aside0.mk (Kd.R_elder' (by (with_reducible repeat (first | apply Kd.R_alloc | apply Kd.R_drewN | apply Kd.R_drew)); exact HO_583001.out) (Kd.R_base ho0) hb)
          have n2_ := Aside0.mk (Kd.R_elder' (by (with_reducible repeat (first | apply Kd.R_alloc | apply Kd.R_drewN | apply Kd.R_drew)); exact HO_614001.out) (Kd.R_base ho0) hb)
          have n3_ := Aside0.mk (Kd.R_lower (Kd.R_new' (Kd.R_new' (Kd.R_new' ho0 (Kd.R_lt (by (with_reducible repeat (first | apply Kd.R_alloc | apply Kd.R_drewN | apply Kd.R_drew)); exact HO_4.out))) (Kd.R_lt (by (with_reducible repeat (first | apply Kd.R_alloc | apply Kd.R_drewN | apply Kd.R_drew)); exact HO_583001.out))) (Kd.R_lt (by (with_reducible repeat (first | apply Kd.R_alloc | apply Kd.R_drewN | apply Kd.R_drew)); exact HO_614001.out))) (below_size (by repeat (first | (with_reducible first | exact HB.out | apply below_alloc | apply pw_below_drewN | apply below_drew1 | refine below_set ?_ GE577.out | refine below_set ?_ GE582.out | refine below_set ?_ GE613.out) | exact HB.out))))
          have n4_ := Aside0.mk (blk_below (g := gb577) (o := .cells #[.int .i64 t572, .int .i64 t573] 34 (0, 0)) (by (with_reducible repeat (first | refine blk_drewN ?_ _ | refine blk_drew ?_ | refine blk_alloc ?_ _)); exact BK577.out) hb)
          have n5_ := Aside0.mk (blk_below (g := gb582) (o := .cells #[.int .i64 t578, .slice Ao15 t579.length co15] 48 (0, 0)) (by (with_reducible repeat (first | refine blk_drewN ?_ _ | refine blk_drew ?_ | refine blk_alloc ?_ _)); exact BK582.out) hb)
          have n6_ := Aside0.mk (blk_below (g := gb613) (o := .cells #[.int .i64 t609, .slice Ao74 t610.length co74] 48 (0, 0)) (by (with_reducible repeat (first | refine blk_drewN ?_ _ | refine blk_drew ?_ | refine blk_alloc ?_ _)); exact BK613.out) hb)
          have n7_ := Aside0.mk (below_step (by repeat (first | (with_reducible first | exact HB.out | apply below_alloc | apply pw_below_drewN | apply below_drew1 | refine below_set ?_ GE577.out | refine below_set ?_ GE582.out | refine below_set ?_ GE613.out) | exact HB.out)) hb)
          clear HO_4
          clear HO_583001
          clear HO_614001
          clear BK577
          clear BK582
          clear BK613
          clear HB
          have HO_4 := n0_
          have HO_583001 := n1_
          have HO_614001 := n2_
          have HO620 := n3_
          have BK577 := n4_
          have BK582 := n5_
          have BK613 := n6_
          have HB := n7_
          clear n0_ n1_ n2_ n3_ n4_ n5_ n6_ n7_
          (try clear hb)
          (try clear hb2)
          (try clear hk)
          (try clear hi)
          (try clear ho0)
          obtain ⟨Ao92, co92, eo92⟩ := Kd.R_slice HO620.out
          (first | subst eo92 | (injection eo92 with f1_ f2_ f3_; have f4_ := f1_.symm; have f5_ := f3_.symm; clear f1_ f2_ f3_; subst f4_; subst f5_))
          refine hK.out _ _ ⟨(blk_cell BK582.out 0).trans rfl, (blk_cell BK582.out 1).trans rfl, (blk_cell BK577.out 0).trans rfl, (blk_cell BK577.out 1).trans rfl, (blk_cell BK613.out 0).trans rfl, (blk_cell BK613.out 1).trans rfl⟩ (fun hHeld => ?_)
          clear hK K
          refine norm_ (a' := ?_) ?_ ?_
          rotate_left
          ·show Act.put _ (some 134) _ = _
           simp only [Act.put, lA_, lZ_, lS_, i64_w, i32_w]
           rfl
          refine pure_ (i := 6) (N := some 135) (v := ?_) (a' := ?_) #[true, true, true, true, true, true, true, false, false, false, false, false, false, false, false] rfl rfl (any_of HT_.out (by kernel_rfl)) (fun _ _ _ h => h) (Or.inl ⟨by rfl, ?_⟩) ?_ ?_
          rotate_left
          ·intro w'
           go_simp
           first | with_reducible rfl | (apply Eq.trans; apply rfield_ (ty := 44) 1 Try.underlying48 Try.underlying44; exact rfl; exact rfl; exact rfl; with_reducible rfl)
          rotate_left
          ·simp only [Act.put, lA_, lZ_, lS_, i64_w, i32_w]
           rfl
          refine pure_ (i := 7) (N := some 136) (v := ?_) (a' := ?_) #[true, true, true, true, true, true, true, true, false, false, false, false, false, false, false] rfl rfl (any_of HT_.out (by kernel_rfl)) (fun _ _ _ h => h) (Or.inl ⟨by rfl, ?_⟩) ?_ ?_
          rotate_left
          ·intro w'
           go_simp
           with_reducible rfl
          rotate_left
          ·simp only [Act.put, lA_, lZ_, lS_, i64_w, i32_w]
           rfl
          refine pure_ (i := 8) (N := some 137) (v := ?_) (a' := ?_) #[true, true, true, true, true, true, true, true, true, false, false, false, false, false, false] rfl rfl (any_of HT_.out (by kernel_rfl)) (fun _ _ _ h => h) (Or.inl ⟨by rfl, ?_⟩) ?_ ?_
          rotate_left
          ·intro w'
           go_simp
           with_reducible rfl
          rotate_left
          ·simp only [Act.put, lA_, lZ_, lS_, i64_w, i32_w]
           rfl
          refine pure_ (i := 9) (N := some 138) (v := ?_) (a' := ?_) #[true, true, true, true, true, true, true, true, true, true, false, false, false, false, false] rfl rfl (any_of HT_.out (by kernel_rfl)) (fun _ _ _ h => h) (Or.inl ⟨by rfl, ?_⟩) ?_ ?_
          rotate_left
          ·intro w'
           go_simp
           with_reducible rfl
          rotate_left
          ·simp only [Act.put, lA_, lZ_, lS_, i64_w, i32_w]
           rfl
          refine pure_ (i := 10) (N := some 139) (v := ?_) (a' := ?_) #[true, true, true, true, true, true, true, true, true, true, true, false, false, false, false] rfl rfl (any_of HT_.out (by kernel_rfl)) (fun _ _ _ h => h) (Or.inl ⟨by rfl, ?_⟩) ?_ ?_
          rotate_left
          ·intro w'
           go_simp
           with_reducible rfl
          rotate_left
          ·simp only [Act.put, lA_, lZ_, lS_, i64_w, i32_w]
           rfl
          refine take_ (i := 11) (N := some 140) (v := ?_) (a' := ?_) #[true, true, true, true, true, true, true, true, true, true, true, true, false, false, false] rfl rfl (take_ofW HT_.out HW_.out (by kernel_rfl)) (fun _ _ _ h => h) (Or.inl ⟨by rfl, ?_⟩) hHeld ?_ ?_
          rotate_left
          ·rintro w' ⟨s0, s1, s2, s3, s4, s5⟩
           go_simp
           with_reducible rfl
          rotate_left
          ·simp only [Act.put, lA_, lZ_, lS_, i64_w, i32_w]
           rfl
          refine pure_ (i := 12) (N := some 141) (v := ?_) (a' := ?_) #[true, true, true, true, true, true, true, true, true, true, true, true, true, false, false] rfl rfl (any_of HT_.out (by kernel_rfl)) (fun _ _ _ h => h) (Or.inl ⟨by rfl, ?_⟩) ?_ ?_
          rotate_left
          ·intro w'
           go_simp
           with_reducible rfl
          rotate_left
          ·simp only [Act.put, lA_, lZ_, lS_, i64_w, i32_w]
           rfl
          refine pure_ (i := 13) (N := some 142) (v := ?_) (a' := ?_) #[true, true, true, true, true, true, true, true, true, true, true, true, true, true, false] rfl rfl (any_of HT_.out (by kernel_rfl)) (fun _ _ _ h => h) (Or.inl ⟨by rfl, ?_⟩) ?_ ?_
          rotate_left
          ·intro w'
           go_simp
           with_reducible rfl
          rotate_left
          ·simp only [Act.put, lA_, lZ_, lS_, i64_w, i32_w]
           rfl
          refine pure_ (i := 14) (N := some 2) (v := ?_) (a' := ?_) #[true, true, true, true, true, true, true, true, true, true, true, true, true, true, true] rfl rfl (any_of HT_.out (by kernel_rfl)) (fun _ _ _ h => h) (Or.inl ⟨by rfl, ?_⟩) ?_ ?_
          rotate_left
          ·intro w'
           go_simp
           with_reducible rfl
          rotate_left
          ·simp only [Act.put, lA_, lZ_, lS_, i64_w, i32_w]
           rfl
          refine done_ (done_of HT_.out (by kernel_rfl)) ?_
          try go_wp2
          go_ret
          exact ⟨by first | rfl | (rw [hr_.out]; first | done | rfl) | (simp [errW_none, errW_some] <;> rfl) | (simp [*, errW_none, errW_some] <;> rfl), by repeat (first | (with_reducible first | exact HB.out | apply below_alloc | apply pw_below_drewN | apply below_drew1 | refine below_set ?_ GE577.out | refine below_set ?_ GE582.out | refine below_set ?_ GE613.out) | exact HB.out)⟩
         ·rw [if_neg c86] at H
          have c86b0 : ((t579.length : Int) == (t618.length : Int)) = false := beq_eq_false_iff_ne.mpr c86
          have c86b1 : ((t579.length : Int) != (t618.length : Int)) = true := bne_iff_ne.mpr c86
          have c86b2 : (t579.length == t618.length) = false := by first | simpa using c86 | (simp at c86 ⊢; omega)
          exact absurd (Option.some.inj H) (by decide)
  ·rw [if_neg c6] at H
   have c6b0 : (t578 == 0) = false := beq_eq_false_iff_ne.mpr c6
   have c6b1 : (t578 != 0) = true := bne_iff_ne.mpr c6
   replace H := Option.bind_eq_some_iff.mp H
   obtain ⟨⟨t583, t584⟩, A930, H⟩ := H
   try dsimp only at H
   have A93 := Aside0.mk A930
   clear A930
   have hr_ := Aside0.mk (Option.some.inj H)
   clear H
   go_enter Try.func5, Try.ntmps5
   try go_wp2_with (first | (refine upon_field_ (ty := 2) 0 Try.underlying39 Try.underlying2 rfl rfl rfl ?_) | (refine upon_field_ (ty := 2) 0 Try.underlying48 Try.underlying2 rfl rfl rfl ?_) | (refine upon_field_ (ty := 44) 1 Try.underlying48 Try.underlying44 rfl rfl rfl ?_) | ((with_reducible refine gate_callee (f := 9) rfl ?_); refine goesL_ (some 11) rfl rfl Try.func9 (by kernel_rfl) rfl #[.slice A0 l0.length c0] rfl (by (try simp only [List.map_toArray, List.map_cons, List.map_nil]); first | done | rfl | (simp only [List.length_drop, List.length_take]; rfl)) ?_; (with_reducible refine (laws_lwBig.calls _ _ l0 false _ ?side1 ?side2 A2.out).mono ?_); (case side1 => repeat (first | exact HR0.out | (with_reducible refine Kd.C_alloc ?_ _) | (with_reducible refine Kd.C_drewN ?_ _) | (with_reducible refine Kd.C_drew ?_))); (case side2 => exact HC0.out); rintro e w' ⟨rfl, ⟨nd, rfl⟩⟩; refine ⟨_, rfl, ?_⟩) | ((with_reducible refine gate_callee (f := 23) rfl ?_); refine goesL_ (some 14) rfl rfl Try.func23 (by kernel_rfl) rfl #[.slice A0 l0.length c0] rfl (by (try simp only [List.map_toArray, List.map_cons, List.map_nil]); first | done | rfl | (simp only [List.length_drop, List.length_take]; rfl)) ?_; (with_reducible refine (spec_DrawTakeAll.calls k _ _ l0 t572 t573 t574 _ ?side1 ?side2 A4.out).mono ?_); (case side1 => repeat (first | exact HR0.out | (with_reducible refine Kd.C_alloc ?_ _) | (with_reducible refine Kd.C_drewN ?_ _) | (with_reducible refine Kd.C_drew ?_))); (case side2 => exact HC0.out); rintro e w94 ⟨v575, rfl, ho0, hb⟩; refine ⟨_, rfl, ?_⟩; have n0_ := Aside0.mk (Kd.R_lower ho0 (below_size (by repeat (first | (with_reducible first | exact HB.out | apply below_alloc | apply pw_below_drewN | apply below_drew1) | exact HB.out)))); have n1_ := Aside0.mk (below_step (by repeat (first | (with_reducible first | exact HB.out | apply below_alloc | apply pw_below_drewN | apply below_drew1) | exact HB.out)) hb); clear HB; have HO576 := n0_; have HB := n1_; clear n0_ n1_; (try clear hb); (try clear hb2); (try clear hk); (try clear hi); (try clear ho0)) | ((with_reducible refine gate_dst (N := 3) rfl ?_); refine box_event ?hg (N := 3) ?hd (cs := #[.int .i64 0, .int .i64 0]) (t := 34) ?hr ?_; (case hd => rfl); (case hg => rfl); (case hr => first | (go_simp; done) | (go_simp; rfl)); intro gb577 hg w95 hbox hb; have n0_ := Aside0.mk (Kd.R_below (by (with_reducible repeat (first | apply Kd.R_alloc | apply Kd.R_drewN | apply Kd.R_drew)); exact HO576.out) hb); have n1_ := Aside0.mk (below_step (by repeat (first | (with_reducible first | exact HB.out | apply below_alloc | apply pw_below_drewN | apply below_drew1) | exact HB.out)) hb); have n2_ := Aside0.mk (hbox); have n3_ := Aside0.mk ((by rw [hg]; exact (below_size (by repeat (first | (with_reducible first | exact HB.out | apply below_alloc | apply pw_below_drewN | apply below_drew1) | exact HB.out))) : w.heap.size ≤ gb577)); have n4_ := Aside0.mk ((by rw [hg]; exact (below_size (by repeat (first | (with_reducible first | exact HB.out | apply below_alloc | apply pw_below_drewN | apply below_drew1) | exact HB.out))) : w.heap.size ≤ gb577)); clear HO576; clear HB; have HO576 := n0_; have HB := n1_; have BK577 := n2_; have GW577 := n3_; have GE577 := n4_; clear n0_ n1_ n2_ n3_ n4_; clear hb hbox hg; have hcz96_0 : w95.cell? ⟨gb577, 0, none⟩ = some (.int .i64 0) := (blk_cell BK577.out 0).trans rfl; have hcz96_1 : w95.cell? ⟨gb577, 1, none⟩ = some (.int .i64 0) := (blk_cell BK577.out 1).trans rfl; have hfz96_0 := blk_frozen BK577.out 0; have hfz96_1 := blk_frozen BK577.out 1; obtain ⟨Ao97, co97, eo97⟩ := Kd.R_slice HO576.out; subst eo97) | ((with_reducible refine gate_callee (f := 24) rfl ?_); refine goesL_ (some 19) rfl rfl Try.func24 (by kernel_rfl) rfl #[.agg #[.int .i64 t572, .int .i64 t573], .slice Ao97 t574.length co97] rfl (by (try simp only [List.map_toArray, List.map_cons, List.map_nil]); first | done | rfl | (simp only [List.length_drop, List.length_take]; rfl)) ?_; (with_reducible refine (impl_TakeAll.calls k t572 t573 _ _ t574 t578 t579 _ ?side1 ?side2 A5.out).mono ?_); (case side1 => refine (Kd.R_reads' (e := 2) (base := w.heap.size) (ok := fun k_ => True) (n := t574.length) (c := co97) ?_).2.2; exact (by (with_reducible repeat (first | apply Kd.R_alloc | apply Kd.R_drewN | apply Kd.R_drew)); exact (Kd.R_mono (Kd.R_far (p := ⟨gb577, 1, none⟩) (Kd.R_far (p := ⟨gb577, 0, none⟩) (Kd.R_types HO576.out BK577.out (by decide)) (fun _ hk => hk.2) (.int .i64 t572)) (fun _ hk => hk.2) (.int .i64 t573)) (fun _ h_ => h_.1)))); (case side2 => exact (Kd.R_reads' HO576.out).2.1); rintro e w98 ⟨v580, rfl, ho0, hb⟩; refine ⟨_, rfl, ?_⟩; have n0_ := Aside0.mk (Kd.R_elder' (by (with_reducible repeat (first | apply Kd.R_alloc | apply Kd.R_drewN | apply Kd.R_drew)); exact (Kd.R_mono (Kd.R_far (p := ⟨gb577, 1, none⟩) (Kd.R_far (p := ⟨gb577, 0, none⟩) (Kd.R_types HO576.out BK577.out (by decide)) (fun _ hk => hk.2) (.int .i64 t572)) (fun _ hk => hk.2) (.int .i64 t573)) (fun _ h_ => h_.1))) (Kd.R_base ho0) hb); have n1_ := Aside0.mk (Kd.R_lower (Kd.R_new' ho0 (Kd.R_lt (by (with_reducible repeat (first | apply Kd.R_alloc | apply Kd.R_drewN | apply Kd.R_drew)); exact (Kd.R_mono (Kd.R_far (p := ⟨gb577, 1, none⟩) (Kd.R_far (p := ⟨gb577, 0, none⟩) (Kd.R_types HO576.out BK577.out (by decide)) (fun _ hk => hk.2) (.int .i64 t572)) (fun _ hk => hk.2) (.int .i64 t573)) (fun _ h_ => h_.1))))) (below_size (by repeat (first | (with_reducible first | exact HB.out | apply below_alloc | apply pw_below_drewN | apply below_drew1 | refine below_set ?_ GE577.out) | exact HB.out)))); have n2_ := Aside0.mk (blk_below (g := gb577) (o := .cells #[.int .i64 t572, .int .i64 t573] 34 (0, 0)) (by (with_reducible repeat (first | refine blk_drewN ?_ _ | refine blk_drew ?_ | refine blk_alloc ?_ _)); refine blk_put (cs := #[.int .i64 t572, .int .i64 0]) ?_ 1 _ rfl; (with_reducible repeat (first | refine blk_drewN ?_ _ | refine blk_drew ?_ | refine blk_alloc ?_ _)); refine blk_put (cs := #[.int .i64 0, .int .i64 0]) ?_ 0 _ rfl; (with_reducible repeat (first | refine blk_drewN ?_ _ | refine blk_drew ?_ | refine blk_alloc ?_ _)); exact BK577.out) hb); have n3_ := Aside0.mk (below_step (by repeat (first | (with_reducible first | exact HB.out | apply below_alloc | apply pw_below_drewN | apply below_drew1 | refine below_set ?_ GE577.out) | exact HB.out)) hb); clear HO576; clear BK577; clear HB; have HO576 := n0_; have HO581 := n1_; have BK577 := n2_; have HB := n3_; clear n0_ n1_ n2_ n3_; (try clear hb); (try clear hb2); (try clear hk); (try clear hi); (try clear ho0)) | ((with_reducible refine gate_dst (N := 5) rfl ?_); refine box_event ?hg (N := 5) ?hd (cs := #[.int .i64 0, .slice none 0 0]) (t := 48) ?hr ?_; (case hd => rfl); (case hg => rfl); (case hr => first | (go_simp; done) | (go_simp; rfl)); intro gb582 hg w99 hbox hb; have n0_ := Aside0.mk (Kd.R_below (by (with_reducible repeat (first | apply Kd.R_alloc | apply Kd.R_drewN | apply Kd.R_drew)); exact HO576.out) hb); have n1_ := Aside0.mk (Kd.R_below (by (with_reducible repeat (first | apply Kd.R_alloc | apply Kd.R_drewN | apply Kd.R_drew)); exact HO581.out) hb); have n2_ := Aside0.mk (blk_below (g := gb577) (o := .cells #[.int .i64 t572, .int .i64 t573] 34 (0, 0)) (by (with_reducible repeat (first | refine blk_drewN ?_ _ | refine blk_drew ?_ | refine blk_alloc ?_ _)); exact BK577.out) hb); have n3_ := Aside0.mk (below_step (by repeat (first | (with_reducible first | exact HB.out | apply below_alloc | apply pw_below_drewN | apply below_drew1 | refine below_set ?_ GE577.out) | exact HB.out)) hb); have n4_ := Aside0.mk (hbox); have n5_ := Aside0.mk ((by rw [hg]; exact (below_size (by repeat (first | (with_reducible first | exact HB.out | apply below_alloc | apply pw_below_drewN | apply below_drew1 | refine below_set ?_ GE577.out) | exact HB.out))) : w.heap.size ≤ gb582)); have n6_ := Aside0.mk ((by rw [hg]; exact (below_size (by repeat (first | (with_reducible first | exact HB.out | apply below_alloc | apply pw_below_drewN | apply below_drew1 | refine below_set ?_ GE577.out) | exact HB.out))) : w.heap.size ≤ gb582)); have n7_ := Aside0.mk ((by rw [hg]; exact Nat.ne_of_lt (blk_lt (g := gb577) (o := .cells #[.int .i64 t572, .int .i64 t573] 34 (0, 0)) (by (with_reducible repeat (first | refine blk_drewN ?_ _ | refine blk_drew ?_ | refine blk_alloc ?_ _)); exact BK577.out)) : gb577 ≠ gb582)); have n8_ := Aside0.mk ((by rw [hg]; exact Nat.ne_of_gt (blk_lt (g := gb577) (o := .cells #[.int .i64 t572, .int .i64 t573] 34 (0, 0)) (by (with_reducible repeat (first | refine blk_drewN ?_ _ | refine blk_drew ?_ | refine blk_alloc ?_ _)); exact BK577.out)) : gb582 ≠ gb577)); clear HO576; clear HO581; clear BK577; clear HB; have HO576 := n0_; have HO581 := n1_; have BK577 := n2_; have HB := n3_; have BK582 := n4_; have GW582 := n5_; have GE582 := n6_; have NB577_582 := n7_; have NB582_577 := n8_; clear n0_ n1_ n2_ n3_ n4_ n5_ n6_ n7_ n8_; clear hb hbox hg; have hnb100 := NB582_577.out; have hnc100 := NB577_582.out; have hcz101_0 : w99.cell? ⟨gb582, 0, none⟩ = some (.int .i64 0) := (blk_cell BK582.out 0).trans rfl; have hcz101_1 : w99.cell? ⟨gb582, 1, none⟩ = some (.slice none 0 0) := (blk_cell BK582.out 1).trans rfl; have hfz101_0 := blk_frozen BK582.out 0; have hfz101_1 := blk_frozen BK582.out 1; obtain ⟨Ao102, co102, eo102⟩ := Kd.R_slice HO581.out; subst eo102))
   have n0_ : Aside0 (Kd.R (Kd.int .i64) 2 ((w99.setCell ⟨gb582, 0, none⟩ (.int .i64 t578)).setCell ⟨gb582, 1, none⟩ (.slice Ao102 t579.length co102)) w.heap.size (fun k_ => some k_ ≠ (.slice Ao102 t579.length co102 : Value).ownBlock) (.slice Ao97 t574.length co97) t574) := ⟨by (with_reducible repeat (first | apply Kd.R_alloc | apply Kd.R_drewN | apply Kd.R_drew)); exact Kd.R_mono (Kd.R_far (p := ⟨gb582, 1, none⟩) (Kd.R_far (p := ⟨gb582, 0, none⟩) (Kd.R_types HO576.out BK582.out (by decide)) (fun _ hk => hk.2) (.int .i64 t578)) (fun _ hk => hk.2) (.slice Ao102 t579.length co102)) (fun _ hk => hk.1.2)⟩
   have n1_ : Aside0 (Kd.R (Kd.int .i64) 2 ((w99.setCell ⟨gb582, 0, none⟩ (.int .i64 t578)).setCell ⟨gb582, 1, none⟩ (.slice Ao102 t579.length co102)) w.heap.size (fun k_ => some k_ ≠ (.slice Ao97 t574.length co97 : Value).ownBlock) (.slice Ao102 t579.length co102) t579) := ⟨by (with_reducible repeat (first | apply Kd.R_alloc | apply Kd.R_drewN | apply Kd.R_drew)); exact Kd.R_mono (Kd.R_far (p := ⟨gb582, 1, none⟩) (Kd.R_far (p := ⟨gb582, 0, none⟩) (Kd.R_types HO581.out BK582.out (by decide)) (fun _ hk => hk.2) (.int .i64 t578)) (fun _ hk => hk.2) (.slice Ao102 t579.length co102)) (fun _ hk => hk.1.2)⟩
   have n2_ : Aside0 (((w99.setCell ⟨gb582, 0, none⟩ (.int .i64 t578)).setCell ⟨gb582, 1, none⟩ (.slice Ao102 t579.length co102)).heap[gb577]? = some (.cells #[.int .i64 t572, .int .i64 t573] 34 (0, 0))) := ⟨by (with_reducible repeat (first | refine blk_drewN ?_ _ | refine blk_drew ?_ | refine blk_alloc ?_ _)); refine blk_far ?_ NB577_582.out _; (with_reducible repeat (first | refine blk_drewN ?_ _ | refine blk_drew ?_ | refine blk_alloc ?_ _)); refine blk_far ?_ NB577_582.out _; (with_reducible repeat (first | refine blk_drewN ?_ _ | refine blk_drew ?_ | refine blk_alloc ?_ _)); exact BK577.out⟩
   have n3_ : Aside0 (((w99.setCell ⟨gb582, 0, none⟩ (.int .i64 t578)).setCell ⟨gb582, 1, none⟩ (.slice Ao102 t579.length co102)).heap[gb582]? = some (.cells #[.int .i64 t578, .slice Ao102 t579.length co102] 48 (0, 0))) := ⟨by (with_reducible repeat (first | refine blk_drewN ?_ _ | refine blk_drew ?_ | refine blk_alloc ?_ _)); refine blk_put (cs := #[.int .i64 t578, .slice none 0 0]) ?_ 1 _ rfl; (with_reducible repeat (first | refine blk_drewN ?_ _ | refine blk_drew ?_ | refine blk_alloc ?_ _)); refine blk_put (cs := #[.int .i64 0, .slice none 0 0]) ?_ 0 _ rfl; (with_reducible repeat (first | refine blk_drewN ?_ _ | refine blk_drew ?_ | refine blk_alloc ?_ _)); exact BK582.out⟩
   have n4_ : Aside0 (Below w.heap.size w ((w99.setCell ⟨gb582, 0, none⟩ (.int .i64 t578)).setCell ⟨gb582, 1, none⟩ (.slice Ao102 t579.length co102))) := ⟨by repeat (first | (with_reducible first | exact HB.out | apply below_alloc | apply pw_below_drewN | apply below_drew1 | refine below_set ?_ GE577.out | refine below_set ?_ GE582.out) | exact HB.out)⟩
   (try clear HO576)
   (try clear HO581)
   (try clear BK577)
   (try clear BK582)
   (try clear HB)
   generalize ((w99.setCell ⟨gb582, 0, none⟩ (.int .i64 t578)).setCell ⟨gb582, 1, none⟩ (.slice Ao102 t579.length co102)) = w103 at n0_ n1_ n2_ n3_ n4_ ⊢
   have HO576 := n0_
   have HO581 := n1_
   have BK577 := n2_
   have BK582 := n3_
   have HB := n4_
   clear n0_ n1_ n2_ n3_ n4_
   have n0_ := Aside0.mk (Kd.R_drew HO576.out)
   have n1_ := Aside0.mk (Kd.R_drew HO581.out)
   have n2_ := Aside0.mk (blk_drew BK577.out)
   have n3_ := Aside0.mk (blk_drew BK582.out)
   have n4_ := Aside0.mk (below_drew1 HB.out)
   clear HO576
   clear HO581
   clear BK577
   clear BK582
   clear HB
   have HO576 := n0_
   have HO581 := n1_
   have BK577 := n2_
   have BK582 := n3_
   have HB := n4_
   clear n0_ n1_ n2_ n3_ n4_
   refine start_ (n := 8) (S := fun w' => w'.cell? ⟨gb577, 0, none⟩ = some (.int .i64 t572) ∧ w'.cell? ⟨gb577, 1, none⟩ = some (.int .i64 t573) ∧ w'.cell? ⟨gb582, 0, none⟩ = some (.int .i64 t578) ∧ w'.cell? ⟨gb582, 1, none⟩ = some (.slice Ao102 t579.length co102)) (ds := []) #[false, false, false, false, false, false, false, false] (by kernel_rfl) rfl rfl ⟨(blk_cell BK577.out 0).trans rfl, (blk_cell BK577.out 1).trans rfl, (blk_cell BK582.out 0).trans rfl, (blk_cell BK582.out 1).trans rfl⟩ (fun hHeld => ?_); refine with_tabW laws_FnWindows.tab6 laws_FnWindows.bits6 (fun HT_ HW_ => ?_)
   generalize w103.drew = w104 at HO576 HO581 BK577 BK582 HB hHeld ⊢
   refine pure_ (i := 1) (N := some 24) (v := ?_) (a' := ?_) #[false, true, false, false, false, false, false, false] rfl rfl (any_of HT_.out (by kernel_rfl)) (fun _ _ _ h => h) (Or.inl ⟨by rfl, ?_⟩) ?_ ?_
   rotate_left
   ·intro w'
    go_simp
    with_reducible rfl
   rotate_left
   ·simp only [Act.put, lA_, lZ_, lS_, i64_w, i32_w]
    rfl
   refine pure_ (i := 4) (N := some 27) (v := ?_) (a' := ?_) #[false, true, false, false, true, false, false, false] rfl rfl (any_of HT_.out (by kernel_rfl)) (fun _ _ _ h => h) (Or.inl ⟨by rfl, ?_⟩) ?_ ?_
   rotate_left
   ·intro w'
    go_simp
    with_reducible rfl
   rotate_left
   ·simp only [Act.put, lA_, lZ_, lS_, i64_w, i32_w]
    rfl
   refine take_ (i := 0) (N := some 23) (v := ?_) (a' := ?_) #[true, true, false, false, true, false, false, false] rfl rfl (take_ofW HT_.out HW_.out (by kernel_rfl)) (fun _ _ _ h => h) (Or.inl ⟨by rfl, ?_⟩) hHeld ?_ ?_
   rotate_left
   ·rintro w' ⟨s0, s1, s2, s3⟩
    go_simp
    with_reducible rfl
   rotate_left
   ·simp only [Act.put, lA_, lZ_, lS_, i64_w, i32_w]
    rfl
   refine take_ (i := 5) (N := some 28) (v := ?_) (a' := ?_) #[true, true, false, false, true, true, false, false] rfl rfl (take_ofW HT_.out HW_.out (by kernel_rfl)) (fun _ _ _ h => h) (Or.inl ⟨by rfl, ?_⟩) hHeld ?_ ?_
   rotate_left
   ·rintro w' ⟨s0, s1, s2, s3⟩
    go_simp
    with_reducible rfl
   rotate_left
   ·simp only [Act.put, lA_, lZ_, lS_, i64_w, i32_w]
    rfl
   refine one_ (i := 2) (N := some 25) #[true, true, true, false, true, true, false, false] rfl rfl (one_of HT_.out (by kernel_rfl)) (by decide) (fun K hK => ?_)
   refine goes_ Try.func25 (by kernel_rfl) rfl #[.agg #[.int .i64 t572, .int .i64 t573], .slice Ao97 t574.length co97] (by rfl) rfl rfl (by (try simp only [List.map_toArray, List.map_cons, List.map_nil]); first | done | rfl | (simp only [List.length_drop, List.length_take]; rfl)) ?_
   with_reducible refine (spec_TakeAll.calls k t572 t573 _ _ t574 t583 t584 _ ?side1 ?side2 A93.out).mono ?_
   (case side1 => repeat (first | exact (Kd.R_reads' HO576.out).2.2 | (with_reducible refine Kd.C_alloc ?_ _) | (with_reducible refine Kd.C_drewN ?_ _) | (with_reducible refine Kd.C_drew ?_)))
   (case side2 => exact (Kd.R_reads' HO576.out).2.1)
   rintro e w105 ⟨v585, rfl, ho0, hb⟩
   refine ⟨_, rfl, ?_⟩
   have n0_ := Aside0.mk (Kd.R_elder' (by (with_reducible repeat (first | apply Kd.R_alloc | apply Kd.R_drewN | apply Kd.R_drew)); exact HO576.out) (Kd.R_base ho0) hb)
   have n1_ := Aside0.mk (Kd.R_elder' (by (with_reducible repeat (first | apply Kd.R_alloc | apply Kd.R_drewN | apply Kd.R_drew)); exact HO581.out) (Kd.R_base ho0) hb)
   have n2_ := Aside0.mk (Kd.R_lower (Kd.R_new' (Kd.R_new' ho0 (Kd.R_lt (by (with_reducible repeat (first | apply Kd.R_alloc | apply Kd.R_drewN | apply Kd.R_drew)); exact HO576.out))) (Kd.R_lt (by (with_reducible repeat (first | apply Kd.R_alloc | apply Kd.R_drewN | apply Kd.R_drew)); exact HO581.out))) (below_size (by repeat (first | (with_reducible first | exact HB.out | apply below_alloc | apply pw_below_drewN | apply below_drew1 | refine below_set ?_ GE577.out | refine below_set ?_ GE582.out) | exact HB.out))))
   have n3_ := Aside0.mk (blk_below (g := gb577) (o := .cells #[.int .i64 t572, .int .i64 t573] 34 (0, 0)) (by (with_reducible repeat (first | refine blk_drewN ?_ _ | refine blk_drew ?_ | refine blk_alloc ?_ _)); exact BK577.out) hb)
   have n4_ := Aside0.mk (blk_below (g := gb582) (o := .cells #[.int .i64 t578, .slice Ao102 t579.length co102] 48 (0, 0)) (by (with_reducible repeat (first | refine blk_drewN ?_ _ | refine blk_drew ?_ | refine blk_alloc ?_ _)); exact BK582.out) hb)
   have n5_ := Aside0.mk (below_step (by repeat (first | (with_reducible first | exact HB.out | apply below_alloc | apply pw_below_drewN | apply below_drew1 | refine below_set ?_ GE577.out | refine below_set ?_ GE582.out) | exact HB.out)) hb)
   clear HO576
   clear HO581
   clear BK577
   clear BK582
   clear HB
   have HO576 := n0_
   have HO581 := n1_
   have HO586 := n2_
   have BK577 := n3_
   have BK582 := n4_
   have HB := n5_
   clear n0_ n1_ n2_ n3_ n4_ n5_
   (try clear hb)
   (try clear hb2)
   (try clear hk)
   (try clear hi)
   (try clear ho0)
   refine hK.out _ _ ⟨(blk_cell BK577.out 0).trans rfl, (blk_cell BK577.out 1).trans rfl, (blk_cell BK582.out 0).trans rfl, (blk_cell BK582.out 1).trans rfl⟩ (fun hHeld => ?_)
   clear hK K
   refine norm_ (a' := ?_) ?_ ?_
   rotate_left
   ·show Act.put _ (some 25) _ = _
    simp only [Act.put, lA_, lZ_, lS_, i64_w, i32_w]
    rfl
   refine pure_ (i := 3) (N := some 26) (v := ?_) (a' := ?_) #[true, true, true, true, true, true, false, false] rfl rfl (any_of HT_.out (by kernel_rfl)) (fun _ _ _ h => h) (Or.inl ⟨by rfl, ?_⟩) ?_ ?_
   rotate_left
   ·intro w'
    go_simp
    first | with_reducible rfl | (apply Eq.trans; apply rfield_ (ty := 2) 0 Try.underlying48 Try.underlying2; exact rfl; exact rfl; exact rfl; with_reducible rfl)
   rotate_left
   ·simp only [Act.put, lA_, lZ_, lS_, i64_w, i32_w]
    rfl
   refine pure_ (i := 6) (N := some 29) (v := ?_) (a' := ?_) #[true, true, true, true, true, true, true, false] rfl rfl (any_of HT_.out (by kernel_rfl)) (fun _ _ _ h => h) (Or.inl ⟨by rfl, ?_⟩) ?_ ?_
   rotate_left
   ·intro w'
    go_simp
    with_reducible rfl
   rotate_left
   ·simp only [Act.put, lA_, lZ_, lS_, i64_w, i32_w]
    rfl
   refine pure_ (i := 7) (N := some 2) (v := ?_) (a' := ?_) #[true, true, true, true, true, true, true, true] rfl rfl (any_of HT_.out (by kernel_rfl)) (fun _ _ _ h => h) (Or.inl ⟨by rfl, ?_⟩) ?_ ?_
   rotate_left
   ·intro w'
    go_simp
    with_reducible rfl
   rotate_left
   ·simp only [Act.put, lA_, lZ_, lS_, i64_w, i32_w]
    rfl
   refine done_ (done_of HT_.out (by kernel_rfl)) ?_
   try go_wp2
   go_ret
   exact ⟨by first | rfl | (rw [hr_.out]; first | done | rfl) | (simp [errW_none, errW_some] <;> rfl) | (simp [*, errW_none, errW_some] <;> rfl), by repeat (first | (with_reducible first | exact HB.out | apply below_alloc | apply pw_below_drewN | apply below_drew1 | refine below_set ?_ GE577.out | refine below_set ?_ GE582.out) | exact HB.out)⟩
end Go.Proofs.Ytodeihnbjflpaaa.G
