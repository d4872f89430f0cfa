/- Part 3 of the proof of FnExactMoveTerm: what the functions on its road do, and the plain laws. -/
import Derived.Test.YtpagejjjfpkmcaaCFnExactMoveTerm2
import Derived.Shelf.Abstract
namespace Go.Proofs.Ytpagejjjfpkmcaa.G
open Go.RowKit Go.Proofs.YtpagejjjfpkmcaaW.PrintWords Go.Proofs.YtpagejjjfpkmcaaW.PrintLast Go.Proofs.YtpagejjjfpkmcaaW.PrintMore
attribute [local go_sem] max2_int min2_int max_two min_two max_three min_three max_four min_four   -- for this text's walks alone
set_option linter.unusedVariables false
set_option linter.unusedSimpArgs false
mutual
def spec_l5Move.l0 : Nat → List (S37) → Int → List Int → List Int → List (S37) → Int → Option (Int × Int × (List (S37)))
 | 0, _, _, _, _, _, _ => none
 | k + 1, x0, x1, x7, x8, x9, x10 => if x10 < (x7.length : Int) then (if 0 ≤ x10 then (if 0 ≤ (rd x7 x10) then (if (rd x7 x10) < (x0.length : Int) then ((spec_l5Kids.f k ((rd_T37 x0 (rd x7 x10)).f0)).bind fun t194 => (if t194 > 0 then (if 0 ≤ ((rd_T37 x0 (rd x7 x10)).f1) then (if ((rd_T37 x0 (rd x7 x10)).f1) < (x8.length : Int) then (spec_l5Move.j1 k x0 x1 x7 x8 x9 x10 ((rd_T37 x0 (rd x7 x10)).f0) ((rd_T37 x0 (rd x7 x10)).f1) ((rd_T37 x0 (rd x7 x10)).f2) ((rd_T37 x0 (rd x7 x10)).f3) ((rd_T37 x0 (rd x7 x10)).f0) (rd x8 ((rd_T37 x0 (rd x7 x10)).f1)) 0 ((rd_T37 x0 (rd x7 x10)).f3)) else (none)) else (none)) else (spec_l5Move.j1 k x0 x1 x7 x8 x9 x10 ((rd_T37 x0 (rd x7 x10)).f0) ((rd_T37 x0 (rd x7 x10)).f1) ((rd_T37 x0 (rd x7 x10)).f2) ((rd_T37 x0 (rd x7 x10)).f3) ((rd_T37 x0 (rd x7 x10)).f0) 0 0 ((rd_T37 x0 (rd x7 x10)).f3)))) else (none)) else (none)) else (none)) else (if 0 ≤ x1 then (if x1 < (x8.length : Int) then (some (0, rd x8 x1, x9)) else (none)) else (none))
def spec_l5Move.j1 : Nat → List (S37) → Int → List Int → List Int → List (S37) → Int → Int → Int → Int → Int → Int → Int → Int → Int → Option (Int × Int × (List (S37)))
 | 0, _, _, _, _, _, _, _, _, _, _, _, _, _, _ => none
 | k + 1, x0, x1, x7, x8, x9, x10, x193000, x193001, x193002, x193003, x194000, x194001, x194002, x194003 => (spec_l5Kids.f k x193000).bind fun t196 => (if t196 > 1 then (if 0 ≤ x193002 then (if x193002 < (x8.length : Int) then (spec_l5Move.j2 k x0 x1 x7 x8 x9 x10 x193000 x193001 x193002 x193003 x194000 x194001 (rd x8 x193002) x194003) else (none)) else (none)) else (spec_l5Move.j2 k x0 x1 x7 x8 x9 x10 x193000 x193001 x193002 x193003 x194000 x194001 x194002 x194003))
def spec_l5Move.j2 : Nat → List (S37) → Int → List Int → List Int → List (S37) → Int → Int → Int → Int → Int → Int → Int → Int → Int → Option (Int × Int × (List (S37)))
 | 0, _, _, _, _, _, _, _, _, _, _, _, _, _, _ => none
 | k + 1, x0, x1, x7, x8, x9, x10, x193000, x193001, x193002, x193003, x194000, x194001, x194002, x194003 => (spec_l5Put.f k x9 x194000 x194001 x194002 x194003).bind fun bt198 => (if x193000 = 7 then ((spec_l5Both.f k x9 x194001 x194002).bind fun bt204 => (if bt204.1 = 0 then (if 0 ≤ x10 then (if x10 < (x7.length : Int) then (if 0 ≤ (rd x7 x10) then (if (rd x7 x10) < (x8.length : Int) then (spec_l5Move.l0 k x0 x1 x7 (x8.set ((rd x7 x10) : Int).toNat bt204.2.1) bt204.2.2 (wrap64 (x10 + 1))) else (none)) else (none)) else (none)) else (none)) else (some (bt204.1, 0, ([] : List (S37)))))) else (if bt198.1 = 0 then (if 0 ≤ x10 then (if x10 < (x7.length : Int) then (if 0 ≤ (rd x7 x10) then (if (rd x7 x10) < (x8.length : Int) then (spec_l5Move.l0 k x0 x1 x7 (x8.set ((rd x7 x10) : Int).toNat bt198.2.1) bt198.2.2 (wrap64 (x10 + 1))) else (none)) else (none)) else (none)) else (none)) else (some (bt198.1, 0, ([] : List (S37))))))
end
def spec_l5Move.f (k : Nat) (l0 : List (S37)) (a1 : Int) (l2 : List (S37)) : Option (Int × Int × (List (S37))) := (spec_l5Parts.f k l0 a1).bind fun t180 => (if 0 ≤ (wrap64 (a1 + 1)) then (if (wrap64 (a1 + 1) : Int).toNat ≤ 35184372088832 then ((spec_l5Copy.f l2).bind fun t186 => (spec_l5Move.l0 k l0 a1 t180 (List.replicate (wrap64 (a1 + 1) : Int).toNat 0) t186 0)) else (none)) else (none))
def spec_l5Move.T19 : Bool × List (List Nat × List Nat) := (true, [([], []), ([], []), ([], []), ([1, 2], [1, 2]), ([3], [3]), ([], []), ([5], [5]), ([0, 4, 0, 1, 2, 3, 4, 5, 6], [0, 4]), ([7, 6, 0, 1, 2, 3, 4, 5, 6], [6, 7])])
def spec_l5Move.B19 : List Nat := [0, 0, 0, 6, 14, 0, 32, 127, 255]
theorem spec_l5Move.tab19 : rtab .any (opsOf Try.f15 19) = spec_l5Move.T19 := by kernel_rfl
theorem spec_l5Move.bits19 : waitsOk spec_l5Move.T19.2 spec_l5Move.B19 = true := by kernel_rfl
set_option maxHeartbeats 8000000 in
set_option maxRecDepth 100000 in
theorem spec_l5Move.calls (k : Nat) (A0 : Option Addr) (c0 : Nat) (l0 : List (S37)) (a1 : Int) (A2 : Option Addr) (c2 : Nat) (l2 : List (S37)) (r1 : Int) (r2 : Int) (r3 : List (S37)) (w : World) (hr0 : Kd.C k37 w A0 l0.length l0) (hc0 : l0.length ≤ c0) (hr2 : Kd.C k37 w A2 l2.length l2) (hc2 : l2.length ≤ c2) (h : spec_l5Move.f k l0 a1 l2 = some (r1, r2, r3)) :
  Calls Try.prog 15 #[.slice A0 l0.length c0, .int .i64 a1, .slice A2 l2.length c2] w fun e w' => ∃ v2_ : Value, e = .returned (.agg #[.int .i64 r1, .int .i64 r2, v2_]) ∧ Kd.R k37 37 w' w.heap.size (fun _ => True) v2_ r3 ∧ Below w.heap.size w w' := by
 have hu26 := Try.underlying26
 have hu37 := Try.underlying37
 have bv := Aside0.mk hr0
 have c9 := Aside0.mk hc0
 clear hr0 hc0
 have ca := Aside0.mk hr2
 have cb := Aside0.mk hc2
 clear hr2 hc2
 have HB := Aside0.mk (Below.refl w.heap.size w)
 have H : ((spec_l5Parts.f k l0 a1).bind fun t180 => (if 0 ≤ (wrap64 (a1 + 1)) then (if (wrap64 (a1 + 1) : Int).toNat ≤ 35184372088832 then ((spec_l5Copy.f l2).bind fun t186 => (spec_l5Move.l0 k l0 a1 t180 (List.replicate (wrap64 (a1 + 1) : Int).toNat 0) t186 0)) else (none)) else (none))) = some (r1, r2, r3) := h
 clear h
 replace H := Option.bind_eq_some_iff.mp H
 obtain ⟨t180, bw, H⟩ := H
 try dsimp only at H
 have A4 := Aside0.mk bw
 clear bw
 obtain ⟨ji5, hji5⟩ : ∃ j_ : Int, (wrap64 (a1 + 1)) = j_ := ⟨_, rfl⟩
 replace H : (if 0 ≤ (ji5) then (if (ji5 : Int).toNat ≤ 35184372088832 then ((spec_l5Copy.f l2).bind fun t186 => (spec_l5Move.l0 k l0 a1 t180 (List.replicate (ji5 : Int).toNat 0) t186 0)) else (none)) else (none)) = some (r1, r2, r3) := by first | (rw [hji5] at H; exact H) | (simp only [hji5] at H ⊢; exact H)
 (try rw [hji5] at A4)
 have hji5w : (IntKind.i64.wrap (a1 + 1)) = ji5 := (i64_w _).trans hji5
 by_cases c6 : 0 ≤ (ji5)
 ·rw [if_pos c6] at H
  have c6b0 := eq_true c6
  have c6b1 : decide (0 ≤ (ji5)) = true := decide_eq_true c6
  clear c6
  by_cases c7 : (ji5 : Int).toNat ≤ 35184372088832
  ·rw [if_pos c7] at H
   have c7b0 := eq_true c7
   have c7b1 : decide ((ji5 : Int).toNat ≤ 35184372088832) = true := decide_eq_true c7
   clear c7
   obtain ⟨y183, hy183⟩ : ∃ y_ : List Int, y_ = (List.replicate (ji5 : Int).toNat 0) := ⟨_, rfl⟩
   replace H : ((spec_l5Copy.f l2).bind fun t186 => (spec_l5Move.l0 k l0 a1 t180 y183 t186 0)) = some (r1, r2, r3) := by first | (rw [hy183]; with_reducible exact H) | (have H2_ := (Option.bind_some _ _).symm.trans H; rw [hy183]; with_reducible exact H2_) | (have H2_ := (Option.bind_some _ _).symm.trans H; with_reducible exact H2_) | with_reducible exact H | (rw [hy183]; exact H) | exact H
   have bc := Aside0.mk hy183
   clear hy183
   replace H := Option.bind_eq_some_iff.mp H
   obtain ⟨t186, bx, H⟩ := H
   try dsimp only at H
   have A8 := Aside0.mk bx
   clear bx
   have H' := Aside0.mk H
   clear H
   go_enter Try.func15, Try.ntmps15
   go_wp2_with (first | ((with_reducible refine gate_dst (N := 6) rfl ?_); refine box_event ?hg (N := 6) ?hd (cs := #[.int .i64 0, .int .i64 0, .slice none 0 0]) (t := 26) ?hr ?_; (case hd => rfl); (case hg => rfl); (case hr => first | (go_simp; done) | (go_simp; rfl)); intro ac hg w9 hbox hb; have n0_ := Aside0.mk (lP_ HB.out hb); have n1_ := Aside0.mk (hbox); have n3_ := Aside0.mk ((by rw [hg]; exact (below_size HB.out) : w.heap.size ≤ ac)); clear HB; have HB := n0_; have a2 := n1_; have ad := n3_; clear n0_ n1_ n3_ hb hbox hg) | ((with_reducible refine gate_callee (f := 31) rfl ?_); refine goesA_ (some 16) rfl rfl Try.func31 (by kernel_rfl) rfl #[.slice A0 l0.length c0, .int .i64 a1] rfl ?_; (with_reducible refine (spec_l5Parts.calls k _ _ l0 a1 t180 _ ?side1 ?side2 A4.out).mono ?_); (case side1 => repeat (first | exact (Kd.C_below bv.out HB.out) | (with_reducible refine Kd.C_alloc ?_ _) | (with_reducible refine Kd.C_drewN ?_ _) | (with_reducible refine Kd.C_drew ?_))); (case side2 => exact c9.out); rintro e w10 ⟨v181, rfl, ho0, hb⟩; refine ⟨_, rfl, ?_⟩; have n0_ := Aside0.mk (Kd.R_lower ho0 (below_size HB.out)); have n1_ := Aside0.mk (bB_ a2.out hb); have n2_ := Aside0.mk (lP_ HB.out hb); clear a2 HB; have b0 := n0_; have a2 := n1_; have HB := n2_; clear n0_ n1_ n2_; (try clear hb); (try clear hb2); (try clear hk); (try clear hi); (try clear ho0)) | ((with_reducible refine gate_dst (N := 19) rfl ?_); refine Kd.R_make (Kd.int .i64) _ 2 rfl (N := 19) rfl 44 _ _ rfl ji5 rfl rfl Try.underlying44 (.int .i64 0) 8 info2 rfl (by decide) (by omega) 0 (ok := fun _ => True) (okp := fun _ => True) rfl (fun _ hk => hk) trivial (of_decide_eq_true (by first | (with_reducible assumption) | assumption)) (Nat.le_trans (Nat.mul_le_mul_right _ (of_decide_eq_true (by first | (with_reducible assumption) | assumption) : ji5.toNat ≤ 35184372088832)) (by omega)) (Below.refl _ _) (Nat.le_refl _) ?_; intro v184 w11 ho12 hb hg_ hnew_; clear hg_ hnew_; (first | rw [← bc.out] at ho12 | (simp only [Int.reduceToNat] at ho12; rw [← bc.out] at ho12)); have n0_ := Aside0.mk (Kd.R_elder' b0.out (Kd.R_base ho12) hb); have n1_ := Aside0.mk (Kd.R_lower (Kd.R_new' ho12 (Kd.R_lt b0.out)) (below_size HB.out)); have n2_ := Aside0.mk (bB_ a2.out hb); have n3_ := Aside0.mk (lP_ HB.out hb); clear b0 a2 HB; have b0 := n0_; have b3 := n1_; have a2 := n2_; have HB := n3_; clear n0_ n1_ n2_ n3_ hb ho12) | ((with_reducible refine gate_callee (f := 32) rfl ?_); refine goesA_ (some 21) rfl rfl Try.func32 (by kernel_rfl) rfl #[.slice A2 l2.length c2] rfl ?_; (with_reducible refine (spec_l5Copy.calls _ _ l2 t186 _ ?side1 ?side2 A8.out).mono ?_); (case side1 => repeat (first | exact (Kd.C_below ca.out HB.out) | (with_reducible refine Kd.C_alloc ?_ _) | (with_reducible refine Kd.C_drewN ?_ _) | (with_reducible refine Kd.C_drew ?_))); (case side2 => exact cb.out); rintro e w13 ⟨v187, rfl, ho0, hb⟩; refine ⟨_, rfl, ?_⟩; have n0_ := Aside0.mk (Kd.R_below b0.out hb); have n1_ := Aside0.mk (Kd.R_below b3.out hb); have n2_ := Aside0.mk (Kd.R_lower ho0 (below_size HB.out)); have n3_ := Aside0.mk (bB_ a2.out hb); have n4_ := Aside0.mk (lP_ HB.out hb); clear b0 b3 a2 HB; have b0 := n0_; have b3 := n1_; have bn := n2_; have a2 := n3_; have HB := n4_; clear n0_ n1_ n2_ n3_ n4_; (try clear hb); (try clear hb2); (try clear hk); (try clear hi); (try clear ho0)))
   go_loopg [9, 10] k (fun kq v9 v10 w' => ∃ (x8_1 : List Int) (x9_1 : List (S37)) (x10_1 : Int) (x180000_1 : Int) (x180001_1 : Int), v10 = .int .i64 x10_1 ∧ Aside0 (spec_l5Move.l0 kq l0 a1 t180 x8_1 x9_1 x10_1 = some (r1, r2, r3)) ∧ Aside0 (kq ≤ k) ∧ Aside0 (Kd.R (Kd.int .i64) 2 w' w.heap.size (fun k_ => some k_ ≠ (v184 : Value).ownBlock) v181 t180) ∧ Aside0 (Kd.R (Kd.int .i64) 2 w' w.heap.size (fun k_ => some k_ ≠ (v181 : Value).ownBlock) v184 x8_1) ∧ Aside0 (Kd.R k37 37 w' w.heap.size (fun _ => True) v9 x9_1) ∧ Aside0 (w'.heap[ac]? = some (.cells #[.int .i64 x180000_1, .int .i64 x180001_1, (.slice none 0 0)] 26 (0, 0))) ∧ Aside0 (Below w.heap.size w w'))
   case atStart => exact ⟨(y183), (t186), (0), (0), (0), (by first | rfl | (simp; done) | (simp [*]; done)), H', ⟨Nat.le_refl _⟩, ⟨by (with_reducible repeat first | apply rA_ | apply rN_ | apply rD_); exact Kd.R_mono b0.out (fun _ hk => hk.2)⟩, ⟨by (with_reducible repeat first | apply rA_ | apply rN_ | apply rD_); exact Kd.R_mono b3.out (fun _ hk => hk.2)⟩, ⟨by (with_reducible repeat first | apply rA_ | apply rN_ | apply rD_); exact bn.out⟩, ⟨by (with_reducible repeat first | apply bN_ | apply bD_ | apply bA_); exact a2.out⟩, ⟨by repeat (first | (with_reducible first | exact HB.out | apply lA1_ | apply lN_ | apply lD_ | refine lS1_ ?_ ad.out) | exact HB.out)⟩⟩
   case round =>
    clear H'
    try clear c1
    try clear c2
    try clear p2
    try clear c3
    try clear c6
    try clear c6b0
    try clear c6b1
    try clear p6
    try clear c7
    try clear c7b0
    try clear c7b1
    obtain ⟨x8_1, x9_1, x10_1, x180000_1, x180001_1, rfl, HA, HK1, ab, a8, a6, a2, HB⟩ := hrel
    cases gk with
    | zero => exact absurd HA.out (by simp [spec_l5Move.l0])
    | succ k1 =>
     have H := HA.out
     clear HA
     simp only [spec_l5Move.l0] at H
     by_cases c14 : x10_1 < (t180.length : Int)
     ·rw [if_pos c14] at H
      have c14b0 : decide (x10_1 < (t180.length : Int)) = true := decide_eq_true c14
      clear c14
      by_cases c15 : 0 ≤ x10_1
      ·rw [if_pos c15] at H
       have c15b0 : decide (0 ≤ x10_1) = true := decide_eq_true c15
       clear c15
       by_cases c16 : 0 ≤ (rd t180 x10_1)
       ·rw [if_pos c16] at H
        have c16b0 : decide (0 ≤ (rd t180 x10_1)) = true := decide_eq_true c16
        clear c16
        by_cases c17 : (rd t180 x10_1) < (l0.length : Int)
        ·rw [if_pos c17] at H
         have c17b0 : decide ((rd t180 x10_1) < (l0.length : Int)) = true := decide_eq_true c17
         clear c17
         replace H := Option.bind_eq_some_iff.mp H
         obtain ⟨t194, bf, H⟩ := H
         try dsimp only at H
         have cc := Aside0.mk bf
         clear bf
         have b9 := Aside0.mk H
         clear H
         obtain ⟨fs, b1, eo20⟩ := Kd.R_slice ab.out
         subst eo20
         have p190 : 0 ≤ (x10_1 : Int) := of_decide_eq_true (by first | (with_reducible assumption) | assumption)
         have q190 : x10_1 < (t180.length : Int) := of_decide_eq_true (by first | (with_reducible assumption) | assumption)
         obtain ⟨ad190, e190, hx190_0⟩ := Kd.at_int (Kd.R_reads' ab.out).2.2 x10_1 p190 q190
         cases e190
         replace p190 := eq_true p190
         replace q190 := eq_true q190
         have p191 : 0 ≤ ((rd t180 x10_1) : Int) := of_decide_eq_true (by first | (with_reducible assumption) | assumption)
         have q191 : (rd t180 x10_1) < (l0.length : Int) := of_decide_eq_true (by first | (with_reducible assumption) | assumption)
         obtain ⟨ad191, e191, hx191_0, hx191_1, hx191_2, hx191_3⟩ := at_T37 bv.out (rd t180 x10_1) p191 q191
         cases e191
         replace hx191_0 := (HB.out.cell (World.block_lt_of_cell? w _ hx191_0)).trans hx191_0
         replace hx191_1 := (HB.out.cell (World.block_lt_of_cell? w _ hx191_1)).trans hx191_1
         replace hx191_2 := (HB.out.cell (World.block_lt_of_cell? w _ hx191_2)).trans hx191_2
         replace hx191_3 := (HB.out.cell (World.block_lt_of_cell? w _ hx191_3)).trans hx191_3
         replace p191 := eq_true p191
         replace q191 := eq_true q191
         go_upto_if 43 with (first | ((with_reducible refine gate_dst (N := 11) rfl ?_); refine box_event ?hg (N := 11) ?hd (cs := #[.int .i64 0, .int .i64 0, .int .i64 0, .int .i64 0]) (t := 37) ?hr ?_; (case hd => rfl); (case hg => rfl); (case hr => first | (go_simp; done) | (go_simp; rfl)); intro a9 hg w21 hbox hb; have n0_ := Aside0.mk (Kd.R_below (by (with_reducible repeat first | apply rA_ | apply rN_ | apply rD_); exact ab.out) hb); have n1_ := Aside0.mk (Kd.R_below (by (with_reducible repeat first | apply rA_ | apply rN_ | apply rD_); exact a8.out) hb); have n2_ := Aside0.mk (Kd.R_below (Kd.R_elderB (by (with_reducible repeat first | apply rA_ | apply rN_ | apply rD_); exact a6.out) a9 (Nat.le_of_eq hg.symm)) hb); have n3_ := Aside0.mk (bB_ (g := ac) (o := .cells #[.int .i64 x180000_1, .int .i64 x180001_1, .slice none 0 0] 26 (0, 0)) (by (with_reducible repeat first | apply bN_ | apply bD_ | apply bA_); exact a2.out) hb); have n4_ := Aside0.mk (lP_ (by repeat (first | (with_reducible first | exact HB.out | apply lA1_ | apply lN_ | apply lD_ | refine lS1_ ?_ ad.out) | exact HB.out)) hb); have n5_ := Aside0.mk (hbox); have n6_ := Aside0.mk ((by rw [hg]; exact (below_size (by repeat (first | (with_reducible first | exact HB.out | apply lA1_ | apply lN_ | apply lD_ | refine lS1_ ?_ ad.out) | exact HB.out))) : w.heap.size ≤ a9)); have n7_ := Aside0.mk ((by rw [hg]; exact (below_size (by repeat (first | (with_reducible first | exact HB.out | apply lA1_ | apply lN_ | apply lD_ | refine lS1_ ?_ ad.out) | exact HB.out))) : w.heap.size ≤ a9)); have n8_ := Aside0.mk ((by rw [hg]; exact Nat.ne_of_lt (blk_lt (g := ac) (o := .cells #[.int .i64 x180000_1, .int .i64 x180001_1, .slice none 0 0] 26 (0, 0)) (by (with_reducible repeat first | apply bN_ | apply bD_ | apply bA_); exact a2.out)) : ac ≠ a9)); have n9_ := Aside0.mk ((by rw [hg]; exact Nat.ne_of_gt (blk_lt (g := ac) (o := .cells #[.int .i64 x180000_1, .int .i64 x180001_1, .slice none 0 0] 26 (0, 0)) (by (with_reducible repeat first | apply bN_ | apply bD_ | apply bA_); exact a2.out)) : a9 ≠ ac)); clear ab a8 a6 a2 HB; have ab := n0_; have a8 := n1_; have a6 := n2_; have a2 := n3_; have HB := n4_; have a3 := n5_; have d3 := n6_; have ae := n7_; have aj := n8_; have am := n9_; clear n0_ n1_ n2_ n3_ n4_ n5_ n6_ n7_ n8_ n9_ hb hbox hg; have d4 := am.out; have d5 := aj.out; obtain ⟨_, _, _, _, _, _, _, _⟩ := bc4 a3.out) | ((with_reducible refine gate_dst (N := 12) rfl ?_); refine box_event ?hg (N := 12) ?hd (cs := #[.int .i64 0, .int .i64 0, .int .i64 0, .int .i64 0]) (t := 37) ?hr ?_; (case hd => rfl); (case hg => rfl); (case hr => first | (go_simp; done) | (go_simp; rfl)); intro a5 hg w24 hbox hb; have n0_ := Aside0.mk (Kd.R_below (by (with_reducible repeat first | apply rA_ | apply rN_ | apply rD_); exact (Kd.R_mono (rfar4 (g := a9) (Kd.R_types ab.out a3.out (by decide)) (fun _ hk => hk.2)) (fun _ h_ => h_.1))) hb); have n1_ := Aside0.mk (Kd.R_below (by (with_reducible repeat first | apply rA_ | apply rN_ | apply rD_); exact (Kd.R_mono (rfar4 (g := a9) (Kd.R_types a8.out a3.out (by decide)) (fun _ hk => hk.2)) (fun _ h_ => h_.1))) hb); have n2_ := Aside0.mk (Kd.R_below (Kd.R_elderB (by (with_reducible repeat first | apply rA_ | apply rN_ | apply rD_); exact (Kd.R_mono (rfar4 (g := a9) (Kd.R_mono a6.out (fun k_ hk => (⟨hk, hk.2⟩ : _ ∧ k_ ≠ a9))) (fun _ hk => hk.2)) (fun _ h_ => h_.1))) a5 (Nat.le_of_eq hg.symm)) hb); have n3_ := Aside0.mk (bB_ (g := ac) (o := .cells #[.int .i64 x180000_1, .int .i64 x180001_1, .slice none 0 0] 26 (0, 0)) (by (iterate 4 ((with_reducible repeat first | apply bN_ | apply bD_ | apply bA_); refine bF_ ?_ aj.out _)); (with_reducible repeat first | apply bN_ | apply bD_ | apply bA_); exact a2.out) hb); have n4_ := Aside0.mk (bB_ (g := a9) (o := .cells #[.int .i64 ((rd_T37 l0 (rd t180 x10_1)).f0), .int .i64 ((rd_T37 l0 (rd t180 x10_1)).f1), .int .i64 ((rd_T37 l0 (rd t180 x10_1)).f2), .int .i64 ((rd_T37 l0 (rd t180 x10_1)).f3)] 37 (0, 0)) (by (with_reducible repeat first | apply bN_ | apply bD_ | apply bA_); apply fill4; (with_reducible repeat first | apply bN_ | apply bD_ | apply bA_); exact a3.out) hb); have n5_ := Aside0.mk (lP_ (by repeat (first | (with_reducible first | exact HB.out | apply lA1_ | apply lN_ | apply lD_ | refine lS1_ ?_ ad.out | refine lS1_ ?_ ae.out) | exact HB.out)) hb); have n6_ := Aside0.mk (hbox); have n7_ := Aside0.mk ((by rw [hg]; exact (below_size (by repeat (first | (with_reducible first | exact HB.out | apply lA1_ | apply lN_ | apply lD_ | refine lS1_ ?_ ad.out | refine lS1_ ?_ ae.out) | exact HB.out))) : w.heap.size ≤ a5)); have n8_ := Aside0.mk ((by rw [hg]; exact (below_size (by repeat (first | (with_reducible first | exact HB.out | apply lA1_ | apply lN_ | apply lD_ | refine lS1_ ?_ ad.out | refine lS1_ ?_ ae.out) | exact HB.out))) : w.heap.size ≤ a5)); have n9_ := Aside0.mk ((by rw [hg]; exact Nat.ne_of_lt (blk_lt (g := ac) (o := .cells #[.int .i64 x180000_1, .int .i64 x180001_1, .slice none 0 0] 26 (0, 0)) (by (iterate 4 ((with_reducible repeat first | apply bN_ | apply bD_ | apply bA_); refine bF_ ?_ aj.out _)); (with_reducible repeat first | apply bN_ | apply bD_ | apply bA_); exact a2.out)) : ac ≠ a5)); have n10_ := Aside0.mk ((by rw [hg]; exact Nat.ne_of_gt (blk_lt (g := ac) (o := .cells #[.int .i64 x180000_1, .int .i64 x180001_1, .slice none 0 0] 26 (0, 0)) (by (iterate 4 ((with_reducible repeat first | apply bN_ | apply bD_ | apply bA_); refine bF_ ?_ aj.out _)); (with_reducible repeat first | apply bN_ | apply bD_ | apply bA_); exact a2.out)) : a5 ≠ ac)); have n11_ := Aside0.mk ((by rw [hg]; exact Nat.ne_of_lt (blk_lt (g := a9) (o := .cells #[.int .i64 ((rd_T37 l0 (rd t180 x10_1)).f0), .int .i64 ((rd_T37 l0 (rd t180 x10_1)).f1), .int .i64 ((rd_T37 l0 (rd t180 x10_1)).f2), .int .i64 ((rd_T37 l0 (rd t180 x10_1)).f3)] 37 (0, 0)) (by (with_reducible repeat first | apply bN_ | apply bD_ | apply bA_); apply fill4; (with_reducible repeat first | apply bN_ | apply bD_ | apply bA_); exact a3.out)) : a9 ≠ a5)); have n12_ := Aside0.mk ((by rw [hg]; exact Nat.ne_of_gt (blk_lt (g := a9) (o := .cells #[.int .i64 ((rd_T37 l0 (rd t180 x10_1)).f0), .int .i64 ((rd_T37 l0 (rd t180 x10_1)).f1), .int .i64 ((rd_T37 l0 (rd t180 x10_1)).f2), .int .i64 ((rd_T37 l0 (rd t180 x10_1)).f3)] 37 (0, 0)) (by (with_reducible repeat first | apply bN_ | apply bD_ | apply bA_); apply fill4; (with_reducible repeat first | apply bN_ | apply bD_ | apply bA_); exact a3.out)) : a5 ≠ a9)); clear ab a8 a6 a2 a3 HB; have ab := n0_; have a8 := n1_; have a6 := n2_; have a2 := n3_; have a3 := n4_; have HB := n5_; have a4 := n6_; have d6 := n7_; have ag := n8_; have al := n9_; have aq := n10_; have ak := n11_; have an := n12_; clear n0_ n1_ n2_ n3_ n4_ n5_ n6_ n7_ n8_ n9_ n10_ n11_ n12_ hb hbox hg; have d7 := aq.out; have d8 := al.out; have d9 := an.out; have da := ak.out; obtain ⟨_, _, _, _, _, _, _, _⟩ := bc4 a4.out; obtain ⟨_, _, _, _, _, _, _, _⟩ := bc4 a3.out) | ((with_reducible refine gate_callee (f := 33) rfl ?_); refine goesA_ (some 42) rfl rfl Try.func33 (by kernel_rfl) rfl #[.int .i64 ((rd_T37 l0 (rd t180 x10_1)).f0)] rfl ?_; (with_reducible refine (spec_l5Kids.calls k1 ((rd_T37 l0 (rd t180 x10_1)).f0) t194 _ cc.out).mono ?_); rintro e w' ⟨rfl, ⟨nd, rfl⟩⟩; refine ⟨_, rfl, ?_⟩))
         (try simp only [Act.put, lA_, lZ_, lS_])
         go_cut [] (fun wc => ∃ (kq : Nat) (x194001_18 : Int), Aside0 (spec_l5Move.j1 kq l0 a1 t180 x8_1 x9_1 x10_1 ((rd_T37 l0 (rd t180 x10_1)).f0) ((rd_T37 l0 (rd t180 x10_1)).f1) ((rd_T37 l0 (rd t180 x10_1)).f2) ((rd_T37 l0 (rd t180 x10_1)).f3) ((rd_T37 l0 (rd t180 x10_1)).f0) x194001_18 0 ((rd_T37 l0 (rd t180 x10_1)).f3) = some (r1, r2, r3)) ∧ Aside0 (kq ≤ k1) ∧ Aside0 (Kd.R (Kd.int .i64) 2 wc w.heap.size (fun k_ => some k_ ≠ (v184 : Value).ownBlock) (.slice (some ad190) t180.length b1) t180) ∧ Aside0 (Kd.R (Kd.int .i64) 2 wc w.heap.size (fun k_ => some k_ ≠ ((.slice (some ad190) t180.length b1) : Value).ownBlock) v184 x8_1) ∧ Aside0 (Kd.R k37 37 wc w.heap.size (fun k_ => k_ ≠ a9 ∧ k_ ≠ a5) u9 x9_1) ∧ Aside0 (wc.heap[ac]? = some (.cells #[.int .i64 x180000_1, .int .i64 x180001_1, (.slice none 0 0)] 26 (0, 0))) ∧ Aside0 (wc.heap[a9]? = some (.cells #[.int .i64 ((rd_T37 l0 (rd t180 x10_1)).f0), .int .i64 ((rd_T37 l0 (rd t180 x10_1)).f1), .int .i64 ((rd_T37 l0 (rd t180 x10_1)).f2), .int .i64 ((rd_T37 l0 (rd t180 x10_1)).f3)] 37 (0, 0))) ∧ Aside0 (wc.heap[a5]? = some (.cells #[.int .i64 ((rd_T37 l0 (rd t180 x10_1)).f0), .int .i64 x194001_18, .int .i64 0, .int .i64 ((rd_T37 l0 (rd t180 x10_1)).f3)] 37 (0, 0))) ∧ Aside0 (Below w.heap.size w wc))
         case first =>
          have H := b9.out
          clear b9
          by_cases c29 : t194 > 0
          ·rw [if_pos c29] at H
           have c29b0 : decide (0 < t194) = true := decide_eq_true c29
           clear c29
           (first | rw [c29b0] | (simp only [i64_w, i32_w]; rw [c29b0]) | skip)
           by_cases c30 : 0 ≤ ((rd_T37 l0 (rd t180 x10_1)).f1)
           ·rw [if_pos c30] at H
            have c30b0 : decide (0 ≤ ((rd_T37 l0 (rd t180 x10_1)).f1)) = true := decide_eq_true c30
            clear c30
            by_cases c31 : ((rd_T37 l0 (rd t180 x10_1)).f1) < (x8_1.length : Int)
            ·rw [if_pos c31] at H
             have c31b0 : decide (((rd_T37 l0 (rd t180 x10_1)).f1) < (x8_1.length : Int)) = true := decide_eq_true c31
             clear c31
             have H' := Aside0.mk H
             clear H
             have db := am.out
             have dc := aj.out
             have dd := ak.out
             have de := an.out
             obtain ⟨_, _, _, _, _, _, _, _⟩ := bc4 a3.out
             obtain ⟨ft, fu, eo35⟩ := Kd.R_slice a8.out
             subst eo35
             have p195 : 0 ≤ (((rd_T37 l0 (rd t180 x10_1)).f1) : Int) := of_decide_eq_true (by first | (with_reducible assumption) | assumption)
             have q195 : ((rd_T37 l0 (rd t180 x10_1)).f1) < (x8_1.length : Int) := of_decide_eq_true (by first | (with_reducible assumption) | assumption)
             obtain ⟨ad195, e195, hx195_0⟩ := Kd.at_int (Kd.R_reads' a8.out).2.2 ((rd_T37 l0 (rd t180 x10_1)).f1) p195 q195
             cases e195
             have hn195_0 : ad195.block ≠ a5 := Kd.own_blk (Kd.R_ne a8.out a4.out (by decide))
             have hn195_1 : ad195.block ≠ a5 := Kd.own_blk (Kd.R_ne a8.out a4.out (by decide))
             have hn195_2 : ad195.block ≠ a5 := Kd.own_blk (Kd.R_ne a8.out a4.out (by decide))
             have hn195_3 : ad195.block ≠ a5 := Kd.own_blk (Kd.R_ne a8.out a4.out (by decide))
             replace hx195_0 := (cell_far (p := ⟨a5, 0, none⟩) (by first | (rw [add_block]; exact hn195_0) | (show (Addr.add _ _).block ≠ _; rw [add_block]; exact hn195_0) | exact hn195_0) (.int .i64 ((rd_T37 l0 (rd t180 x10_1)).f0))).trans hx195_0
             replace hx195_0 := (cell_far (p := ⟨a5, 1, none⟩) (by first | (rw [add_block]; exact hn195_1) | (show (Addr.add _ _).block ≠ _; rw [add_block]; exact hn195_1) | exact hn195_1) (.int .i64 0)).trans hx195_0
             replace hx195_0 := (cell_far (p := ⟨a5, 2, none⟩) (by first | (rw [add_block]; exact hn195_2) | (show (Addr.add _ _).block ≠ _; rw [add_block]; exact hn195_2) | exact hn195_2) (.int .i64 0)).trans hx195_0
             replace hx195_0 := (cell_far (p := ⟨a5, 3, none⟩) (by first | (rw [add_block]; exact hn195_3) | (show (Addr.add _ _).block ≠ _; rw [add_block]; exact hn195_3) | exact hn195_3) (.int .i64 ((rd_T37 l0 (rd t180 x10_1)).f3))).trans hx195_0
             clear hn195_0
             clear hn195_1
             clear hn195_2
             clear hn195_3
             replace p195 := eq_true p195
             replace q195 := eq_true q195
             have df := aq.out
             have dg := al.out
             obtain ⟨_, _, _, _, _, _, _, _⟩ := bc4 a4.out
             go_wp2
             go_meet
             case rel => exact ⟨_, (rd x8_1 ((rd_T37 l0 (rd t180 x10_1)).f1)), H', ⟨by have := HK1.out; first | omega | exact Nat.le_refl _⟩, ⟨by (with_reducible repeat first | apply rA_ | apply rN_ | apply rD_); exact Kd.R_mono (Kd.R_far (p := ⟨a5, 1, none⟩) (rfar4 (g := a5) (Kd.R_types ab.out a4.out (by decide)) (fun _ hk => hk.2)) (fun _ hk => hk.2) (.int .i64 (rd x8_1 ((rd_T37 l0 (rd t180 x10_1)).f1)))) (fun _ hk => hk.1)⟩, ⟨by (with_reducible repeat first | apply rA_ | apply rN_ | apply rD_); exact Kd.R_mono (Kd.R_far (p := ⟨a5, 1, none⟩) (rfar4 (g := a5) (Kd.R_types a8.out a4.out (by decide)) (fun _ hk => hk.2)) (fun _ hk => hk.2) (.int .i64 (rd x8_1 ((rd_T37 l0 (rd t180 x10_1)).f1)))) (fun _ hk => hk.1)⟩, ⟨by (with_reducible repeat first | apply rA_ | apply rN_ | apply rD_); exact Kd.R_mono (Kd.R_far (p := ⟨a5, 1, none⟩) (rfar4 (g := a5) (Kd.R_mono a6.out (fun k_ hk => (⟨hk, hk.2⟩ : _ ∧ k_ ≠ a5))) (fun _ hk => hk.2)) (fun _ hk => hk.2) (.int .i64 (rd x8_1 ((rd_T37 l0 (rd t180 x10_1)).f1)))) (fun _ hk => ⟨hk.1.1.2, hk.1.2⟩)⟩, ⟨by (iterate 5 ((with_reducible repeat first | apply bN_ | apply bD_ | apply bA_); refine bF_ ?_ al.out _)); (with_reducible repeat first | apply bN_ | apply bD_ | apply bA_); exact a2.out⟩, ⟨by (iterate 5 ((with_reducible repeat first | apply bN_ | apply bD_ | apply bA_); refine bF_ ?_ ak.out _)); (with_reducible repeat first | apply bN_ | apply bD_ | apply bA_); exact a3.out⟩, ⟨by (with_reducible repeat first | apply bN_ | apply bD_ | apply bA_); refine blk_put (cs := #[.int .i64 ((rd_T37 l0 (rd t180 x10_1)).f0), .int .i64 0, .int .i64 0, .int .i64 ((rd_T37 l0 (rd t180 x10_1)).f3)]) ?_ 1 _ rfl; (with_reducible repeat first | apply bN_ | apply bD_ | apply bA_); apply fill4; (with_reducible repeat first | apply bN_ | apply bD_ | apply bA_); exact a4.out⟩, ⟨by repeat (first | (with_reducible first | exact HB.out | apply lA1_ | apply lN_ | apply lD_ | refine lS1_ ?_ ad.out | refine lS1_ ?_ ae.out | refine lS1_ ?_ ag.out) | exact HB.out)⟩⟩
            ·rw [if_neg c31] at H
             exact absurd H (by simp)
           ·rw [if_neg c30] at H
            exact absurd H (by simp)
          ·rw [if_neg c29] at H
           have c29b0 : decide (0 < t194) = false := decide_eq_false c29
           clear c29
           (first | rw [c29b0] | (simp only [i64_w, i32_w]; rw [c29b0]) | skip)
           have H' := Aside0.mk H
           clear H
           go_wp2
           go_meet
           case rel => exact ⟨_, (0), H', ⟨by have := HK1.out; first | omega | exact Nat.le_refl _⟩, ⟨by (with_reducible repeat first | apply rA_ | apply rN_ | apply rD_); exact Kd.R_mono (rfar4 (g := a5) (Kd.R_types ab.out a4.out (by decide)) (fun _ hk => hk.2)) (fun _ hk => hk.1)⟩, ⟨by (with_reducible repeat first | apply rA_ | apply rN_ | apply rD_); exact Kd.R_mono (rfar4 (g := a5) (Kd.R_types a8.out a4.out (by decide)) (fun _ hk => hk.2)) (fun _ hk => hk.1)⟩, ⟨by (with_reducible repeat first | apply rA_ | apply rN_ | apply rD_); exact Kd.R_mono (rfar4 (g := a5) (Kd.R_mono a6.out (fun k_ hk => (⟨hk, hk.2⟩ : _ ∧ k_ ≠ a5))) (fun _ hk => hk.2)) (fun _ hk => ⟨hk.1.1.2, hk.1.2⟩)⟩, ⟨by (iterate 4 ((with_reducible repeat first | apply bN_ | apply bD_ | apply bA_); refine bF_ ?_ al.out _)); (with_reducible repeat first | apply bN_ | apply bD_ | apply bA_); exact a2.out⟩, ⟨by (iterate 4 ((with_reducible repeat first | apply bN_ | apply bD_ | apply bA_); refine bF_ ?_ ak.out _)); (with_reducible repeat first | apply bN_ | apply bD_ | apply bA_); exact a3.out⟩, ⟨by (with_reducible repeat first | apply bN_ | apply bD_ | apply bA_); apply fill4; (with_reducible repeat first | apply bN_ | apply bD_ | apply bA_); exact a4.out⟩, ⟨by repeat (first | (with_reducible first | exact HB.out | apply lA1_ | apply lN_ | apply lD_ | refine lS1_ ?_ ad.out | refine lS1_ ?_ ae.out | refine lS1_ ?_ ag.out) | exact HB.out)⟩⟩
         case rest =>
          clear b9
          try clear c1
          try clear p1
          try clear q1
          try clear hx1
          try clear c2
          try clear p2
          try clear c3
          try clear c6
          try clear c6b0
          try clear c6b1
          try clear p6
          try clear c7
          try clear c7b0
          try clear c7b1
          try clear c14
          try clear c14b0
          try clear c15
          try clear c15b0
          try clear c16
          try clear c16b0
          try clear c17
          try clear c17b0
          try clear p19
          try clear q19
          try clear hx19
          try clear c22
          try clear c25
          try clear c26
          try clear c29
          try clear c29b0
          try clear c30
          try clear c30b0
          try clear c31
          try clear c31b0
          try clear c32
          try clear c33
          try clear c36
          try clear hcz23_0
          try clear hcz23_1
          try clear hcz23_2
          try clear hcz23_3
          try clear hcz27_0
          try clear hcz27_1
          try clear hcz27_2
          try clear hcz27_3
          try clear hcz28_0
          try clear hcz28_1
          try clear hcz28_2
          try clear hcz28_3
          try clear hcz34_0
          try clear hcz34_1
          try clear hcz34_2
          try clear hcz34_3
          try clear hcz37_0
          try clear hcz37_1
          try clear hcz37_2
          try clear hcz37_3
          try clear hfz23_0
          try clear hfz23_1
          try clear hfz23_2
          try clear hfz23_3
          try clear hfz27_0
          try clear hfz27_1
          try clear hfz27_2
          try clear hfz27_3
          try clear hfz28_0
          try clear hfz28_1
          try clear hfz28_2
          try clear hfz28_3
          try clear hfz34_0
          try clear hfz34_1
          try clear hfz34_2
          try clear hfz34_3
          try clear hfz37_0
          try clear hfz37_1
          try clear hfz37_2
          try clear hfz37_3
          try clear hx190_0
          try clear hx191_0
          try clear hx191_1
          try clear hx191_2
          try clear hx191_3
          try clear hx195_0
          try clear p190
          try clear p191
          try clear p195
          try clear p2
          try clear p6
          try clear q190
          try clear q191
          try clear q195
          obtain ⟨kq, x194001_18, HA, HJ18, ab, a8, a6, a2, a3, a4, HB⟩ := hcut
          cases kq with
          | zero => exact absurd HA.out (by simp [spec_l5Move.j1])
          | succ kj18 =>
           have H := HA.out
           clear HA
           simp only [spec_l5Move.j1] at H
           replace H := Option.bind_eq_some_iff.mp H
           obtain ⟨t196, bg, H⟩ := H
           try dsimp only at H
           have cd := Aside0.mk bg
           clear bg
           have ba := Aside0.mk H
           clear H
           have dh := am.out
           have di := aj.out
           have dj := ak.out
           have dk := an.out
           obtain ⟨_, _, _, _, _, _, _, _⟩ := bc4 a3.out
           go_upto_if 53 with (first | ((with_reducible refine gate_callee (f := 33) rfl ?_); refine goesA_ (some 52) rfl rfl Try.func33 (by kernel_rfl) rfl #[.int .i64 ((rd_T37 l0 (rd t180 x10_1)).f0)] rfl ?_; (with_reducible refine (spec_l5Kids.calls kj18 ((rd_T37 l0 (rd t180 x10_1)).f0) t196 _ cd.out).mono ?_); rintro e w' ⟨rfl, ⟨nd, rfl⟩⟩; refine ⟨_, rfl, ?_⟩))
           (try simp only [Act.put, lA_, lZ_, lS_])
           go_cut [] (fun wc => ∃ (kq : Nat) (x194002_38 : Int), Aside0 (spec_l5Move.j2 kq l0 a1 t180 x8_1 x9_1 x10_1 ((rd_T37 l0 (rd t180 x10_1)).f0) ((rd_T37 l0 (rd t180 x10_1)).f1) ((rd_T37 l0 (rd t180 x10_1)).f2) ((rd_T37 l0 (rd t180 x10_1)).f3) ((rd_T37 l0 (rd t180 x10_1)).f0) x194001_18 x194002_38 ((rd_T37 l0 (rd t180 x10_1)).f3) = some (r1, r2, r3)) ∧ Aside0 (kq ≤ kj18) ∧ Aside0 (Kd.R (Kd.int .i64) 2 wc w.heap.size (fun k_ => some k_ ≠ (v184 : Value).ownBlock) (.slice (some ad190) t180.length b1) t180) ∧ Aside0 (Kd.R (Kd.int .i64) 2 wc w.heap.size (fun k_ => some k_ ≠ ((.slice (some ad190) t180.length b1) : Value).ownBlock) v184 x8_1) ∧ Aside0 (Kd.R k37 37 wc w.heap.size (fun k_ => k_ ≠ a9 ∧ k_ ≠ a5) u9 x9_1) ∧ Aside0 (wc.heap[ac]? = some (.cells #[.int .i64 x180000_1, .int .i64 x180001_1, (.slice none 0 0)] 26 (0, 0))) ∧ Aside0 (wc.heap[a9]? = some (.cells #[.int .i64 ((rd_T37 l0 (rd t180 x10_1)).f0), .int .i64 ((rd_T37 l0 (rd t180 x10_1)).f1), .int .i64 ((rd_T37 l0 (rd t180 x10_1)).f2), .int .i64 ((rd_T37 l0 (rd t180 x10_1)).f3)] 37 (0, 0))) ∧ Aside0 (wc.heap[a5]? = some (.cells #[.int .i64 ((rd_T37 l0 (rd t180 x10_1)).f0), .int .i64 x194001_18, .int .i64 x194002_38, .int .i64 ((rd_T37 l0 (rd t180 x10_1)).f3)] 37 (0, 0))) ∧ Aside0 (Below w.heap.size w wc))
           case first =>
            have H := ba.out
            clear ba
            by_cases c43 : t196 > 1
            ·rw [if_pos c43] at H
             have c43b0 : decide (1 < t196) = true := decide_eq_true c43
             clear c43
             (first | rw [c43b0] | (simp only [i64_w, i32_w]; rw [c43b0]) | skip)
             by_cases c44 : 0 ≤ ((rd_T37 l0 (rd t180 x10_1)).f2)
             ·rw [if_pos c44] at H
              have c44b0 : decide (0 ≤ ((rd_T37 l0 (rd t180 x10_1)).f2)) = true := decide_eq_true c44
              clear c44
              by_cases c45 : ((rd_T37 l0 (rd t180 x10_1)).f2) < (x8_1.length : Int)
              ·rw [if_pos c45] at H
               have c45b0 : decide (((rd_T37 l0 (rd t180 x10_1)).f2) < (x8_1.length : Int)) = true := decide_eq_true c45
               clear c45
               have H' := Aside0.mk H
               clear H
               have dl := am.out
               have dm := aj.out
               have dn := ak.out
               have dp := an.out
               obtain ⟨_, _, _, _, _, _, _, _⟩ := bc4 a3.out
               obtain ⟨fv, fw, eo49⟩ := Kd.R_slice a8.out
               subst eo49
               have p197 : 0 ≤ (((rd_T37 l0 (rd t180 x10_1)).f2) : Int) := of_decide_eq_true (by first | (with_reducible assumption) | assumption)
               have q197 : ((rd_T37 l0 (rd t180 x10_1)).f2) < (x8_1.length : Int) := of_decide_eq_true (by first | (with_reducible assumption) | assumption)
               obtain ⟨ad197, e197, hx197_0⟩ := Kd.at_int (Kd.R_reads' a8.out).2.2 ((rd_T37 l0 (rd t180 x10_1)).f2) p197 q197
               cases e197
               replace p197 := eq_true p197
               replace q197 := eq_true q197
               have dq := aq.out
               have dr := al.out
               obtain ⟨_, _, _, _, _, _, _, _⟩ := bc4 a4.out
               go_wp2
               go_meet
               case rel => exact ⟨_, (rd x8_1 ((rd_T37 l0 (rd t180 x10_1)).f2)), H', ⟨by have := HK1.out; have := HJ18.out; first | omega | exact Nat.le_refl _⟩, ⟨by (with_reducible repeat first | apply rA_ | apply rN_ | apply rD_); exact Kd.R_mono (Kd.R_far (p := ⟨a5, 2, none⟩) (Kd.R_types ab.out a4.out (by decide)) (fun _ hk => hk.2) (.int .i64 (rd x8_1 ((rd_T37 l0 (rd t180 x10_1)).f2)))) (fun _ hk => hk.1)⟩, ⟨by (with_reducible repeat first | apply rA_ | apply rN_ | apply rD_); exact Kd.R_mono (Kd.R_far (p := ⟨a5, 2, none⟩) (Kd.R_types a8.out a4.out (by decide)) (fun _ hk => hk.2) (.int .i64 (rd x8_1 ((rd_T37 l0 (rd t180 x10_1)).f2)))) (fun _ hk => hk.1)⟩, ⟨by (with_reducible repeat first | apply rA_ | apply rN_ | apply rD_); exact Kd.R_mono (Kd.R_far (p := ⟨a5, 2, none⟩) (Kd.R_mono a6.out (fun k_ hk => (⟨hk, hk.2⟩ : _ ∧ k_ ≠ a5))) (fun _ hk => hk.2) (.int .i64 (rd x8_1 ((rd_T37 l0 (rd t180 x10_1)).f2)))) (fun _ hk => ⟨hk.1.1, hk.1.2⟩)⟩, ⟨by (with_reducible repeat first | apply bN_ | apply bD_ | apply bA_); refine bF_ ?_ al.out _; (with_reducible repeat first | apply bN_ | apply bD_ | apply bA_); exact a2.out⟩, ⟨by (with_reducible repeat first | apply bN_ | apply bD_ | apply bA_); refine bF_ ?_ ak.out _; (with_reducible repeat first | apply bN_ | apply bD_ | apply bA_); exact a3.out⟩, ⟨by (with_reducible repeat first | apply bN_ | apply bD_ | apply bA_); refine blk_put (cs := #[.int .i64 ((rd_T37 l0 (rd t180 x10_1)).f0), .int .i64 x194001_18, .int .i64 0, .int .i64 ((rd_T37 l0 (rd t180 x10_1)).f3)]) ?_ 2 _ rfl; (with_reducible repeat first | apply bN_ | apply bD_ | apply bA_); exact a4.out⟩, ⟨by repeat (first | (with_reducible first | exact HB.out | apply lA1_ | apply lN_ | apply lD_ | refine lS1_ ?_ ad.out | refine lS1_ ?_ ae.out | refine lS1_ ?_ ag.out) | exact HB.out)⟩⟩
              ·rw [if_neg c45] at H
               exact absurd H (by simp)
             ·rw [if_neg c44] at H
              exact absurd H (by simp)
            ·rw [if_neg c43] at H
             have c43b0 : decide (1 < t196) = false := decide_eq_false c43
             clear c43
             (first | rw [c43b0] | (simp only [i64_w, i32_w]; rw [c43b0]) | skip)
             have H' := Aside0.mk H
             clear H
             go_wp2
             go_meet
             case rel => exact ⟨_, (0), H', ⟨by have := HK1.out; have := HJ18.out; first | omega | exact Nat.le_refl _⟩, ⟨by (with_reducible repeat first | apply rA_ | apply rN_ | apply rD_); exact ab.out⟩, ⟨by (with_reducible repeat first | apply rA_ | apply rN_ | apply rD_); exact a8.out⟩, ⟨by (with_reducible repeat first | apply rA_ | apply rN_ | apply rD_); exact a6.out⟩, ⟨by (with_reducible repeat first | apply bN_ | apply bD_ | apply bA_); exact a2.out⟩, ⟨by (with_reducible repeat first | apply bN_ | apply bD_ | apply bA_); exact a3.out⟩, ⟨by (with_reducible repeat first | apply bN_ | apply bD_ | apply bA_); exact a4.out⟩, ⟨by repeat (first | (with_reducible first | exact HB.out | apply lA1_ | apply lN_ | apply lD_ | refine lS1_ ?_ ad.out | refine lS1_ ?_ ae.out | refine lS1_ ?_ ag.out) | exact HB.out)⟩⟩
           case rest =>
            clear ba
            try clear c1
            try clear p1
            try clear q1
            try clear hx1
            try clear c2
            try clear p2
            try clear c3
            try clear c4
            try clear c5
            try clear c6
            try clear c6b0
            try clear c6b1
            try clear p6
            try clear c7
            try clear c7b0
            try clear c7b1
            try clear c14
            try clear c14b0
            try clear c15
            try clear c15b0
            try clear c16
            try clear c16b0
            try clear c17
            try clear c17b0
            try clear p19
            try clear q19
            try clear hx19
            try clear c22
            try clear c25
            try clear c26
            try clear c29
            try clear c29b0
            try clear c30
            try clear c30b0
            try clear c31
            try clear c31b0
            try clear c32
            try clear c33
            try clear c36
            try clear c40
            try clear c41
            try clear c43
            try clear c43b0
            try clear c44
            try clear c44b0
            try clear c45
            try clear c45b0
            try clear c46
            try clear c47
            try clear c50
            try clear hcz23_0
            try clear hcz23_1
            try clear hcz23_2
            try clear hcz23_3
            try clear hcz27_0
            try clear hcz27_1
            try clear hcz27_2
            try clear hcz27_3
            try clear hcz28_0
            try clear hcz28_1
            try clear hcz28_2
            try clear hcz28_3
            try clear hcz34_0
            try clear hcz34_1
            try clear hcz34_2
            try clear hcz34_3
            try clear hcz37_0
            try clear hcz37_1
            try clear hcz37_2
            try clear hcz37_3
            try clear hcz42_0
            try clear hcz42_1
            try clear hcz42_2
            try clear hcz42_3
            try clear hcz48_0
            try clear hcz48_1
            try clear hcz48_2
            try clear hcz48_3
            try clear hcz51_0
            try clear hcz51_1
            try clear hcz51_2
            try clear hcz51_3
            try clear hfz23_0
            try clear hfz23_1
            try clear hfz23_2
            try clear hfz23_3
            try clear hfz27_0
            try clear hfz27_1
            try clear hfz27_2
            try clear hfz27_3
            try clear hfz28_0
            try clear hfz28_1
            try clear hfz28_2
            try clear hfz28_3
            try clear hfz34_0
            try clear hfz34_1
            try clear hfz34_2
            try clear hfz34_3
            try clear hfz37_0
            try clear hfz37_1
            try clear hfz37_2
            try clear hfz37_3
            try clear hfz42_0
            try clear hfz42_1
            try clear hfz42_2
            try clear hfz42_3
            try clear hfz48_0
            try clear hfz48_1
            try clear hfz48_2
            try clear hfz48_3
            try clear hfz51_0
            try clear hfz51_1
            try clear hfz51_2
            try clear hfz51_3
            try clear hx190_0
            try clear hx191_0
            try clear hx191_1
            try clear hx191_2
            try clear hx191_3
            try clear hx195_0
            try clear hx197_0
            try clear p1
            try clear p19
            try clear p190
            try clear p191
            try clear p195
            try clear p197
            try clear p2
            try clear p6
            try clear q1
            try clear q19
            try clear q190
            try clear q191
            try clear q195
            try clear q197
            obtain ⟨kq, x194002_38, HA, HJ38, ab, a8, a6, a2, a3, a4, HB⟩ := hcut
            cases kq with
            | zero => exact absurd HA.out (by simp [spec_l5Move.j2])
            | succ kj38 =>
             have H := HA.out
             clear HA
             simp only [spec_l5Move.j2] at H
             replace H := Option.bind_eq_some_iff.mp H
             obtain ⟨⟨t198, t199, t200⟩, bh, H⟩ := H
             try dsimp only at H
             have bd := Aside0.mk bh
             clear bh
             by_cases c53 : ((rd_T37 l0 (rd t180 x10_1)).f0) = 7
             ·rw [if_pos c53] at H
              have c53b0 : (((rd_T37 l0 (rd t180 x10_1)).f0) == 7) = true := beq_iff_eq.mpr c53
              have c53b1 : (((rd_T37 l0 (rd t180 x10_1)).f0) != 7) = false := bne_eq_false_iff_eq.mpr c53
              clear c53
              replace H := Option.bind_eq_some_iff.mp H
              obtain ⟨⟨t204, t205, t206⟩, bi, H⟩ := H
              try dsimp only at H
              have bz := Aside0.mk bi
              clear bi
              by_cases c55 : t204 = 0
              ·rw [if_pos c55] at H
               have c55b0 : (t204 == 0) = true := beq_iff_eq.mpr c55
               have c55b1 : (t204 != 0) = false := bne_eq_false_iff_eq.mpr c55
               clear c55
               by_cases c56 : 0 ≤ x10_1
               ·rw [if_pos c56] at H
                have c56b0 : decide (0 ≤ x10_1) = true := decide_eq_true c56
                clear c56
                by_cases c57 : x10_1 < (t180.length : Int)
                ·rw [if_pos c57] at H
                 have c57b0 : decide (x10_1 < (t180.length : Int)) = true := decide_eq_true c57
                 clear c57
                 by_cases c58 : 0 ≤ (rd t180 x10_1)
                 ·rw [if_pos c58] at H
                  have c58b0 : decide (0 ≤ (rd t180 x10_1)) = true := decide_eq_true c58
                  clear c58
                  by_cases c59 : (rd t180 x10_1) < (x8_1.length : Int)
                  ·rw [if_pos c59] at H
                   have c59b0 : decide ((rd t180 x10_1) < (x8_1.length : Int)) = true := decide_eq_true c59
                   clear c59
                   obtain ⟨y210, hy210⟩ : ∃ y_ : List Int, y_ = (x8_1.set ((rd t180 x10_1) : Int).toNat t205) := ⟨_, rfl⟩
                   replace H : (spec_l5Move.l0 kj38 l0 a1 t180 y210 t206 (wrap64 (x10_1 + 1))) = some (r1, r2, r3) := by first | (rw [hy210]; with_reducible exact H) | (have H2_ := (Option.bind_some _ _).symm.trans H; rw [hy210]; with_reducible exact H2_) | (have H2_ := (Option.bind_some _ _).symm.trans H; with_reducible exact H2_) | with_reducible exact H | (rw [hy210]; exact H) | exact H
                   have bo := Aside0.mk hy210
                   clear hy210
                   have H' := Aside0.mk H
                   clear H
                   have dt := aq.out
                   have du := al.out
                   have dv := an.out
                   have dw := ak.out
                   obtain ⟨_, _, _, _, _, _, _, _⟩ := bc4 a4.out
                   obtain ⟨b4, b2, eo64⟩ := Kd.R_slice a6.out
                   subst eo64
                   try go_wp2_with (first | ((with_reducible refine gate_callee (f := 34) rfl ?_); refine goesA_ (some 62) rfl rfl Try.func34 (by kernel_rfl) rfl #[.slice b4 x9_1.length b2, .agg #[.int .i64 ((rd_T37 l0 (rd t180 x10_1)).f0), .int .i64 x194001_18, .int .i64 x194002_38, .int .i64 ((rd_T37 l0 (rd t180 x10_1)).f3)]] rfl ?_; (with_reducible refine (spec_l5Put.calls kj38 _ _ x9_1 ((rd_T37 l0 (rd t180 x10_1)).f0) x194001_18 x194002_38 ((rd_T37 l0 (rd t180 x10_1)).f3) t198 t199 t200 _ ?side1 ?side2 bd.out).mono ?_); (case side1 => repeat (first | exact (Kd.R_reads' a6.out).2.2 | (with_reducible refine Kd.C_alloc ?_ _) | (with_reducible refine Kd.C_drewN ?_ _) | (with_reducible refine Kd.C_drew ?_))); (case side2 => exact (Kd.R_reads' a6.out).2.1); rintro e w65 ⟨v201, rfl, ho0, hb⟩; refine ⟨_, rfl, ?_⟩; have n0_ := Aside0.mk (Kd.R_below ab.out hb); have n1_ := Aside0.mk (Kd.R_below a8.out hb); have n2_ := Aside0.mk (Kd.R_elder' a6.out (Kd.R_base ho0) hb); have n3_ := Aside0.mk (Kd.R_lower (Kd.R_newB (Kd.R_newB (Kd.R_new' ho0 (Kd.R_lt a6.out)) a3.out) a4.out) (below_size HB.out)); have n4_ := Aside0.mk (bB_ a2.out hb); have n5_ := Aside0.mk (bB_ a3.out hb); have n6_ := Aside0.mk (bB_ a4.out hb); have n7_ := Aside0.mk (lP_ HB.out hb); clear ab a8 a6 a2 a3 a4 HB; have ab := n0_; have a8 := n1_; have a6 := n2_; have aa := n3_; have a2 := n4_; have a3 := n5_; have a4 := n6_; have HB := n7_; clear n0_ n1_ n2_ n3_ n4_ n5_ n6_ n7_; (try clear hb); (try clear hb2); (try clear hk); (try clear hi); (try clear ho0)) | ((with_reducible refine gate_dst (N := 13) rfl ?_); refine box_event ?hg (N := 13) ?hd (cs := #[.int .i64 0, .int .i64 0, .slice none 0 0]) (t := 26) ?hr ?_; (case hd => rfl); (case hg => rfl); (case hr => first | (go_simp; done) | (go_simp; rfl)); intro a0 hg w66 hbox hb; have n0_ := Aside0.mk (Kd.R_below ab.out hb); have n1_ := Aside0.mk (Kd.R_below a8.out hb); have n2_ := Aside0.mk (Kd.R_below a6.out hb); have n3_ := Aside0.mk (Kd.R_below aa.out hb); have n4_ := Aside0.mk (bB_ a2.out hb); have n5_ := Aside0.mk (bB_ a3.out hb); have n6_ := Aside0.mk (bB_ a4.out hb); have n7_ := Aside0.mk (lP_ HB.out hb); have n8_ := Aside0.mk (hbox); have n10_ := Aside0.mk ((by rw [hg]; exact (below_size HB.out) : w.heap.size ≤ a0)); have n11_ := Aside0.mk ((by rw [hg]; exact Nat.ne_of_lt (blk_lt a2.out) : ac ≠ a0)); have n12_ := Aside0.mk n11_.out.symm; have n13_ := Aside0.mk ((by rw [hg]; exact Nat.ne_of_lt (blk_lt a3.out) : a9 ≠ a0)); have n14_ := Aside0.mk n13_.out.symm; have n15_ := Aside0.mk ((by rw [hg]; exact Nat.ne_of_lt (blk_lt a4.out) : a5 ≠ a0)); have n16_ := Aside0.mk n15_.out.symm; clear ab a8 a6 aa a2 a3 a4 HB; have ab := n0_; have a8 := n1_; have a6 := n2_; have aa := n3_; have a2 := n4_; have a3 := n5_; have a4 := n6_; have HB := n7_; have a7 := n8_; have aw := n10_; have af := n11_; have ar := n12_; have ah := n13_; have au := n14_; have ai := n15_; have av := n16_; clear n0_ n1_ n2_ n3_ n4_ n5_ n6_ n7_ n8_ n10_ n11_ n12_ n13_ n14_ n15_ n16_ hb hbox hg; have dx := ar.out; have dy := af.out; have dz := au.out; have f4 := ah.out; have f5 := av.out; have f6 := ai.out; obtain ⟨_, _, _, _, _, _⟩ := bc3 a7.out; obtain ⟨b5, b6, eo71⟩ := Kd.R_slice aa.out; subst eo71; have f7 := am.out; have f8 := aj.out; obtain ⟨_, _, _, _, _, _, _, _⟩ := bc4 a3.out; obtain ⟨_, _, _, _, _, _, _, _⟩ := bc4 a4.out) | ((with_reducible refine gate_callee (f := 35) rfl ?_); refine goesA_ (some 71) rfl rfl Try.func35 (by kernel_rfl) rfl #[.slice b4 x9_1.length b2, .int .i64 x194001_18, .int .i64 x194002_38] rfl ?_; (with_reducible refine (spec_l5Both.calls kj38 _ _ x9_1 x194001_18 x194002_38 t204 t205 t206 _ ?side1 ?side2 bz.out).mono ?_); (case side1 => refine (Kd.R_reads' (e := 37) (base := w.heap.size) (ok := fun k_ => ((k_ ≠ a9 ∧ k_ ≠ a5) ∧ some k_ ≠ (.slice b5 t200.length b6 : Value).ownBlock)) (n := x9_1.length) (c := b2) ?_).2.2; exact (Kd.R_mono (rfar3 (g := a0) (Kd.R_types a6.out a7.out (by decide)) (fun _ hk => hk.2)) (fun _ h_ => h_.1))); (case side2 => exact (Kd.R_reads' a6.out).2.1); rintro e w75 ⟨v207, rfl, ho0, hb⟩; refine ⟨_, rfl, ?_⟩; have n0_ := Aside0.mk (Kd.R_below (Kd.R_mono (rfar3 (g := a0) (Kd.R_types ab.out a7.out (by decide)) (fun _ hk => hk.2)) (fun _ h_ => h_.1)) hb); have n1_ := Aside0.mk (Kd.R_below (Kd.R_mono (rfar3 (g := a0) (Kd.R_types a8.out a7.out (by decide)) (fun _ hk => hk.2)) (fun _ h_ => h_.1)) hb); have n2_ := Aside0.mk (Kd.R_elder' (Kd.R_mono (rfar3 (g := a0) (Kd.R_types a6.out a7.out (by decide)) (fun _ hk => hk.2)) (fun _ h_ => h_.1)) (Kd.R_base ho0) hb); have n3_ := Aside0.mk (Kd.R_elder' (Kd.R_mono (rfar3 (g := a0) (Kd.R_types aa.out a7.out (by decide)) (fun _ hk => hk.2)) (fun _ h_ => h_.1)) (Kd.R_base ho0) hb); have n4_ := Aside0.mk (Kd.R_lower (Kd.R_newB (Kd.R_newB (Kd.R_new' (Kd.R_new' ho0 (Kd.R_lt (Kd.R_mono (rfar3 (g := a0) (Kd.R_types a6.out a7.out (by decide)) (fun _ hk => hk.2)) (fun _ h_ => h_.1)))) (Kd.R_lt (Kd.R_mono (rfar3 (g := a0) (Kd.R_types aa.out a7.out (by decide)) (fun _ hk => hk.2)) (fun _ h_ => h_.1)))) (g := a9) (o := .cells #[.int .i64 ((rd_T37 l0 (rd t180 x10_1)).f0), .int .i64 ((rd_T37 l0 (rd t180 x10_1)).f1), .int .i64 ((rd_T37 l0 (rd t180 x10_1)).f2), .int .i64 ((rd_T37 l0 (rd t180 x10_1)).f3)] 37 (0, 0)) (by (iterate 3 (refine bF_ ?_ ah.out _)); exact a3.out)) (g := a5) (o := .cells #[.int .i64 ((rd_T37 l0 (rd t180 x10_1)).f0), .int .i64 x194001_18, .int .i64 x194002_38, .int .i64 ((rd_T37 l0 (rd t180 x10_1)).f3)] 37 (0, 0)) (by (iterate 3 (refine bF_ ?_ ai.out _)); exact a4.out)) (below_size (by repeat (first | (with_reducible first | exact HB.out | refine lS1_ ?_ ad.out | refine lS1_ ?_ ae.out | refine lS1_ ?_ ag.out | refine lS1_ ?_ aw.out) | exact HB.out)))); have n5_ := Aside0.mk (bB_ (g := ac) (o := .cells #[.int .i64 x180000_1, .int .i64 x180001_1, .slice none 0 0] 26 (0, 0)) (by (iterate 3 (refine bF_ ?_ af.out _)); exact a2.out) hb); have n6_ := Aside0.mk (bB_ (g := a9) (o := .cells #[.int .i64 ((rd_T37 l0 (rd t180 x10_1)).f0), .int .i64 ((rd_T37 l0 (rd t180 x10_1)).f1), .int .i64 ((rd_T37 l0 (rd t180 x10_1)).f2), .int .i64 ((rd_T37 l0 (rd t180 x10_1)).f3)] 37 (0, 0)) (by (iterate 3 (refine bF_ ?_ ah.out _)); exact a3.out) hb); have n7_ := Aside0.mk (bB_ (g := a5) (o := .cells #[.int .i64 ((rd_T37 l0 (rd t180 x10_1)).f0), .int .i64 x194001_18, .int .i64 x194002_38, .int .i64 ((rd_T37 l0 (rd t180 x10_1)).f3)] 37 (0, 0)) (by (iterate 3 (refine bF_ ?_ ai.out _)); exact a4.out) hb); have n8_ := Aside0.mk (bB_ (g := a0) (o := .cells #[.int .i64 t198, .int .i64 t199, .slice b5 t200.length b6] 26 (0, 0)) (by apply fill3; exact a7.out) hb); have n9_ := Aside0.mk (lP_ (by repeat (first | (with_reducible first | exact HB.out | refine lS1_ ?_ ad.out | refine lS1_ ?_ ae.out | refine lS1_ ?_ ag.out | refine lS1_ ?_ aw.out) | exact HB.out)) hb); clear ab a8 a6 aa a2 a3 a4 a7 HB; have ab := n0_; have a8 := n1_; have a6 := n2_; have aa := n3_; have az := n4_; have a2 := n5_; have a3 := n6_; have a4 := n7_; have a7 := n8_; have HB := n9_; clear n0_ n1_ n2_ n3_ n4_ n5_ n6_ n7_ n8_ n9_; (try clear hb); (try clear hb2); (try clear hk); (try clear hi); (try clear ho0); obtain ⟨_, _, _, _, _, _⟩ := bc3 a7.out; obtain ⟨ax, ay, eo77⟩ := Kd.R_slice az.out; subst eo77))
                   have n0_ : Aside0 (Kd.R (Kd.int .i64) 2 (((w75.setCell ⟨a0, 0, none⟩ (.int .i64 t204)).setCell ⟨a0, 1, none⟩ (.int .i64 t205)).setCell ⟨a0, 2, none⟩ (.slice ax t206.length ay)) w.heap.size (fun k_ => some k_ ≠ (v184 : Value).ownBlock) (.slice (some ad190) t180.length b1) t180) := ⟨by (with_reducible repeat first | apply rA_ | apply rN_ | apply rD_); exact Kd.R_mono (rfar3 (g := a0) (Kd.R_types ab.out a7.out (by decide)) (fun _ hk => hk.2)) (fun _ hk => hk.1)⟩
                   have n1_ : Aside0 (Kd.R (Kd.int .i64) 2 (((w75.setCell ⟨a0, 0, none⟩ (.int .i64 t204)).setCell ⟨a0, 1, none⟩ (.int .i64 t205)).setCell ⟨a0, 2, none⟩ (.slice ax t206.length ay)) w.heap.size (fun k_ => some k_ ≠ (.slice (some ad190) t180.length b1 : Value).ownBlock) v184 x8_1) := ⟨by (with_reducible repeat first | apply rA_ | apply rN_ | apply rD_); exact Kd.R_mono (rfar3 (g := a0) (Kd.R_types a8.out a7.out (by decide)) (fun _ hk => hk.2)) (fun _ hk => hk.1)⟩
                   have n2_ : Aside0 (Kd.R k37 37 (((w75.setCell ⟨a0, 0, none⟩ (.int .i64 t204)).setCell ⟨a0, 1, none⟩ (.int .i64 t205)).setCell ⟨a0, 2, none⟩ (.slice ax t206.length ay)) w.heap.size (fun k_ => some k_ ≠ (.slice b5 t200.length b6 : Value).ownBlock ∧ some k_ ≠ (.slice ax t206.length ay : Value).ownBlock ∧ k_ ≠ a9 ∧ k_ ≠ a5) (.slice b4 x9_1.length b2) x9_1) := ⟨by (with_reducible repeat first | apply rA_ | apply rN_ | apply rD_); exact Kd.R_mono (rfar3 (g := a0) (Kd.R_types a6.out a7.out (by decide)) (fun _ hk => hk.2)) (fun _ hk => ⟨hk.1.1.2, ⟨hk.1.2, ⟨hk.1.1.1.1, hk.1.1.1.2⟩⟩⟩)⟩
                   have n3_ : Aside0 (Kd.R k37 37 (((w75.setCell ⟨a0, 0, none⟩ (.int .i64 t204)).setCell ⟨a0, 1, none⟩ (.int .i64 t205)).setCell ⟨a0, 2, none⟩ (.slice ax t206.length ay)) w.heap.size (fun k_ => some k_ ≠ (.slice b4 x9_1.length b2 : Value).ownBlock ∧ some k_ ≠ (.slice ax t206.length ay : Value).ownBlock ∧ k_ ≠ a9 ∧ k_ ≠ a5) (.slice b5 t200.length b6) t200) := ⟨by (with_reducible repeat first | apply rA_ | apply rN_ | apply rD_); exact Kd.R_mono (rfar3 (g := a0) (Kd.R_types aa.out a7.out (by decide)) (fun _ hk => hk.2)) (fun _ hk => ⟨hk.1.1.1.1.2, ⟨hk.1.2, ⟨hk.1.1.1.2, hk.1.1.2⟩⟩⟩)⟩
                   have n4_ : Aside0 (Kd.R k37 37 (((w75.setCell ⟨a0, 0, none⟩ (.int .i64 t204)).setCell ⟨a0, 1, none⟩ (.int .i64 t205)).setCell ⟨a0, 2, none⟩ (.slice ax t206.length ay)) w.heap.size (fun k_ => some k_ ≠ (.slice b4 x9_1.length b2 : Value).ownBlock ∧ some k_ ≠ (.slice b5 t200.length b6 : Value).ownBlock ∧ k_ ≠ a9 ∧ k_ ≠ a5) (.slice ax t206.length ay) t206) := ⟨by (with_reducible repeat first | apply rA_ | apply rN_ | apply rD_); exact Kd.R_mono (rfar3 (g := a0) (Kd.R_types az.out a7.out (by decide)) (fun _ hk => hk.2)) (fun _ hk => ⟨hk.1.1.1.1.2, ⟨hk.1.1.1.2, ⟨hk.1.1.2, hk.1.2⟩⟩⟩)⟩
                   have n5_ : Aside0 ((((w75.setCell ⟨a0, 0, none⟩ (.int .i64 t204)).setCell ⟨a0, 1, none⟩ (.int .i64 t205)).setCell ⟨a0, 2, none⟩ (.slice ax t206.length ay)).heap[ac]? = some (.cells #[.int .i64 x180000_1, .int .i64 x180001_1, .slice none 0 0] 26 (0, 0))) := ⟨by (iterate 3 ((with_reducible repeat first | apply bN_ | apply bD_ | apply bA_); refine bF_ ?_ af.out _)); (with_reducible repeat first | apply bN_ | apply bD_ | apply bA_); exact a2.out⟩
                   have n6_ : Aside0 ((((w75.setCell ⟨a0, 0, none⟩ (.int .i64 t204)).setCell ⟨a0, 1, none⟩ (.int .i64 t205)).setCell ⟨a0, 2, none⟩ (.slice ax t206.length ay)).heap[a9]? = some (.cells #[.int .i64 ((rd_T37 l0 (rd t180 x10_1)).f0), .int .i64 ((rd_T37 l0 (rd t180 x10_1)).f1), .int .i64 ((rd_T37 l0 (rd t180 x10_1)).f2), .int .i64 ((rd_T37 l0 (rd t180 x10_1)).f3)] 37 (0, 0))) := ⟨by (iterate 3 ((with_reducible repeat first | apply bN_ | apply bD_ | apply bA_); refine bF_ ?_ ah.out _)); (with_reducible repeat first | apply bN_ | apply bD_ | apply bA_); exact a3.out⟩
                   have n7_ : Aside0 ((((w75.setCell ⟨a0, 0, none⟩ (.int .i64 t204)).setCell ⟨a0, 1, none⟩ (.int .i64 t205)).setCell ⟨a0, 2, none⟩ (.slice ax t206.length ay)).heap[a5]? = some (.cells #[.int .i64 ((rd_T37 l0 (rd t180 x10_1)).f0), .int .i64 x194001_18, .int .i64 x194002_38, .int .i64 ((rd_T37 l0 (rd t180 x10_1)).f3)] 37 (0, 0))) := ⟨by (iterate 3 ((with_reducible repeat first | apply bN_ | apply bD_ | apply bA_); refine bF_ ?_ ai.out _)); (with_reducible repeat first | apply bN_ | apply bD_ | apply bA_); exact a4.out⟩
                   have n8_ : Aside0 ((((w75.setCell ⟨a0, 0, none⟩ (.int .i64 t204)).setCell ⟨a0, 1, none⟩ (.int .i64 t205)).setCell ⟨a0, 2, none⟩ (.slice ax t206.length ay)).heap[a0]? = some (.cells #[.int .i64 t204, .int .i64 t205, .slice ax t206.length ay] 26 (0, 0))) := ⟨by (with_reducible repeat first | apply bN_ | apply bD_ | apply bA_); apply fill3; (with_reducible repeat first | apply bN_ | apply bD_ | apply bA_); exact a7.out⟩
                   have n9_ : Aside0 (Below w.heap.size w (((w75.setCell ⟨a0, 0, none⟩ (.int .i64 t204)).setCell ⟨a0, 1, none⟩ (.int .i64 t205)).setCell ⟨a0, 2, none⟩ (.slice ax t206.length ay))) := ⟨by repeat (first | (with_reducible first | exact HB.out | apply lA1_ | apply lN_ | apply lD_ | refine lS1_ ?_ ad.out | refine lS1_ ?_ ae.out | refine lS1_ ?_ ag.out | refine lS1_ ?_ aw.out) | exact HB.out)⟩
                   (try clear ab)
                   (try clear a8)
                   (try clear a6)
                   (try clear aa)
                   (try clear az)
                   (try clear a2)
                   (try clear a3)
                   (try clear a4)
                   (try clear a7)
                   (try clear HB)
                   generalize (((w75.setCell ⟨a0, 0, none⟩ (.int .i64 t204)).setCell ⟨a0, 1, none⟩ (.int .i64 t205)).setCell ⟨a0, 2, none⟩ (.slice ax t206.length ay)) = w78 at n0_ n1_ n2_ n3_ n4_ n5_ n6_ n7_ n8_ n9_ ⊢
                   have ab := n0_
                   have a8 := n1_
                   have a6 := n2_
                   have aa := n3_
                   have az := n4_
                   have a2 := n5_
                   have a3 := n6_
                   have a4 := n7_
                   have a7 := n8_
                   have HB := n9_
                   clear n0_ n1_ n2_ n3_ n4_ n5_ n6_ n7_ n8_ n9_
                   have n0_ := Aside0.mk (rD_ ab.out)
                   have n1_ := Aside0.mk (rD_ a8.out)
                   have n2_ := Aside0.mk (rD_ a6.out)
                   have n3_ := Aside0.mk (rD_ aa.out)
                   have n4_ := Aside0.mk (rD_ az.out)
                   have n5_ := Aside0.mk (bD_ a2.out)
                   have n6_ := Aside0.mk (bD_ a3.out)
                   have n7_ := Aside0.mk (bD_ a4.out)
                   have n8_ := Aside0.mk (bD_ a7.out)
                   have n9_ := Aside0.mk (lD_ HB.out)
                   clear ab
                   clear a8
                   clear a6
                   clear aa
                   clear az
                   clear a2
                   clear a3
                   clear a4
                   clear a7
                   clear HB
                   have ab := n0_
                   have a8 := n1_
                   have a6 := n2_
                   have aa := n3_
                   have az := n4_
                   have a2 := n5_
                   have a3 := n6_
                   have a4 := n7_
                   have a7 := n8_
                   have HB := n9_
                   clear n0_ n1_ n2_ n3_ n4_ n5_ n6_ n7_ n8_ n9_
                   have p209 : 0 ≤ (x10_1 : Int) := of_decide_eq_true (by first | (with_reducible assumption) | assumption)
                   have q209 : x10_1 < (t180.length : Int) := of_decide_eq_true (by first | (with_reducible assumption) | assumption)
                   obtain ⟨ad209, e209, hx209_0⟩ := Kd.at_int (Kd.R_reads' ab.out).2.2 x10_1 p209 q209
                   obtain rfl : ad190 = ad209 := (by injection e209)
                   replace p209 := eq_true p209
                   replace q209 := eq_true q209
                   have p60 : 0 ≤ ((rd t180 x10_1) : Int) := of_decide_eq_true (by first | (with_reducible assumption) | assumption)
                   have q60 : ((rd t180 x10_1) : Int) < ((x8_1.length : Int) : Int) := of_decide_eq_true (by first | (with_reducible assumption) | assumption)
                   obtain ⟨go60, fx, eo60, bj, gl60, cl60, HG60⟩ := Kd.R_form a8.out (by omega)
                   (first | cases eo60 | (injection eo60 with ea_ en_ ec_; (first | subst ea_ | (injection ea_ with ea_; subst ea_)); subst ec_; clear en_))
                   have c8 := Aside0.mk bj
                   have GG60 := Aside0.mk HG60
                   clear bj gl60 HG60
                   obtain ⟨hx60_0, hf60_0⟩ := Kd.R_celln 0 a8.out ((rd t180 x10_1) : Int) p60 q60
                   replace p60 := eq_true p60
                   replace q60 := eq_true q60
                   have HP80 := Kd.R_putn a8.out ((rd t180 x10_1) : Int) t205
                   rw [← bo.out] at HP80
                   have HQ80 := Aside0.mk HP80
                   clear HP80
                   refine start_ (n := 9) (S := fun w' => w'.cell? ⟨a0, 0, none⟩ = some (.int .i64 t204) ∧ w'.cell? ⟨a0, 1, none⟩ = some (.int .i64 t205) ∧ w'.cell? ⟨a0, 2, none⟩ = some (.slice ax t206.length ay) ∧ w'.cell? (ad190.add (x10_1).toNat) = some (.int .i64 (rd t180 x10_1))) (ds := [8]) #[false, false, false, false, false, false, false, false, false] (by kernel_rfl) rfl rfl ⟨(blk_cell a7.out 0).trans rfl, (blk_cell a7.out 1).trans rfl, (blk_cell a7.out 2).trans rfl, hx209_0⟩ (fun hHeld => ?_); refine with_tabW spec_l5Move.tab19 spec_l5Move.bits19 (fun HT_ HW_ => ?_)
                   generalize w78.drew = w79 at ab a8 a6 aa az a2 a3 a4 a7 HB GG60 HQ80 hf60_0 hx209_0 hx60_0 hHeld ⊢
                   refine pure_ (i := 0) (N := some 80) (v := ?_) (a' := ?_) #[true, false, false, false, false, false, false, false, false] rfl rfl (any_of HT_.out (by kernel_rfl)) (fun _ _ _ h => h) (Or.inl ⟨by rfl, ?_⟩) ?_ ?_
                   rotate_left
                   ·intro w'
                    go_simp
                    with_reducible rfl
                   rotate_left
                   ·simp only [Act.put, lA_, lZ_, lS_, i64_w, i32_w]
                    rfl
                   refine pure_ (i := 1) (N := some 81) (v := ?_) (a' := ?_) #[true, true, false, false, false, false, false, false, false] rfl rfl (any_of HT_.out (by kernel_rfl)) (fun _ _ _ h => h) (Or.inl ⟨by rfl, ?_⟩) ?_ ?_
                   rotate_left
                   ·intro w'
                    go_simp
                    with_reducible rfl
                   rotate_left
                   ·simp only [Act.put, lA_, lZ_, lS_, i64_w, i32_w]
                    rfl
                   refine pure_ (i := 2) (N := some 82) (v := ?_) (a' := ?_) #[true, true, true, false, false, false, false, false, false] rfl rfl (any_of HT_.out (by kernel_rfl)) (fun _ _ _ h => h) (Or.inl ⟨by rfl, ?_⟩) ?_ ?_
                   rotate_left
                   ·intro w'
                    go_simp
                    with_reducible rfl
                   rotate_left
                   ·simp only [Act.put, lA_, lZ_, lS_, i64_w, i32_w]
                    rfl
                   refine pure_ (i := 3) (N := some 83) (v := ?_) (a' := ?_) #[true, true, true, true, false, false, false, false, false] rfl rfl (any_of HT_.out (by kernel_rfl)) (fun _ _ _ h => h) (Or.inl ⟨by rfl, ?_⟩) ?_ ?_
                   rotate_left
                   ·intro w'
                    go_simp
                    with_reducible rfl
                   rotate_left
                   ·simp only [Act.put, lA_, lZ_, lS_, i64_w, i32_w]
                    rfl
                   refine pure_ (i := 5) (N := some 85) (v := ?_) (a' := ?_) #[true, true, true, true, false, true, false, false, false] rfl rfl (any_of HT_.out (by kernel_rfl)) (fun _ _ _ h => h) (Or.inl ⟨by rfl, ?_⟩) ?_ ?_
                   rotate_left
                   ·intro w'
                    go_simp
                    with_reducible rfl
                   rotate_left
                   ·simp only [Act.put, lA_, lZ_, lS_, i64_w, i32_w]
                    rfl
                   refine take_ (i := 4) (N := some 84) (v := ?_) (a' := ?_) #[true, true, true, true, true, true, false, false, false] rfl rfl (take_ofW HT_.out HW_.out (by kernel_rfl)) (fun _ _ _ h => h) (Or.inl ⟨by rfl, ?_⟩) hHeld ?_ ?_
                   rotate_left
                   ·rintro w' ⟨s0, s1, s2, s3⟩
                    go_simp
                    with_reducible rfl
                   rotate_left
                   ·simp only [Act.put, lA_, lZ_, lS_, i64_w, i32_w]
                    rfl
                   refine take_ (i := 6) (N := some 86) (v := ?_) (a' := ?_) #[true, true, true, true, true, true, true, false, false] rfl rfl (take_ofW HT_.out HW_.out (by kernel_rfl)) (fun _ _ _ h => h) (Or.inl ⟨by rfl, ?_⟩) hHeld ?_ ?_
                   rotate_left
                   ·rintro w' ⟨s0, s1, s2, s3⟩
                    go_simp
                    with_reducible rfl
                   rotate_left
                   ·simp only [Act.put, lA_, lZ_, lS_, i64_w, i32_w]
                    rfl
                   refine pure_ (i := 7) (N := some 87) (v := ?_) (a' := ?_) #[true, true, true, true, true, true, true, true, false] rfl rfl (any_of HT_.out (by kernel_rfl)) (fun _ _ _ h => h) (Or.inl ⟨by rfl, ?_⟩) ?_ ?_
                   rotate_left
                   ·intro w'
                    go_simp
                    with_reducible rfl
                   rotate_left
                   ·simp only [Act.put, lA_, lZ_, lS_, i64_w, i32_w]
                    rfl
                   refine last_ (i := 8) (N := none) #[true, true, true, true, true, true, true, true, true] rfl rfl (one_of HT_.out (by kernel_rfl)) (by decide) (fun K hK => ?_)
                   refine skip_ (w1 := ?_) (by rfl) rfl ?_ ?_
                   rotate_left
                   ·go_simp
                    rfl
                   refine hK.out _ _ ?_
                   clear hK K
                   refine done_ (done_of HT_.out (by kernel_rfl)) ?_
                   try go_wp2
                   go_roundg kj38
                   case measure => have := HK1.out; have := HJ18.out; have := HJ38.out; omega
                   case rel => exact ⟨(y210), (t206), (wrap64 (x10_1 + 1)), (x180000_1), (x180001_1), (by first | rfl | (simp; done) | (simp [*]; done)), H', ⟨by have := HK1.out; have := HJ18.out; have := HJ38.out; omega⟩, ⟨by (with_reducible repeat first | apply rA_ | apply rN_ | apply rD_); exact Kd.R_mono (Kd.R_far (p := ⟨go60, ((rd t180 x10_1) : Int).toNat, none⟩) (Kd.R_mono ab.out (fun k_ hk => (⟨hk, fun e_ => hk (by rw [e_]; rfl)⟩ : _ ∧ k_ ≠ go60))) (fun _ hk => hk.2) (.int .i64 t205)) (fun _ hk => hk.1)⟩, ⟨by (with_reducible repeat first | apply rA_ | apply rN_ | apply rD_); exact HQ80.out⟩, ⟨by (with_reducible repeat first | apply rA_ | apply rN_ | apply rD_); exact Kd.R_mono (Kd.R_far (p := ⟨go60, ((rd t180 x10_1) : Int).toNat, none⟩) (Kd.R_types az.out GG60.out (by decide)) (fun _ hk => hk.2) (.int .i64 t205)) (fun _ hk => trivial)⟩, ⟨by (with_reducible repeat first | apply bN_ | apply bD_ | apply bA_); refine bF_ ?_ (by have h_ := Kd.R_ne a8.out a2.out (by decide); intro e_; exact h_ (by rw [e_]; rfl)) _; (with_reducible repeat first | apply bN_ | apply bD_ | apply bA_); exact a2.out⟩, ⟨by repeat (first | (with_reducible first | exact HB.out | apply lA1_ | apply lN_ | apply lD_ | refine lS1_ ?_ c8.out | refine lS1_ ?_ ad.out | refine lS1_ ?_ ae.out | refine lS1_ ?_ ag.out | refine lS1_ ?_ aw.out) | exact HB.out)⟩⟩
                  ·rw [if_neg c59] at H
                   exact absurd H (by simp)
                 ·rw [if_neg c58] at H
                  exact absurd H (by simp)
                ·rw [if_neg c57] at H
                 exact absurd H (by simp)
               ·rw [if_neg c56] at H
                exact absurd H (by simp)
              ·rw [if_neg c55] at H
               have c55b0 : (t204 == 0) = false := beq_eq_false_iff_ne.mpr c55
               have c55b1 : (t204 != 0) = true := bne_iff_ne.mpr c55
               simp only [Option.some.injEq, Prod.mk.injEq] at H
               obtain ⟨rfl, rfl, rfl⟩ := H
               have f9 := aq.out
               have fa := al.out
               have fb := an.out
               have fc := ak.out
               obtain ⟨_, _, _, _, _, _, _, _⟩ := bc4 a4.out
               obtain ⟨bk, bb, eo84⟩ := Kd.R_slice a6.out
               subst eo84
               go_wp2_with (first | ((with_reducible refine gate_callee (f := 34) rfl ?_); refine goesA_ (some 62) rfl rfl Try.func34 (by kernel_rfl) rfl #[.slice bk x9_1.length bb, .agg #[.int .i64 ((rd_T37 l0 (rd t180 x10_1)).f0), .int .i64 x194001_18, .int .i64 x194002_38, .int .i64 ((rd_T37 l0 (rd t180 x10_1)).f3)]] rfl ?_; (with_reducible refine (spec_l5Put.calls kj38 _ _ x9_1 ((rd_T37 l0 (rd t180 x10_1)).f0) x194001_18 x194002_38 ((rd_T37 l0 (rd t180 x10_1)).f3) t198 t199 t200 _ ?side1 ?side2 bd.out).mono ?_); (case side1 => repeat (first | exact (Kd.R_reads' a6.out).2.2 | (with_reducible refine Kd.C_alloc ?_ _) | (with_reducible refine Kd.C_drewN ?_ _) | (with_reducible refine Kd.C_drew ?_))); (case side2 => exact (Kd.R_reads' a6.out).2.1); rintro e w85 ⟨v201, rfl, ho0, hb⟩; refine ⟨_, rfl, ?_⟩; have n2_ := Aside0.mk (Kd.R_elder' (by (with_reducible repeat first | apply rA_ | apply rN_ | apply rD_); exact a6.out) (Kd.R_base ho0) hb); have n3_ := Aside0.mk (Kd.R_lower (Kd.R_newB (Kd.R_newB (Kd.R_new' ho0 (Kd.R_lt (by (with_reducible repeat first | apply rA_ | apply rN_ | apply rD_); exact a6.out))) (g := a9) (o := .cells #[.int .i64 ((rd_T37 l0 (rd t180 x10_1)).f0), .int .i64 ((rd_T37 l0 (rd t180 x10_1)).f1), .int .i64 ((rd_T37 l0 (rd t180 x10_1)).f2), .int .i64 ((rd_T37 l0 (rd t180 x10_1)).f3)] 37 (0, 0)) (by (with_reducible repeat first | apply bN_ | apply bD_ | apply bA_); exact a3.out)) (g := a5) (o := .cells #[.int .i64 ((rd_T37 l0 (rd t180 x10_1)).f0), .int .i64 x194001_18, .int .i64 x194002_38, .int .i64 ((rd_T37 l0 (rd t180 x10_1)).f3)] 37 (0, 0)) (by (with_reducible repeat first | apply bN_ | apply bD_ | apply bA_); exact a4.out)) (below_size (by repeat (first | (with_reducible first | exact HB.out | apply lA1_ | apply lN_ | apply lD_ | refine lS1_ ?_ ad.out | refine lS1_ ?_ ae.out | refine lS1_ ?_ ag.out) | exact HB.out)))); have n4_ := Aside0.mk (bB_ (g := ac) (o := .cells #[.int .i64 x180000_1, .int .i64 x180001_1, .slice none 0 0] 26 (0, 0)) (by (with_reducible repeat first | apply bN_ | apply bD_ | apply bA_); exact a2.out) hb); have n5_ := Aside0.mk (bB_ (g := a9) (o := .cells #[.int .i64 ((rd_T37 l0 (rd t180 x10_1)).f0), .int .i64 ((rd_T37 l0 (rd t180 x10_1)).f1), .int .i64 ((rd_T37 l0 (rd t180 x10_1)).f2), .int .i64 ((rd_T37 l0 (rd t180 x10_1)).f3)] 37 (0, 0)) (by (with_reducible repeat first | apply bN_ | apply bD_ | apply bA_); exact a3.out) hb); have n6_ := Aside0.mk (bB_ (g := a5) (o := .cells #[.int .i64 ((rd_T37 l0 (rd t180 x10_1)).f0), .int .i64 x194001_18, .int .i64 x194002_38, .int .i64 ((rd_T37 l0 (rd t180 x10_1)).f3)] 37 (0, 0)) (by (with_reducible repeat first | apply bN_ | apply bD_ | apply bA_); exact a4.out) hb); have n7_ := Aside0.mk (lP_ (by repeat (first | (with_reducible first | exact HB.out | apply lA1_ | apply lN_ | apply lD_ | refine lS1_ ?_ ad.out | refine lS1_ ?_ ae.out | refine lS1_ ?_ ag.out) | exact HB.out)) hb); clear a6 a2 a3 a4 HB; have a6 := n2_; have aa := n3_; have a2 := n4_; have a3 := n5_; have a4 := n6_; have HB := n7_; clear n2_ n3_ n4_ n5_ n6_ n7_; (try clear hb); (try clear hb2); (try clear hk); (try clear hi); (try clear ho0)) | ((with_reducible refine gate_dst (N := 13) rfl ?_); refine box_event ?hg (N := 13) ?hd (cs := #[.int .i64 0, .int .i64 0, .slice none 0 0]) (t := 26) ?hr ?_; (case hd => rfl); (case hg => rfl); (case hr => first | (go_simp; done) | (go_simp; rfl)); intro a0 hg w86 hbox hb; have n2_ := Aside0.mk (Kd.R_below (by (with_reducible repeat first | apply rA_ | apply rN_ | apply rD_); exact a6.out) hb); have n3_ := Aside0.mk (Kd.R_below (by (with_reducible repeat first | apply rA_ | apply rN_ | apply rD_); exact aa.out) hb); have n4_ := Aside0.mk (bB_ (g := ac) (o := .cells #[.int .i64 x180000_1, .int .i64 x180001_1, .slice none 0 0] 26 (0, 0)) (by (with_reducible repeat first | apply bN_ | apply bD_ | apply bA_); exact a2.out) hb); have n5_ := Aside0.mk (bB_ (g := a9) (o := .cells #[.int .i64 ((rd_T37 l0 (rd t180 x10_1)).f0), .int .i64 ((rd_T37 l0 (rd t180 x10_1)).f1), .int .i64 ((rd_T37 l0 (rd t180 x10_1)).f2), .int .i64 ((rd_T37 l0 (rd t180 x10_1)).f3)] 37 (0, 0)) (by (with_reducible repeat first | apply bN_ | apply bD_ | apply bA_); exact a3.out) hb); have n6_ := Aside0.mk (bB_ (g := a5) (o := .cells #[.int .i64 ((rd_T37 l0 (rd t180 x10_1)).f0), .int .i64 x194001_18, .int .i64 x194002_38, .int .i64 ((rd_T37 l0 (rd t180 x10_1)).f3)] 37 (0, 0)) (by (with_reducible repeat first | apply bN_ | apply bD_ | apply bA_); exact a4.out) hb); have n7_ := Aside0.mk (lP_ (by repeat (first | (with_reducible first | exact HB.out | apply lA1_ | apply lN_ | apply lD_ | refine lS1_ ?_ ad.out | refine lS1_ ?_ ae.out | refine lS1_ ?_ ag.out) | exact HB.out)) hb); have n8_ := Aside0.mk (hbox); have n10_ := Aside0.mk ((by rw [hg]; exact (below_size (by repeat (first | (with_reducible first | exact HB.out | apply lA1_ | apply lN_ | apply lD_ | refine lS1_ ?_ ad.out | refine lS1_ ?_ ae.out | refine lS1_ ?_ ag.out) | exact HB.out))) : w.heap.size ≤ a0)); have n11_ := Aside0.mk ((by rw [hg]; exact Nat.ne_of_lt (blk_lt (g := ac) (o := .cells #[.int .i64 x180000_1, .int .i64 x180001_1, .slice none 0 0] 26 (0, 0)) (by (with_reducible repeat first | apply bN_ | apply bD_ | apply bA_); exact a2.out)) : ac ≠ a0)); have n12_ := Aside0.mk n11_.out.symm; have n13_ := Aside0.mk ((by rw [hg]; exact Nat.ne_of_lt (blk_lt (g := a9) (o := .cells #[.int .i64 ((rd_T37 l0 (rd t180 x10_1)).f0), .int .i64 ((rd_T37 l0 (rd t180 x10_1)).f1), .int .i64 ((rd_T37 l0 (rd t180 x10_1)).f2), .int .i64 ((rd_T37 l0 (rd t180 x10_1)).f3)] 37 (0, 0)) (by (with_reducible repeat first | apply bN_ | apply bD_ | apply bA_); exact a3.out)) : a9 ≠ a0)); have n14_ := Aside0.mk n13_.out.symm; have n15_ := Aside0.mk ((by rw [hg]; exact Nat.ne_of_lt (blk_lt (g := a5) (o := .cells #[.int .i64 ((rd_T37 l0 (rd t180 x10_1)).f0), .int .i64 x194001_18, .int .i64 x194002_38, .int .i64 ((rd_T37 l0 (rd t180 x10_1)).f3)] 37 (0, 0)) (by (with_reducible repeat first | apply bN_ | apply bD_ | apply bA_); exact a4.out)) : a5 ≠ a0)); have n16_ := Aside0.mk n15_.out.symm; clear a6 aa a2 a3 a4 HB; have a6 := n2_; have aa := n3_; have a2 := n4_; have a3 := n5_; have a4 := n6_; have HB := n7_; have a7 := n8_; have aw := n10_; have af := n11_; have ar := n12_; have ah := n13_; have au := n14_; have ai := n15_; have av := n16_; clear n2_ n3_ n4_ n5_ n6_ n7_ n8_ n10_ n11_ n12_ n13_ n14_ n15_ n16_ hb hbox hg; have fd := ar.out; have fe := af.out; have ff := au.out; have fg := ah.out; have fh := av.out; have fi := ai.out; obtain ⟨_, _, _, _, _, _⟩ := bc3 a7.out; obtain ⟨bl, bm, eo91⟩ := Kd.R_slice aa.out; subst eo91; have fj := am.out; have fk := aj.out; obtain ⟨_, _, _, _, _, _, _, _⟩ := bc4 a3.out; obtain ⟨_, _, _, _, _, _, _, _⟩ := bc4 a4.out) | ((with_reducible refine gate_callee (f := 35) rfl ?_); refine goesA_ (some 71) rfl rfl Try.func35 (by kernel_rfl) rfl #[.slice bk x9_1.length bb, .int .i64 x194001_18, .int .i64 x194002_38] rfl ?_; (with_reducible refine (spec_l5Both.calls kj38 _ _ x9_1 x194001_18 x194002_38 t204 t205 t206 _ ?side1 ?side2 bz.out).mono ?_); (case side1 => refine (Kd.R_reads' (e := 37) (base := w.heap.size) (ok := fun k_ => ((k_ ≠ a9 ∧ k_ ≠ a5) ∧ some k_ ≠ (.slice bl t200.length bm : Value).ownBlock)) (n := x9_1.length) (c := bb) ?_).2.2; exact (by (with_reducible repeat first | apply rA_ | apply rN_ | apply rD_); exact (Kd.R_mono (rfar3 (g := a0) (Kd.R_types a6.out a7.out (by decide)) (fun _ hk => hk.2)) (fun _ h_ => h_.1)))); (case side2 => exact (Kd.R_reads' a6.out).2.1); rintro e w95 ⟨v207, rfl, ho0, hb⟩; refine ⟨_, rfl, ?_⟩; have n4_ := Aside0.mk (Kd.R_lower (Kd.R_newB (Kd.R_newB (Kd.R_new' (Kd.R_new' ho0 (Kd.R_lt (by (with_reducible repeat first | apply rA_ | apply rN_ | apply rD_); exact (Kd.R_mono (rfar3 (g := a0) (Kd.R_types a6.out a7.out (by decide)) (fun _ hk => hk.2)) (fun _ h_ => h_.1))))) (Kd.R_lt (by (with_reducible repeat first | apply rA_ | apply rN_ | apply rD_); exact (Kd.R_mono (rfar3 (g := a0) (Kd.R_types aa.out a7.out (by decide)) (fun _ hk => hk.2)) (fun _ h_ => h_.1))))) (g := a9) (o := .cells #[.int .i64 ((rd_T37 l0 (rd t180 x10_1)).f0), .int .i64 ((rd_T37 l0 (rd t180 x10_1)).f1), .int .i64 ((rd_T37 l0 (rd t180 x10_1)).f2), .int .i64 ((rd_T37 l0 (rd t180 x10_1)).f3)] 37 (0, 0)) (by (iterate 3 ((with_reducible repeat first | apply bN_ | apply bD_ | apply bA_); refine bF_ ?_ ah.out _)); (with_reducible repeat first | apply bN_ | apply bD_ | apply bA_); exact a3.out)) (g := a5) (o := .cells #[.int .i64 ((rd_T37 l0 (rd t180 x10_1)).f0), .int .i64 x194001_18, .int .i64 x194002_38, .int .i64 ((rd_T37 l0 (rd t180 x10_1)).f3)] 37 (0, 0)) (by (iterate 3 ((with_reducible repeat first | apply bN_ | apply bD_ | apply bA_); refine bF_ ?_ ai.out _)); (with_reducible repeat first | apply bN_ | apply bD_ | apply bA_); exact a4.out)) (below_size (by repeat (first | (with_reducible first | exact HB.out | apply lA1_ | apply lN_ | apply lD_ | refine lS1_ ?_ ad.out | refine lS1_ ?_ ae.out | refine lS1_ ?_ ag.out | refine lS1_ ?_ aw.out) | exact HB.out)))); have n5_ := Aside0.mk (bB_ (g := ac) (o := .cells #[.int .i64 x180000_1, .int .i64 x180001_1, .slice none 0 0] 26 (0, 0)) (by (iterate 3 ((with_reducible repeat first | apply bN_ | apply bD_ | apply bA_); refine bF_ ?_ af.out _)); (with_reducible repeat first | apply bN_ | apply bD_ | apply bA_); exact a2.out) hb); have n8_ := Aside0.mk (bB_ (g := a0) (o := .cells #[.int .i64 t198, .int .i64 t199, .slice bl t200.length bm] 26 (0, 0)) (by (with_reducible repeat first | apply bN_ | apply bD_ | apply bA_); apply fill3; (with_reducible repeat first | apply bN_ | apply bD_ | apply bA_); exact a7.out) hb); have n9_ := Aside0.mk (lP_ (by repeat (first | (with_reducible first | exact HB.out | apply lA1_ | apply lN_ | apply lD_ | refine lS1_ ?_ ad.out | refine lS1_ ?_ ae.out | refine lS1_ ?_ ag.out | refine lS1_ ?_ aw.out) | exact HB.out)) hb); clear a2 a7 HB; have az := n4_; have a2 := n5_; have a7 := n8_; have HB := n9_; clear n4_ n5_ n8_ n9_; (try clear hb); (try clear hb2); (try clear hk); (try clear hi); (try clear ho0); obtain ⟨_, _, _, _, _, _⟩ := bc3 a7.out; obtain ⟨fy, fz, eo97⟩ := Kd.R_slice az.out; subst eo97; obtain ⟨_, _, _, _, _, _⟩ := bc3 a2.out))
               refine bodyPost_ret (results_cell_row rfl _ _ ac 26 #[.int .i64 t204, .int .i64 0, .slice none 0 0] (0, 0) _ rfl (by (with_reducible repeat first | apply bN_ | apply bD_ | apply bA_); apply fill3; (iterate 3 ((with_reducible repeat first | apply bN_ | apply bD_ | apply bA_); refine bF_ ?_ af.out _)); (with_reducible repeat first | apply bN_ | apply bD_ | apply bA_); exact a2.out) Try.underlying26 rfl (by kernel_rfl)) rfl ?_
               exact ⟨_, by first | rfl | (simp [errW_none, errW_some] <;> rfl) | (simp only [← hji5]; first | rfl | (simp [errW_none, errW_some] <;> rfl)) | (simp [*, errW_none, errW_some] <;> rfl), by first | exact Kd.R_nil _ _ _ _ _ | exact Kd.N_nil _ _ _ _ _ | exact Kd.V_nil _ _ _ _ _ | exact Kd.Q_nil _ _ _ _ _ | exact Kd.S_nil _ _ _ _ _, by repeat (first | (with_reducible first | exact HB.out | apply lA1_ | apply lN_ | apply lD_ | refine lS1_ ?_ ad.out | refine lS1_ ?_ ae.out | refine lS1_ ?_ ag.out | refine lS1_ ?_ aw.out) | exact HB.out)⟩
             ·rw [if_neg c53] at H
              have c53b0 : (((rd_T37 l0 (rd t180 x10_1)).f0) == 7) = false := beq_eq_false_iff_ne.mpr c53
              have c53b1 : (((rd_T37 l0 (rd t180 x10_1)).f0) != 7) = true := bne_iff_ne.mpr c53
              by_cases c99 : t198 = 0
              ·rw [if_pos c99] at H
               have c99b0 : (t198 == 0) = true := beq_iff_eq.mpr c99
               have c99b1 : (t198 != 0) = false := bne_eq_false_iff_eq.mpr c99
               clear c99
               by_cases c100 : 0 ≤ x10_1
               ·rw [if_pos c100] at H
                have c100b0 : decide (0 ≤ x10_1) = true := decide_eq_true c100
                clear c100
                by_cases c101 : x10_1 < (t180.length : Int)
                ·rw [if_pos c101] at H
                 have c101b0 : decide (x10_1 < (t180.length : Int)) = true := decide_eq_true c101
                 clear c101
                 by_cases c102 : 0 ≤ (rd t180 x10_1)
                 ·rw [if_pos c102] at H
                  have c102b0 : decide (0 ≤ (rd t180 x10_1)) = true := decide_eq_true c102
                  clear c102
                  by_cases c103 : (rd t180 x10_1) < (x8_1.length : Int)
                  ·rw [if_pos c103] at H
                   have c103b0 : decide ((rd t180 x10_1) < (x8_1.length : Int)) = true := decide_eq_true c103
                   clear c103
                   obtain ⟨y212, hy212⟩ : ∃ y_ : List Int, y_ = (x8_1.set ((rd t180 x10_1) : Int).toNat t199) := ⟨_, rfl⟩
                   replace H : (spec_l5Move.l0 kj38 l0 a1 t180 y212 t200 (wrap64 (x10_1 + 1))) = some (r1, r2, r3) := by first | (rw [hy212]; with_reducible exact H) | (have H2_ := (Option.bind_some _ _).symm.trans H; rw [hy212]; with_reducible exact H2_) | (have H2_ := (Option.bind_some _ _).symm.trans H; with_reducible exact H2_) | with_reducible exact H | (rw [hy212]; exact H) | exact H
                   have bp := Aside0.mk hy212
                   clear hy212
                   have H' := Aside0.mk H
                   clear H
                   have ce := aq.out
                   have cf := al.out
                   have cg := an.out
                   have ch := ak.out
                   obtain ⟨_, _, _, _, _, _, _, _⟩ := bc4 a4.out
                   obtain ⟨b7, b8, eo108⟩ := Kd.R_slice a6.out
                   subst eo108
                   try go_wp2_with (first | ((with_reducible refine gate_callee (f := 34) rfl ?_); refine goesA_ (some 62) rfl rfl Try.func34 (by kernel_rfl) rfl #[.slice b7 x9_1.length b8, .agg #[.int .i64 ((rd_T37 l0 (rd t180 x10_1)).f0), .int .i64 x194001_18, .int .i64 x194002_38, .int .i64 ((rd_T37 l0 (rd t180 x10_1)).f3)]] rfl ?_; (with_reducible refine (spec_l5Put.calls kj38 _ _ x9_1 ((rd_T37 l0 (rd t180 x10_1)).f0) x194001_18 x194002_38 ((rd_T37 l0 (rd t180 x10_1)).f3) t198 t199 t200 _ ?side1 ?side2 bd.out).mono ?_); (case side1 => repeat (first | exact (Kd.R_reads' a6.out).2.2 | (with_reducible refine Kd.C_alloc ?_ _) | (with_reducible refine Kd.C_drewN ?_ _) | (with_reducible refine Kd.C_drew ?_))); (case side2 => exact (Kd.R_reads' a6.out).2.1); rintro e w109 ⟨v201, rfl, ho0, hb⟩; refine ⟨_, rfl, ?_⟩; have n0_ := Aside0.mk (Kd.R_below (by (with_reducible repeat first | apply rA_ | apply rN_ | apply rD_); exact ab.out) hb); have n1_ := Aside0.mk (Kd.R_below (by (with_reducible repeat first | apply rA_ | apply rN_ | apply rD_); exact a8.out) hb); have n2_ := Aside0.mk (Kd.R_elder' (by (with_reducible repeat first | apply rA_ | apply rN_ | apply rD_); exact a6.out) (Kd.R_base ho0) hb); have n3_ := Aside0.mk (Kd.R_lower (Kd.R_newB (Kd.R_newB (Kd.R_new' ho0 (Kd.R_lt (by (with_reducible repeat first | apply rA_ | apply rN_ | apply rD_); exact a6.out))) (g := a9) (o := .cells #[.int .i64 ((rd_T37 l0 (rd t180 x10_1)).f0), .int .i64 ((rd_T37 l0 (rd t180 x10_1)).f1), .int .i64 ((rd_T37 l0 (rd t180 x10_1)).f2), .int .i64 ((rd_T37 l0 (rd t180 x10_1)).f3)] 37 (0, 0)) (by (with_reducible repeat first | apply bN_ | apply bD_ | apply bA_); exact a3.out)) (g := a5) (o := .cells #[.int .i64 ((rd_T37 l0 (rd t180 x10_1)).f0), .int .i64 x194001_18, .int .i64 x194002_38, .int .i64 ((rd_T37 l0 (rd t180 x10_1)).f3)] 37 (0, 0)) (by (with_reducible repeat first | apply bN_ | apply bD_ | apply bA_); exact a4.out)) (below_size (by repeat (first | (with_reducible first | exact HB.out | apply lA1_ | apply lN_ | apply lD_ | refine lS1_ ?_ ad.out | refine lS1_ ?_ ae.out | refine lS1_ ?_ ag.out) | exact HB.out)))); have n4_ := Aside0.mk (bB_ (g := ac) (o := .cells #[.int .i64 x180000_1, .int .i64 x180001_1, .slice none 0 0] 26 (0, 0)) (by (with_reducible repeat first | apply bN_ | apply bD_ | apply bA_); exact a2.out) hb); have n5_ := Aside0.mk (bB_ (g := a9) (o := .cells #[.int .i64 ((rd_T37 l0 (rd t180 x10_1)).f0), .int .i64 ((rd_T37 l0 (rd t180 x10_1)).f1), .int .i64 ((rd_T37 l0 (rd t180 x10_1)).f2), .int .i64 ((rd_T37 l0 (rd t180 x10_1)).f3)] 37 (0, 0)) (by (with_reducible repeat first | apply bN_ | apply bD_ | apply bA_); exact a3.out) hb); have n6_ := Aside0.mk (bB_ (g := a5) (o := .cells #[.int .i64 ((rd_T37 l0 (rd t180 x10_1)).f0), .int .i64 x194001_18, .int .i64 x194002_38, .int .i64 ((rd_T37 l0 (rd t180 x10_1)).f3)] 37 (0, 0)) (by (with_reducible repeat first | apply bN_ | apply bD_ | apply bA_); exact a4.out) hb); have n7_ := Aside0.mk (lP_ (by repeat (first | (with_reducible first | exact HB.out | apply lA1_ | apply lN_ | apply lD_ | refine lS1_ ?_ ad.out | refine lS1_ ?_ ae.out | refine lS1_ ?_ ag.out) | exact HB.out)) hb); clear ab a8 a6 a2 a3 a4 HB; have ab := n0_; have a8 := n1_; have a6 := n2_; have aa := n3_; have a2 := n4_; have a3 := n5_; have a4 := n6_; have HB := n7_; clear n0_ n1_ n2_ n3_ n4_ n5_ n6_ n7_; (try clear hb); (try clear hb2); (try clear hk); (try clear hi); (try clear ho0)) | ((with_reducible refine gate_dst (N := 13) rfl ?_); refine box_event ?hg (N := 13) ?hd (cs := #[.int .i64 0, .int .i64 0, .slice none 0 0]) (t := 26) ?hr ?_; (case hd => rfl); (case hg => rfl); (case hr => first | (go_simp; done) | (go_simp; rfl)); intro a0 hg w110 hbox hb; have n0_ := Aside0.mk (Kd.R_below ab.out hb); have n1_ := Aside0.mk (Kd.R_below a8.out hb); have n2_ := Aside0.mk (Kd.R_below a6.out hb); have n3_ := Aside0.mk (Kd.R_below aa.out hb); have n4_ := Aside0.mk (bB_ a2.out hb); have n5_ := Aside0.mk (bB_ a3.out hb); have n6_ := Aside0.mk (bB_ a4.out hb); have n7_ := Aside0.mk (lP_ HB.out hb); have n8_ := Aside0.mk (hbox); have n10_ := Aside0.mk ((by rw [hg]; exact (below_size HB.out) : w.heap.size ≤ a0)); have n11_ := Aside0.mk ((by rw [hg]; exact Nat.ne_of_lt (blk_lt a2.out) : ac ≠ a0)); have n12_ := Aside0.mk n11_.out.symm; have n13_ := Aside0.mk ((by rw [hg]; exact Nat.ne_of_lt (blk_lt a3.out) : a9 ≠ a0)); have n14_ := Aside0.mk n13_.out.symm; have n15_ := Aside0.mk ((by rw [hg]; exact Nat.ne_of_lt (blk_lt a4.out) : a5 ≠ a0)); have n16_ := Aside0.mk n15_.out.symm; clear ab a8 a6 aa a2 a3 a4 HB; have ab := n0_; have a8 := n1_; have a6 := n2_; have aa := n3_; have a2 := n4_; have a3 := n5_; have a4 := n6_; have HB := n7_; have a7 := n8_; have aw := n10_; have af := n11_; have ar := n12_; have ah := n13_; have au := n14_; have ai := n15_; have av := n16_; clear n0_ n1_ n2_ n3_ n4_ n5_ n6_ n7_ n8_ n10_ n11_ n12_ n13_ n14_ n15_ n16_ hb hbox hg; have ci := ar.out; have cj := af.out; have ck := au.out; have cl := ah.out; have cm := av.out; have cn := ai.out; obtain ⟨_, _, _, _, _, _⟩ := bc3 a7.out; obtain ⟨ao, ap, eo115⟩ := Kd.R_slice aa.out; subst eo115; have co := am.out; have cp := aj.out; obtain ⟨_, _, _, _, _, _, _, _⟩ := bc4 a3.out))
                   have n0_ : Aside0 (Kd.R (Kd.int .i64) 2 (((w110.setCell ⟨a0, 0, none⟩ (.int .i64 t198)).setCell ⟨a0, 1, none⟩ (.int .i64 t199)).setCell ⟨a0, 2, none⟩ (.slice ao t200.length ap)) w.heap.size (fun k_ => some k_ ≠ (v184 : Value).ownBlock) (.slice (some ad190) t180.length b1) t180) := ⟨by (with_reducible repeat first | apply rA_ | apply rN_ | apply rD_); exact Kd.R_mono (rfar3 (g := a0) (Kd.R_types ab.out a7.out (by decide)) (fun _ hk => hk.2)) (fun _ hk => hk.1)⟩
                   have n1_ : Aside0 (Kd.R (Kd.int .i64) 2 (((w110.setCell ⟨a0, 0, none⟩ (.int .i64 t198)).setCell ⟨a0, 1, none⟩ (.int .i64 t199)).setCell ⟨a0, 2, none⟩ (.slice ao t200.length ap)) w.heap.size (fun k_ => some k_ ≠ (.slice (some ad190) t180.length b1 : Value).ownBlock) v184 x8_1) := ⟨by (with_reducible repeat first | apply rA_ | apply rN_ | apply rD_); exact Kd.R_mono (rfar3 (g := a0) (Kd.R_types a8.out a7.out (by decide)) (fun _ hk => hk.2)) (fun _ hk => hk.1)⟩
                   have n2_ : Aside0 (Kd.R k37 37 (((w110.setCell ⟨a0, 0, none⟩ (.int .i64 t198)).setCell ⟨a0, 1, none⟩ (.int .i64 t199)).setCell ⟨a0, 2, none⟩ (.slice ao t200.length ap)) w.heap.size (fun k_ => some k_ ≠ (.slice ao t200.length ap : Value).ownBlock ∧ k_ ≠ a9 ∧ k_ ≠ a5) (.slice b7 x9_1.length b8) x9_1) := ⟨by (with_reducible repeat first | apply rA_ | apply rN_ | apply rD_); exact Kd.R_mono (rfar3 (g := a0) (Kd.R_types a6.out a7.out (by decide)) (fun _ hk => hk.2)) (fun _ hk => ⟨hk.1.2, ⟨hk.1.1.1, hk.1.1.2⟩⟩)⟩
                   have n3_ : Aside0 (Kd.R k37 37 (((w110.setCell ⟨a0, 0, none⟩ (.int .i64 t198)).setCell ⟨a0, 1, none⟩ (.int .i64 t199)).setCell ⟨a0, 2, none⟩ (.slice ao t200.length ap)) w.heap.size (fun k_ => some k_ ≠ (.slice b7 x9_1.length b8 : Value).ownBlock ∧ k_ ≠ a9 ∧ k_ ≠ a5) (.slice ao t200.length ap) t200) := ⟨by (with_reducible repeat first | apply rA_ | apply rN_ | apply rD_); exact Kd.R_mono (rfar3 (g := a0) (Kd.R_types aa.out a7.out (by decide)) (fun _ hk => hk.2)) (fun _ hk => ⟨hk.1.1.1.2, ⟨hk.1.1.2, hk.1.2⟩⟩)⟩
                   have n4_ : Aside0 ((((w110.setCell ⟨a0, 0, none⟩ (.int .i64 t198)).setCell ⟨a0, 1, none⟩ (.int .i64 t199)).setCell ⟨a0, 2, none⟩ (.slice ao t200.length ap)).heap[ac]? = some (.cells #[.int .i64 x180000_1, .int .i64 x180001_1, .slice none 0 0] 26 (0, 0))) := ⟨by (iterate 3 ((with_reducible repeat first | apply bN_ | apply bD_ | apply bA_); refine bF_ ?_ af.out _)); (with_reducible repeat first | apply bN_ | apply bD_ | apply bA_); exact a2.out⟩
                   have n5_ : Aside0 ((((w110.setCell ⟨a0, 0, none⟩ (.int .i64 t198)).setCell ⟨a0, 1, none⟩ (.int .i64 t199)).setCell ⟨a0, 2, none⟩ (.slice ao t200.length ap)).heap[a9]? = some (.cells #[.int .i64 ((rd_T37 l0 (rd t180 x10_1)).f0), .int .i64 ((rd_T37 l0 (rd t180 x10_1)).f1), .int .i64 ((rd_T37 l0 (rd t180 x10_1)).f2), .int .i64 ((rd_T37 l0 (rd t180 x10_1)).f3)] 37 (0, 0))) := ⟨by (iterate 3 ((with_reducible repeat first | apply bN_ | apply bD_ | apply bA_); refine bF_ ?_ ah.out _)); (with_reducible repeat first | apply bN_ | apply bD_ | apply bA_); exact a3.out⟩
                   have n6_ : Aside0 ((((w110.setCell ⟨a0, 0, none⟩ (.int .i64 t198)).setCell ⟨a0, 1, none⟩ (.int .i64 t199)).setCell ⟨a0, 2, none⟩ (.slice ao t200.length ap)).heap[a5]? = some (.cells #[.int .i64 ((rd_T37 l0 (rd t180 x10_1)).f0), .int .i64 x194001_18, .int .i64 x194002_38, .int .i64 ((rd_T37 l0 (rd t180 x10_1)).f3)] 37 (0, 0))) := ⟨by (iterate 3 ((with_reducible repeat first | apply bN_ | apply bD_ | apply bA_); refine bF_ ?_ ai.out _)); (with_reducible repeat first | apply bN_ | apply bD_ | apply bA_); exact a4.out⟩
                   have n7_ : Aside0 ((((w110.setCell ⟨a0, 0, none⟩ (.int .i64 t198)).setCell ⟨a0, 1, none⟩ (.int .i64 t199)).setCell ⟨a0, 2, none⟩ (.slice ao t200.length ap)).heap[a0]? = some (.cells #[.int .i64 t198, .int .i64 t199, .slice ao t200.length ap] 26 (0, 0))) := ⟨by (with_reducible repeat first | apply bN_ | apply bD_ | apply bA_); apply fill3; (with_reducible repeat first | apply bN_ | apply bD_ | apply bA_); exact a7.out⟩
                   have n8_ : Aside0 (Below w.heap.size w (((w110.setCell ⟨a0, 0, none⟩ (.int .i64 t198)).setCell ⟨a0, 1, none⟩ (.int .i64 t199)).setCell ⟨a0, 2, none⟩ (.slice ao t200.length ap))) := ⟨by repeat (first | (with_reducible first | exact HB.out | apply lA1_ | apply lN_ | apply lD_ | refine lS1_ ?_ ad.out | refine lS1_ ?_ ae.out | refine lS1_ ?_ ag.out | refine lS1_ ?_ aw.out) | exact HB.out)⟩
                   (try clear ab)
                   (try clear a8)
                   (try clear a6)
                   (try clear aa)
                   (try clear a2)
                   (try clear a3)
                   (try clear a4)
                   (try clear a7)
                   (try clear HB)
                   generalize (((w110.setCell ⟨a0, 0, none⟩ (.int .i64 t198)).setCell ⟨a0, 1, none⟩ (.int .i64 t199)).setCell ⟨a0, 2, none⟩ (.slice ao t200.length ap)) = w118 at n0_ n1_ n2_ n3_ n4_ n5_ n6_ n7_ n8_ ⊢
                   have ab := n0_
                   have a8 := n1_
                   have a6 := n2_
                   have aa := n3_
                   have a2 := n4_
                   have a3 := n5_
                   have a4 := n6_
                   have a7 := n7_
                   have HB := n8_
                   clear n0_ n1_ n2_ n3_ n4_ n5_ n6_ n7_ n8_
                   have n0_ := Aside0.mk (rD_ ab.out)
                   have n1_ := Aside0.mk (rD_ a8.out)
                   have n2_ := Aside0.mk (rD_ a6.out)
                   have n3_ := Aside0.mk (rD_ aa.out)
                   have n4_ := Aside0.mk (bD_ a2.out)
                   have n5_ := Aside0.mk (bD_ a3.out)
                   have n6_ := Aside0.mk (bD_ a4.out)
                   have n7_ := Aside0.mk (bD_ a7.out)
                   have n8_ := Aside0.mk (lD_ HB.out)
                   clear ab
                   clear a8
                   clear a6
                   clear aa
                   clear a2
                   clear a3
                   clear a4
                   clear a7
                   clear HB
                   have ab := n0_
                   have a8 := n1_
                   have a6 := n2_
                   have aa := n3_
                   have a2 := n4_
                   have a3 := n5_
                   have a4 := n6_
                   have a7 := n7_
                   have HB := n8_
                   clear n0_ n1_ n2_ n3_ n4_ n5_ n6_ n7_ n8_
                   have p211 : 0 ≤ (x10_1 : Int) := of_decide_eq_true (by first | (with_reducible assumption) | assumption)
                   have q211 : x10_1 < (t180.length : Int) := of_decide_eq_true (by first | (with_reducible assumption) | assumption)
                   obtain ⟨ad211, e211, hx211_0⟩ := Kd.at_int (Kd.R_reads' ab.out).2.2 x10_1 p211 q211
                   obtain rfl : ad190 = ad211 := (by injection e211)
                   replace p211 := eq_true p211
                   replace q211 := eq_true q211
                   have p104 : 0 ≤ ((rd t180 x10_1) : Int) := of_decide_eq_true (by first | (with_reducible assumption) | assumption)
                   have q104 : ((rd t180 x10_1) : Int) < ((x8_1.length : Int) : Int) := of_decide_eq_true (by first | (with_reducible assumption) | assumption)
                   obtain ⟨go104, fl, eo104, be, gl104, cl104, HG104⟩ := Kd.R_form a8.out (by omega)
                   (first | cases eo104 | (injection eo104 with ea_ en_ ec_; (first | subst ea_ | (injection ea_ with ea_; subst ea_)); subst ec_; clear en_))
                   have bq := Aside0.mk be
                   have GG104 := Aside0.mk HG104
                   clear be gl104 HG104
                   obtain ⟨hx104_0, hf104_0⟩ := Kd.R_celln 0 a8.out ((rd t180 x10_1) : Int) p104 q104
                   replace p104 := eq_true p104
                   replace q104 := eq_true q104
                   have HP120 := Kd.R_putn a8.out ((rd t180 x10_1) : Int) t199
                   rw [← bp.out] at HP120
                   have HQ120 := Aside0.mk HP120
                   clear HP120
                   refine start_ (n := 9) (S := fun w' => w'.cell? ⟨a0, 0, none⟩ = some (.int .i64 t198) ∧ w'.cell? ⟨a0, 1, none⟩ = some (.int .i64 t199) ∧ w'.cell? ⟨a0, 2, none⟩ = some (.slice ao t200.length ap) ∧ w'.cell? (ad190.add (x10_1).toNat) = some (.int .i64 (rd t180 x10_1))) (ds := [8]) #[false, false, false, false, false, false, false, false, false] (by kernel_rfl) rfl rfl ⟨(blk_cell a7.out 0).trans rfl, (blk_cell a7.out 1).trans rfl, (blk_cell a7.out 2).trans rfl, hx211_0⟩ (fun hHeld => ?_); refine with_tabW spec_l5Move.tab19 spec_l5Move.bits19 (fun HT_ HW_ => ?_)
                   generalize w118.drew = w119 at ab a8 a6 aa a2 a3 a4 a7 HB GG104 HQ120 hf104_0 hx104_0 hx211_0 hHeld ⊢
                   refine pure_ (i := 0) (N := some 80) (v := ?_) (a' := ?_) #[true, false, false, false, false, false, false, false, false] rfl rfl (any_of HT_.out (by kernel_rfl)) (fun _ _ _ h => h) (Or.inl ⟨by rfl, ?_⟩) ?_ ?_
                   rotate_left
                   ·intro w'
                    go_simp
                    with_reducible rfl
                   rotate_left
                   ·simp only [Act.put, lA_, lZ_, lS_, i64_w, i32_w]
                    rfl
                   refine pure_ (i := 1) (N := some 81) (v := ?_) (a' := ?_) #[true, true, false, false, false, false, false, false, false] rfl rfl (any_of HT_.out (by kernel_rfl)) (fun _ _ _ h => h) (Or.inl ⟨by rfl, ?_⟩) ?_ ?_
                   rotate_left
                   ·intro w'
                    go_simp
                    with_reducible rfl
                   rotate_left
                   ·simp only [Act.put, lA_, lZ_, lS_, i64_w, i32_w]
                    rfl
                   refine pure_ (i := 2) (N := some 82) (v := ?_) (a' := ?_) #[true, true, true, false, false, false, false, false, false] rfl rfl (any_of HT_.out (by kernel_rfl)) (fun _ _ _ h => h) (Or.inl ⟨by rfl, ?_⟩) ?_ ?_
                   rotate_left
                   ·intro w'
                    go_simp
                    with_reducible rfl
                   rotate_left
                   ·simp only [Act.put, lA_, lZ_, lS_, i64_w, i32_w]
                    rfl
                   refine pure_ (i := 3) (N := some 83) (v := ?_) (a' := ?_) #[true, true, true, true, false, false, false, false, false] rfl rfl (any_of HT_.out (by kernel_rfl)) (fun _ _ _ h => h) (Or.inl ⟨by rfl, ?_⟩) ?_ ?_
                   rotate_left
                   ·intro w'
                    go_simp
                    with_reducible rfl
                   rotate_left
                   ·simp only [Act.put, lA_, lZ_, lS_, i64_w, i32_w]
                    rfl
                   refine pure_ (i := 5) (N := some 85) (v := ?_) (a' := ?_) #[true, true, true, true, false, true, false, false, false] rfl rfl (any_of HT_.out (by kernel_rfl)) (fun _ _ _ h => h) (Or.inl ⟨by rfl, ?_⟩) ?_ ?_
                   rotate_left
                   ·intro w'
                    go_simp
                    with_reducible rfl
                   rotate_left
                   ·simp only [Act.put, lA_, lZ_, lS_, i64_w, i32_w]
                    rfl
                   refine take_ (i := 4) (N := some 84) (v := ?_) (a' := ?_) #[true, true, true, true, true, true, false, false, false] rfl rfl (take_ofW HT_.out HW_.out (by kernel_rfl)) (fun _ _ _ h => h) (Or.inl ⟨by rfl, ?_⟩) hHeld ?_ ?_
                   rotate_left
                   ·rintro w' ⟨s0, s1, s2, s3⟩
                    go_simp
                    with_reducible rfl
                   rotate_left
                   ·simp only [Act.put, lA_, lZ_, lS_, i64_w, i32_w]
                    rfl
                   refine take_ (i := 6) (N := some 86) (v := ?_) (a' := ?_) #[true, true, true, true, true, true, true, false, false] rfl rfl (take_ofW HT_.out HW_.out (by kernel_rfl)) (fun _ _ _ h => h) (Or.inl ⟨by rfl, ?_⟩) hHeld ?_ ?_
                   rotate_left
                   ·rintro w' ⟨s0, s1, s2, s3⟩
                    go_simp
                    with_reducible rfl
                   rotate_left
                   ·simp only [Act.put, lA_, lZ_, lS_, i64_w, i32_w]
                    rfl
                   refine pure_ (i := 7) (N := some 87) (v := ?_) (a' := ?_) #[true, true, true, true, true, true, true, true, false] rfl rfl (any_of HT_.out (by kernel_rfl)) (fun _ _ _ h => h) (Or.inl ⟨by rfl, ?_⟩) ?_ ?_
                   rotate_left
                   ·intro w'
                    go_simp
                    with_reducible rfl
                   rotate_left
                   ·simp only [Act.put, lA_, lZ_, lS_, i64_w, i32_w]
                    rfl
                   refine last_ (i := 8) (N := none) #[true, true, true, true, true, true, true, true, true] rfl rfl (one_of HT_.out (by kernel_rfl)) (by decide) (fun K hK => ?_)
                   refine skip_ (w1 := ?_) (by rfl) rfl ?_ ?_
                   rotate_left
                   ·go_simp
                    rfl
                   refine hK.out _ _ ?_
                   clear hK K
                   refine done_ (done_of HT_.out (by kernel_rfl)) ?_
                   try go_wp2
                   go_roundg kj38
                   case measure => have := HK1.out; have := HJ18.out; have := HJ38.out; omega
                   case rel => exact ⟨(y212), (t200), (wrap64 (x10_1 + 1)), (x180000_1), (x180001_1), (by first | rfl | (simp; done) | (simp [*]; done)), H', ⟨by have := HK1.out; have := HJ18.out; have := HJ38.out; omega⟩, ⟨by (with_reducible repeat first | apply rA_ | apply rN_ | apply rD_); exact Kd.R_mono (Kd.R_far (p := ⟨go104, ((rd t180 x10_1) : Int).toNat, none⟩) (Kd.R_mono ab.out (fun k_ hk => (⟨hk, fun e_ => hk (by rw [e_]; rfl)⟩ : _ ∧ k_ ≠ go104))) (fun _ hk => hk.2) (.int .i64 t199)) (fun _ hk => hk.1)⟩, ⟨by (with_reducible repeat first | apply rA_ | apply rN_ | apply rD_); exact HQ120.out⟩, ⟨by (with_reducible repeat first | apply rA_ | apply rN_ | apply rD_); exact Kd.R_mono (Kd.R_far (p := ⟨go104, ((rd t180 x10_1) : Int).toNat, none⟩) (Kd.R_types aa.out GG104.out (by decide)) (fun _ hk => hk.2) (.int .i64 t199)) (fun _ hk => trivial)⟩, ⟨by (with_reducible repeat first | apply bN_ | apply bD_ | apply bA_); refine bF_ ?_ (by have h_ := Kd.R_ne a8.out a2.out (by decide); intro e_; exact h_ (by rw [e_]; rfl)) _; (with_reducible repeat first | apply bN_ | apply bD_ | apply bA_); exact a2.out⟩, ⟨by repeat (first | (with_reducible first | exact HB.out | apply lA1_ | apply lN_ | apply lD_ | refine lS1_ ?_ bq.out | refine lS1_ ?_ ad.out | refine lS1_ ?_ ae.out | refine lS1_ ?_ ag.out | refine lS1_ ?_ aw.out) | exact HB.out)⟩⟩
                  ·rw [if_neg c103] at H
                   exact absurd H (by simp)
                 ·rw [if_neg c102] at H
                  exact absurd H (by simp)
                ·rw [if_neg c101] at H
                 exact absurd H (by simp)
               ·rw [if_neg c100] at H
                exact absurd H (by simp)
              ·rw [if_neg c99] at H
               have c99b0 : (t198 == 0) = false := beq_eq_false_iff_ne.mpr c99
               have c99b1 : (t198 != 0) = true := bne_iff_ne.mpr c99
               simp only [Option.some.injEq, Prod.mk.injEq] at H
               obtain ⟨rfl, rfl, rfl⟩ := H
               have cq := aq.out
               have cr := al.out
               have ct := an.out
               have cu := ak.out
               obtain ⟨_, _, _, _, _, _, _, _⟩ := bc4 a4.out
               obtain ⟨br, bs, eo124⟩ := Kd.R_slice a6.out
               subst eo124
               go_wp2_with (first | ((with_reducible refine gate_callee (f := 34) rfl ?_); refine goesA_ (some 62) rfl rfl Try.func34 (by kernel_rfl) rfl #[.slice br x9_1.length bs, .agg #[.int .i64 ((rd_T37 l0 (rd t180 x10_1)).f0), .int .i64 x194001_18, .int .i64 x194002_38, .int .i64 ((rd_T37 l0 (rd t180 x10_1)).f3)]] rfl ?_; (with_reducible refine (spec_l5Put.calls kj38 _ _ x9_1 ((rd_T37 l0 (rd t180 x10_1)).f0) x194001_18 x194002_38 ((rd_T37 l0 (rd t180 x10_1)).f3) t198 t199 t200 _ ?side1 ?side2 bd.out).mono ?_); (case side1 => repeat (first | exact (Kd.R_reads' a6.out).2.2 | (with_reducible refine Kd.C_alloc ?_ _) | (with_reducible refine Kd.C_drewN ?_ _) | (with_reducible refine Kd.C_drew ?_))); (case side2 => exact (Kd.R_reads' a6.out).2.1); rintro e w125 ⟨v201, rfl, ho0, hb⟩; refine ⟨_, rfl, ?_⟩; have n3_ := Aside0.mk (Kd.R_lower (Kd.R_newB (Kd.R_newB (Kd.R_new' ho0 (Kd.R_lt (by (with_reducible repeat first | apply rA_ | apply rN_ | apply rD_); exact a6.out))) (g := a9) (o := .cells #[.int .i64 ((rd_T37 l0 (rd t180 x10_1)).f0), .int .i64 ((rd_T37 l0 (rd t180 x10_1)).f1), .int .i64 ((rd_T37 l0 (rd t180 x10_1)).f2), .int .i64 ((rd_T37 l0 (rd t180 x10_1)).f3)] 37 (0, 0)) (by (with_reducible repeat first | apply bN_ | apply bD_ | apply bA_); exact a3.out)) (g := a5) (o := .cells #[.int .i64 ((rd_T37 l0 (rd t180 x10_1)).f0), .int .i64 x194001_18, .int .i64 x194002_38, .int .i64 ((rd_T37 l0 (rd t180 x10_1)).f3)] 37 (0, 0)) (by (with_reducible repeat first | apply bN_ | apply bD_ | apply bA_); exact a4.out)) (below_size (by repeat (first | (with_reducible first | exact HB.out | apply lA1_ | apply lN_ | apply lD_ | refine lS1_ ?_ ad.out | refine lS1_ ?_ ae.out | refine lS1_ ?_ ag.out) | exact HB.out)))); have n4_ := Aside0.mk (bB_ (g := ac) (o := .cells #[.int .i64 x180000_1, .int .i64 x180001_1, .slice none 0 0] 26 (0, 0)) (by (with_reducible repeat first | apply bN_ | apply bD_ | apply bA_); exact a2.out) hb); have n5_ := Aside0.mk (bB_ (g := a9) (o := .cells #[.int .i64 ((rd_T37 l0 (rd t180 x10_1)).f0), .int .i64 ((rd_T37 l0 (rd t180 x10_1)).f1), .int .i64 ((rd_T37 l0 (rd t180 x10_1)).f2), .int .i64 ((rd_T37 l0 (rd t180 x10_1)).f3)] 37 (0, 0)) (by (with_reducible repeat first | apply bN_ | apply bD_ | apply bA_); exact a3.out) hb); have n6_ := Aside0.mk (bB_ (g := a5) (o := .cells #[.int .i64 ((rd_T37 l0 (rd t180 x10_1)).f0), .int .i64 x194001_18, .int .i64 x194002_38, .int .i64 ((rd_T37 l0 (rd t180 x10_1)).f3)] 37 (0, 0)) (by (with_reducible repeat first | apply bN_ | apply bD_ | apply bA_); exact a4.out) hb); have n7_ := Aside0.mk (lP_ (by repeat (first | (with_reducible first | exact HB.out | apply lA1_ | apply lN_ | apply lD_ | refine lS1_ ?_ ad.out | refine lS1_ ?_ ae.out | refine lS1_ ?_ ag.out) | exact HB.out)) hb); clear a2 a3 a4 HB; have aa := n3_; have a2 := n4_; have a3 := n5_; have a4 := n6_; have HB := n7_; clear n3_ n4_ n5_ n6_ n7_; (try clear hb); (try clear hb2); (try clear hk); (try clear hi); (try clear ho0)) | ((with_reducible refine gate_dst (N := 13) rfl ?_); refine box_event ?hg (N := 13) ?hd (cs := #[.int .i64 0, .int .i64 0, .slice none 0 0]) (t := 26) ?hr ?_; (case hd => rfl); (case hg => rfl); (case hr => first | (go_simp; done) | (go_simp; rfl)); intro a0 hg w126 hbox hb; have n3_ := Aside0.mk (Kd.R_below (by (with_reducible repeat first | apply rA_ | apply rN_ | apply rD_); exact aa.out) hb); have n4_ := Aside0.mk (bB_ (g := ac) (o := .cells #[.int .i64 x180000_1, .int .i64 x180001_1, .slice none 0 0] 26 (0, 0)) (by (with_reducible repeat first | apply bN_ | apply bD_ | apply bA_); exact a2.out) hb); have n5_ := Aside0.mk (bB_ (g := a9) (o := .cells #[.int .i64 ((rd_T37 l0 (rd t180 x10_1)).f0), .int .i64 ((rd_T37 l0 (rd t180 x10_1)).f1), .int .i64 ((rd_T37 l0 (rd t180 x10_1)).f2), .int .i64 ((rd_T37 l0 (rd t180 x10_1)).f3)] 37 (0, 0)) (by (with_reducible repeat first | apply bN_ | apply bD_ | apply bA_); exact a3.out) hb); have n7_ := Aside0.mk (lP_ (by repeat (first | (with_reducible first | exact HB.out | apply lA1_ | apply lN_ | apply lD_ | refine lS1_ ?_ ad.out | refine lS1_ ?_ ae.out | refine lS1_ ?_ ag.out) | exact HB.out)) hb); have n8_ := Aside0.mk (hbox); have n10_ := Aside0.mk ((by rw [hg]; exact (below_size (by repeat (first | (with_reducible first | exact HB.out | apply lA1_ | apply lN_ | apply lD_ | refine lS1_ ?_ ad.out | refine lS1_ ?_ ae.out | refine lS1_ ?_ ag.out) | exact HB.out))) : w.heap.size ≤ a0)); have n11_ := Aside0.mk ((by rw [hg]; exact Nat.ne_of_lt (blk_lt (g := ac) (o := .cells #[.int .i64 x180000_1, .int .i64 x180001_1, .slice none 0 0] 26 (0, 0)) (by (with_reducible repeat first | apply bN_ | apply bD_ | apply bA_); exact a2.out)) : ac ≠ a0)); have n12_ := Aside0.mk n11_.out.symm; have n13_ := Aside0.mk ((by rw [hg]; exact Nat.ne_of_lt (blk_lt (g := a9) (o := .cells #[.int .i64 ((rd_T37 l0 (rd t180 x10_1)).f0), .int .i64 ((rd_T37 l0 (rd t180 x10_1)).f1), .int .i64 ((rd_T37 l0 (rd t180 x10_1)).f2), .int .i64 ((rd_T37 l0 (rd t180 x10_1)).f3)] 37 (0, 0)) (by (with_reducible repeat first | apply bN_ | apply bD_ | apply bA_); exact a3.out)) : a9 ≠ a0)); have n14_ := Aside0.mk n13_.out.symm; have n15_ := Aside0.mk ((by rw [hg]; exact Nat.ne_of_lt (blk_lt (g := a5) (o := .cells #[.int .i64 ((rd_T37 l0 (rd t180 x10_1)).f0), .int .i64 x194001_18, .int .i64 x194002_38, .int .i64 ((rd_T37 l0 (rd t180 x10_1)).f3)] 37 (0, 0)) (by (with_reducible repeat first | apply bN_ | apply bD_ | apply bA_); exact a4.out)) : a5 ≠ a0)); have n16_ := Aside0.mk n15_.out.symm; clear aa a2 a3 HB; have aa := n3_; have a2 := n4_; have a3 := n5_; have HB := n7_; have a7 := n8_; have aw := n10_; have af := n11_; have ar := n12_; have ah := n13_; have au := n14_; have ai := n15_; have av := n16_; clear n3_ n4_ n5_ n7_ n8_ n10_ n11_ n12_ n13_ n14_ n15_ n16_ hb hbox hg; have cv := ar.out; have cw := af.out; have cx := au.out; have cy := ah.out; have cz := av.out; have d0 := ai.out; obtain ⟨_, _, _, _, _, _⟩ := bc3 a7.out; obtain ⟨fm, fn, eo131⟩ := Kd.R_slice aa.out; subst eo131; have d1 := am.out; have d2 := aj.out; obtain ⟨_, _, _, _, _, _, _, _⟩ := bc4 a3.out; obtain ⟨_, _, _, _, _, _⟩ := bc3 a2.out))
               refine bodyPost_ret (results_cell_row rfl _ _ ac 26 #[.int .i64 t198, .int .i64 0, .slice none 0 0] (0, 0) _ rfl (by (with_reducible repeat first | apply bN_ | apply bD_ | apply bA_); apply fill3; (iterate 3 ((with_reducible repeat first | apply bN_ | apply bD_ | apply bA_); refine bF_ ?_ af.out _)); (with_reducible repeat first | apply bN_ | apply bD_ | apply bA_); exact a2.out) Try.underlying26 rfl (by kernel_rfl)) rfl ?_
               exact ⟨_, by first | rfl | (simp [errW_none, errW_some] <;> rfl) | (simp only [← hji5]; first | rfl | (simp [errW_none, errW_some] <;> rfl)) | (simp [*, errW_none, errW_some] <;> rfl), by first | exact Kd.R_nil _ _ _ _ _ | exact Kd.N_nil _ _ _ _ _ | exact Kd.V_nil _ _ _ _ _ | exact Kd.Q_nil _ _ _ _ _ | exact Kd.S_nil _ _ _ _ _, by repeat (first | (with_reducible first | exact HB.out | apply lA1_ | apply lN_ | apply lD_ | refine lS1_ ?_ ad.out | refine lS1_ ?_ ae.out | refine lS1_ ?_ ag.out | refine lS1_ ?_ aw.out) | exact HB.out)⟩
        ·rw [if_neg c17] at H
         exact absurd H (by simp)
       ·rw [if_neg c16] at H
        exact absurd H (by simp)
      ·rw [if_neg c15] at H
       exact absurd H (by simp)
     ·rw [if_neg c14] at H
      have c14b0 : decide (x10_1 < (t180.length : Int)) = false := decide_eq_false c14
      clear c14
      by_cases c135 : 0 ≤ a1
      ·rw [if_pos c135] at H
       have c135b0 : decide (0 ≤ a1) = true := decide_eq_true c135
       clear c135
       by_cases c136 : a1 < (x8_1.length : Int)
       ·rw [if_pos c136] at H
        have c136b0 : decide (a1 < (x8_1.length : Int)) = true := decide_eq_true c136
        clear c136
        simp only [Option.some.injEq, Prod.mk.injEq] at H
        obtain ⟨rfl, rfl, rfl⟩ := H
        obtain ⟨fo, fp, eo137⟩ := Kd.R_slice ab.out
        subst eo137
        obtain ⟨fq, fr, eo138⟩ := Kd.R_slice a8.out
        subst eo138
        have p189 : 0 ≤ (a1 : Int) := of_decide_eq_true (by first | (with_reducible assumption) | assumption)
        have q189 : a1 < (x8_1.length : Int) := of_decide_eq_true (by first | (with_reducible assumption) | assumption)
        obtain ⟨ad189, e189, hx189_0⟩ := Kd.at_int (Kd.R_reads' a8.out).2.2 a1 p189 q189
        cases e189
        replace p189 := eq_true p189
        replace q189 := eq_true q189
        obtain ⟨bt, bu, eo139⟩ := Kd.R_slice a6.out
        subst eo139
        obtain ⟨_, _, _, _, _, _⟩ := bc3 a2.out
        go_wp2
        refine bodyPost_ret (results_cell_row rfl _ _ ac 26 #[.int .i64 0, .int .i64 (rd x8_1 a1), .slice bt x9_1.length bu] (0, 0) _ rfl (by (with_reducible repeat first | apply bN_ | apply bD_ | apply bA_); apply fill3; (with_reducible repeat first | apply bN_ | apply bD_ | apply bA_); exact a2.out) Try.underlying26 rfl (by kernel_rfl)) rfl ?_
        exact ⟨_, by first | rfl | (simp [errW_none, errW_some] <;> rfl) | (simp only [← hji5]; first | rfl | (simp [errW_none, errW_some] <;> rfl)) | (simp [*, errW_none, errW_some] <;> rfl), by (with_reducible repeat first | apply rA_ | apply rN_ | apply rD_); exact Kd.R_mono (rfar3 (g := ac) (Kd.R_types a6.out a2.out (by decide)) (fun _ hk => hk.2)) (fun _ hk => trivial), by repeat (first | (with_reducible first | exact HB.out | apply lA1_ | apply lN_ | apply lD_ | refine lS1_ ?_ ad.out) | exact HB.out)⟩
       ·rw [if_neg c136] at H
        exact absurd H (by simp)
      ·rw [if_neg c135] at H
       exact absurd H (by simp)
  ·rw [if_neg c7] at H
   exact absurd H (by simp)
 ·rw [if_neg c6] at H
  exact absurd H (by simp)
def spec_MoveTerm.f (k : Nat) (l0 : List (S37)) (a1 : Int) (l2 : List (S37)) : Option (Int × Int × (List (S37))) := (spec_TermsFault.f k l0).bind fun t214 => (if t214 = 0 then ((spec_TermsFault.f k l2).bind fun t215 => (if t215 = 0 then ((spec_l5At.f l0 a1).bind fun t216 => (if t216 = true then ((spec_l5Move.f k l0 a1 l2).bind fun bt217 => (some (bt217.1, bt217.2.1, bt217.2.2))) else (some (3, 0, ([] : List (S37)))))) else (some (t215, 0, ([] : List (S37)))))) else (some (t214, 0, ([] : List (S37)))))
set_option maxHeartbeats 8000000 in
set_option maxRecDepth 100000 in
theorem spec_MoveTerm.calls (k : Nat) (A0 : Option Addr) (c0 : Nat) (l0 : List (S37)) (a1 : Int) (A2 : Option Addr) (c2 : Nat) (l2 : List (S37)) (r1 : Int) (r2 : Int) (r3 : List (S37)) (w : World) (hr0 : Kd.C k37 w A0 l0.length l0) (hc0 : l0.length ≤ c0) (hr2 : Kd.C k37 w A2 l2.length l2) (hc2 : l2.length ≤ c2) (h : spec_MoveTerm.f k l0 a1 l2 = some (r1, r2, r3)) :
  Calls Try.prog 5 #[.slice A0 l0.length c0, .int .i64 a1, .slice A2 l2.length c2] w fun e w' => ∃ v2_ : Value, e = .returned (.agg #[.int .i64 r1, .int .i64 r2, v2_]) ∧ Kd.R k37 37 w' w.heap.size (fun _ => True) v2_ r3 ∧ Below w.heap.size w w' := by
 have hu26 := Try.underlying26
 have a4 := Aside0.mk hr0
 have a5 := Aside0.mk hc0
 clear hr0 hc0
 have a6 := Aside0.mk hr2
 have a7 := Aside0.mk hc2
 clear hr2 hc2
 have HB := Aside0.mk (Below.refl w.heap.size w)
 have H : ((spec_TermsFault.f k l0).bind fun t214 => (if t214 = 0 then ((spec_TermsFault.f k l2).bind fun t215 => (if t215 = 0 then ((spec_l5At.f l0 a1).bind fun t216 => (if t216 = true then ((spec_l5Move.f k l0 a1 l2).bind fun bt217 => (some (bt217.1, bt217.2.1, bt217.2.2))) else (some (3, 0, ([] : List (S37)))))) else (some (t215, 0, ([] : List (S37)))))) else (some (t214, 0, ([] : List (S37)))))) = some (r1, r2, r3) := h
 clear h
 replace H := Option.bind_eq_some_iff.mp H
 obtain ⟨t214, aa, H⟩ := H
 try dsimp only at H
 have A4 := Aside0.mk aa
 clear aa
 by_cases c5 : t214 = 0
 ·rw [if_pos c5] at H
  have c5b0 : (t214 == 0) = true := beq_iff_eq.mpr c5
  have c5b1 : (t214 != 0) = false := bne_eq_false_iff_eq.mpr c5
  clear c5
  replace H := Option.bind_eq_some_iff.mp H
  obtain ⟨t215, ab, H⟩ := H
  try dsimp only at H
  have A6 := Aside0.mk ab
  clear ab
  by_cases c7 : t215 = 0
  ·rw [if_pos c7] at H
   have c7b0 : (t215 == 0) = true := beq_iff_eq.mpr c7
   have c7b1 : (t215 != 0) = false := bne_eq_false_iff_eq.mpr c7
   clear c7
   replace H := Option.bind_eq_some_iff.mp H
   obtain ⟨t216, ac, H⟩ := H
   try dsimp only at H
   have A8 := Aside0.mk ac
   clear ac
   by_cases c9 : t216 = true
   ·subst c9
    rw [if_pos rfl] at H
    replace H := Option.bind_eq_some_iff.mp H
    obtain ⟨⟨t217, t218, t219⟩, a9, H⟩ := H
    try dsimp only at H
    have af := Aside0.mk a9
    clear a9
    simp only [Option.some.injEq, Prod.mk.injEq] at H
    obtain ⟨rfl, rfl, rfl⟩ := H
    go_enter Try.func5, Try.ntmps5
    go_wp2_with (first | ((with_reducible refine gate_dst (N := 6) rfl ?_); refine box_event ?hg (N := 6) ?hd (cs := #[.int .i64 0, .int .i64 0, .slice none 0 0]) (t := 26) ?hr ?_; (case hd => rfl); (case hg => rfl); (case hr => first | (go_simp; done) | (go_simp; rfl)); intro a2 hg w11 hbox hb; have n0_ := Aside0.mk (lP_ HB.out hb); have n1_ := Aside0.mk (hbox); have n3_ := Aside0.mk ((by rw [hg]; exact (below_size HB.out) : w.heap.size ≤ a2)); clear HB; have HB := n0_; have a0 := n1_; have a3 := n3_; clear n0_ n1_ n3_ hb hbox hg) | ((with_reducible refine gate_callee (f := 13) rfl ?_); refine goesA_ (some 10) rfl rfl Try.func13 (by kernel_rfl) rfl #[.slice A0 l0.length c0] rfl ?_; (with_reducible refine (spec_TermsFault.calls k _ _ l0 t214 _ ?side1 ?side2 A4.out).mono ?_); (case side1 => repeat (first | exact (Kd.C_below a4.out HB.out) | (with_reducible refine Kd.C_alloc ?_ _) | (with_reducible refine Kd.C_drewN ?_ _) | (with_reducible refine Kd.C_drew ?_))); (case side2 => exact a5.out); rintro e w12 ⟨rfl, hb⟩; refine ⟨_, rfl, ?_⟩; have n0_ := Aside0.mk (bB_ a0.out hb); have n1_ := Aside0.mk (lP_ HB.out hb); clear a0 HB; have a0 := n0_; have HB := n1_; clear n0_ n1_; (try clear hb); (try clear hb2); (try clear hk); (try clear hi)) | ((with_reducible refine gate_callee (f := 13) rfl ?_); refine goesA_ (some 16) rfl rfl Try.func13 (by kernel_rfl) rfl #[.slice A2 l2.length c2] rfl ?_; (with_reducible refine (spec_TermsFault.calls k _ _ l2 t215 _ ?side1 ?side2 A6.out).mono ?_); (case side1 => repeat (first | exact (Kd.C_below a6.out HB.out) | (with_reducible refine Kd.C_alloc ?_ _) | (with_reducible refine Kd.C_drewN ?_ _) | (with_reducible refine Kd.C_drew ?_))); (case side2 => exact a7.out); rintro e w13 ⟨rfl, hb⟩; refine ⟨_, rfl, ?_⟩; have n0_ := Aside0.mk (bB_ a0.out hb); have n1_ := Aside0.mk (lP_ HB.out hb); clear a0 HB; have a0 := n0_; have HB := n1_; clear n0_ n1_; (try clear hb); (try clear hb2); (try clear hk); (try clear hi)) | ((with_reducible refine gate_callee (f := 14) rfl ?_); refine goesA_ (some 23) rfl rfl Try.func14 (by kernel_rfl) rfl #[.slice A0 l0.length c0, .int .i64 a1] rfl ?_; (with_reducible refine (spec_l5At.calls _ _ l0 a1 true _ ?side1 ?side2 A8.out).mono ?_); (case side1 => repeat (first | exact (Kd.C_below a4.out HB.out) | (with_reducible refine Kd.C_alloc ?_ _) | (with_reducible refine Kd.C_drewN ?_ _) | (with_reducible refine Kd.C_drew ?_))); (case side2 => exact a5.out); rintro e w' ⟨rfl, ⟨nd, rfl⟩⟩; refine ⟨_, rfl, ?_⟩; (try (rw [drewN_self w13]; generalize hq_ : World.drewN w13 _ = w13; have n0_ : Aside0 (w13.heap[a2]? = some (.cells #[.int .i64 0, .int .i64 0, .slice none 0 0] 26 (0, 0))) := ⟨by rw [← hq_]; exact (by (with_reducible repeat first | apply bN_ | apply bD_ | apply bA_); exact a0.out)⟩; have n1_ : Aside0 (Below w.heap.size w w13) := ⟨by rw [← hq_]; exact (by repeat (first | (with_reducible first | exact HB.out | apply lA1_ | apply lN_ | apply lD_ | refine lS1_ ?_ a3.out) | exact HB.out))⟩; clear a0 HB hq_; have a0 := n0_; have HB := n1_; clear n0_ n1_))) | ((with_reducible refine gate_callee (f := 15) rfl ?_); refine goesA_ (some 29) rfl rfl Try.func15 (by kernel_rfl) rfl #[.slice A0 l0.length c0, .int .i64 a1, .slice A2 l2.length c2] rfl ?_; (with_reducible refine (spec_l5Move.calls k _ _ l0 a1 _ _ l2 t217 t218 t219 _ ?side1 ?side2 ?side3 ?side4 af.out).mono ?_); (case side1 => repeat (first | exact (Kd.C_below a4.out HB.out) | (with_reducible refine Kd.C_alloc ?_ _) | (with_reducible refine Kd.C_drewN ?_ _) | (with_reducible refine Kd.C_drew ?_))); (case side2 => exact a5.out); (case side3 => repeat (first | exact (Kd.C_below a6.out HB.out) | (with_reducible refine Kd.C_alloc ?_ _) | (with_reducible refine Kd.C_drewN ?_ _) | (with_reducible refine Kd.C_drew ?_))); (case side4 => exact a7.out); rintro e w14 ⟨v220, rfl, ho0, hb⟩; refine ⟨_, rfl, ?_⟩; have n0_ := Aside0.mk (Kd.R_lower ho0 (below_size (by repeat (first | (with_reducible first | exact HB.out | apply lA1_ | apply lN_ | apply lD_ | refine lS1_ ?_ a3.out) | exact HB.out)))); have n1_ := Aside0.mk (bB_ (g := a2) (o := .cells #[.int .i64 0, .int .i64 0, .slice none 0 0] 26 (0, 0)) (by (with_reducible repeat first | apply bN_ | apply bD_ | apply bA_); exact a0.out) hb); have n2_ := Aside0.mk (lP_ (by repeat (first | (with_reducible first | exact HB.out | apply lA1_ | apply lN_ | apply lD_ | refine lS1_ ?_ a3.out) | exact HB.out)) hb); clear a0 HB; have a8 := n0_; have a0 := n1_; have HB := n2_; clear n0_ n1_ n2_; (try clear hb); (try clear hb2); (try clear hk); (try clear hi); (try clear ho0); obtain ⟨_, _, _, _, _, _⟩ := bc3 a0.out; obtain ⟨ad, ae, eo16⟩ := Kd.R_slice a8.out; subst eo16))
    refine bodyPost_ret (results_cell_row rfl _ _ a2 26 #[.int .i64 t217, .int .i64 t218, .slice ad t219.length ae] (0, 0) _ rfl (by (with_reducible repeat first | apply bN_ | apply bD_ | apply bA_); apply fill3; (with_reducible repeat first | apply bN_ | apply bD_ | apply bA_); exact a0.out) Try.underlying26 rfl (by kernel_rfl)) rfl ?_
    exact ⟨_, by first | rfl | (simp [errW_none, errW_some] <;> rfl) | (simp [*, errW_none, errW_some] <;> rfl), by (with_reducible repeat first | apply rA_ | apply rN_ | apply rD_); exact Kd.R_mono (rfar3 (g := a2) (Kd.R_types a8.out a0.out (by decide)) (fun _ hk => hk.2)) (fun _ hk => trivial), by repeat (first | (with_reducible first | exact HB.out | apply lA1_ | apply lN_ | apply lD_ | refine lS1_ ?_ a3.out) | exact HB.out)⟩
   ·replace c9 := Bool.eq_false_iff.mpr c9
    subst c9
    rw [if_neg (show ¬ (false = true) by decide)] at H
    simp only [Option.some.injEq, Prod.mk.injEq] at H
    obtain ⟨rfl, rfl, rfl⟩ := H
    go_enter Try.func5, Try.ntmps5
    go_wp2_with (first | ((with_reducible refine gate_dst (N := 6) rfl ?_); refine box_event ?hg (N := 6) ?hd (cs := #[.int .i64 0, .int .i64 0, .slice none 0 0]) (t := 26) ?hr ?_; (case hd => rfl); (case hg => rfl); (case hr => first | (go_simp; done) | (go_simp; rfl)); intro a2 hg w17 hbox hb; have n0_ := Aside0.mk (lP_ (by repeat (first | (with_reducible first | exact HB.out | apply lA1_ | apply lN_ | apply lD_) | exact HB.out)) hb); have n1_ := Aside0.mk (hbox); have n3_ := Aside0.mk ((by rw [hg]; exact (below_size (by repeat (first | (with_reducible first | exact HB.out | apply lA1_ | apply lN_ | apply lD_) | exact HB.out))) : w.heap.size ≤ a2)); clear HB; have HB := n0_; have a0 := n1_; have a3 := n3_; clear n0_ n1_ n3_ hb hbox hg) | ((with_reducible refine gate_callee (f := 13) rfl ?_); refine goesA_ (some 10) rfl rfl Try.func13 (by kernel_rfl) rfl #[.slice A0 l0.length c0] rfl ?_; (with_reducible refine (spec_TermsFault.calls k _ _ l0 t214 _ ?side1 ?side2 A4.out).mono ?_); (case side1 => repeat (first | exact (Kd.C_below a4.out HB.out) | (with_reducible refine Kd.C_alloc ?_ _) | (with_reducible refine Kd.C_drewN ?_ _) | (with_reducible refine Kd.C_drew ?_))); (case side2 => exact a5.out); rintro e w18 ⟨rfl, hb⟩; refine ⟨_, rfl, ?_⟩; have n0_ := Aside0.mk (bB_ a0.out hb); have n1_ := Aside0.mk (lP_ HB.out hb); clear a0 HB; have a0 := n0_; have HB := n1_; clear n0_ n1_; (try clear hb); (try clear hb2); (try clear hk); (try clear hi)) | ((with_reducible refine gate_callee (f := 13) rfl ?_); refine goesA_ (some 16) rfl rfl Try.func13 (by kernel_rfl) rfl #[.slice A2 l2.length c2] rfl ?_; (with_reducible refine (spec_TermsFault.calls k _ _ l2 t215 _ ?side1 ?side2 A6.out).mono ?_); (case side1 => repeat (first | exact (Kd.C_below a6.out HB.out) | (with_reducible refine Kd.C_alloc ?_ _) | (with_reducible refine Kd.C_drewN ?_ _) | (with_reducible refine Kd.C_drew ?_))); (case side2 => exact a7.out); rintro e w19 ⟨rfl, hb⟩; refine ⟨_, rfl, ?_⟩; have n0_ := Aside0.mk (bB_ a0.out hb); have n1_ := Aside0.mk (lP_ HB.out hb); clear a0 HB; have a0 := n0_; have HB := n1_; clear n0_ n1_; (try clear hb); (try clear hb2); (try clear hk); (try clear hi)) | ((with_reducible refine gate_callee (f := 14) rfl ?_); refine goesA_ (some 23) rfl rfl Try.func14 (by kernel_rfl) rfl #[.slice A0 l0.length c0, .int .i64 a1] rfl ?_; (with_reducible refine (spec_l5At.calls _ _ l0 a1 false _ ?side1 ?side2 A8.out).mono ?_); (case side1 => repeat (first | exact (Kd.C_below a4.out HB.out) | (with_reducible refine Kd.C_alloc ?_ _) | (with_reducible refine Kd.C_drewN ?_ _) | (with_reducible refine Kd.C_drew ?_))); (case side2 => exact a5.out); rintro e w' ⟨rfl, ⟨nd, rfl⟩⟩; refine ⟨_, rfl, ?_⟩; (try (rw [drewN_self w19]; generalize hq_ : World.drewN w19 _ = w19; have n0_ : Aside0 (w19.heap[a2]? = some (.cells #[.int .i64 0, .int .i64 0, .slice none 0 0] 26 (0, 0))) := ⟨by rw [← hq_]; exact (by (with_reducible repeat first | apply bN_ | apply bD_ | apply bA_); exact a0.out)⟩; have n1_ : Aside0 (Below w.heap.size w w19) := ⟨by rw [← hq_]; exact (by repeat (first | (with_reducible first | exact HB.out | apply lA1_ | apply lN_ | apply lD_ | refine lS1_ ?_ a3.out) | exact HB.out))⟩; clear a0 HB hq_; have a0 := n0_; have HB := n1_; clear n0_ n1_)); obtain ⟨_, _, _, _, _, _⟩ := bc3 a0.out))
    refine bodyPost_ret (results_cell_row rfl _ _ a2 26 #[.int .i64 3, .int .i64 0, .slice none 0 0] (0, 0) _ rfl (by (with_reducible repeat first | apply bN_ | apply bD_ | apply bA_); apply fill3; (with_reducible repeat first | apply bN_ | apply bD_ | apply bA_); exact a0.out) Try.underlying26 rfl (by kernel_rfl)) rfl ?_
    exact ⟨_, by first | rfl | (simp [errW_none, errW_some] <;> rfl) | (simp [*, errW_none, errW_some] <;> rfl), by first | exact Kd.R_nil _ _ _ _ _ | exact Kd.N_nil _ _ _ _ _ | exact Kd.V_nil _ _ _ _ _ | exact Kd.Q_nil _ _ _ _ _ | exact Kd.S_nil _ _ _ _ _, by repeat (first | (with_reducible first | exact HB.out | apply lA1_ | apply lN_ | apply lD_ | refine lS1_ ?_ a3.out) | exact HB.out)⟩
  ·rw [if_neg c7] at H
   have c7b0 : (t215 == 0) = false := beq_eq_false_iff_ne.mpr c7
   have c7b1 : (t215 != 0) = true := bne_iff_ne.mpr c7
   simp only [Option.some.injEq, Prod.mk.injEq] at H
   obtain ⟨rfl, rfl, rfl⟩ := H
   go_enter Try.func5, Try.ntmps5
   go_wp2_with (first | ((with_reducible refine gate_dst (N := 6) rfl ?_); refine box_event ?hg (N := 6) ?hd (cs := #[.int .i64 0, .int .i64 0, .slice none 0 0]) (t := 26) ?hr ?_; (case hd => rfl); (case hg => rfl); (case hr => first | (go_simp; done) | (go_simp; rfl)); intro a2 hg w21 hbox hb; have n0_ := Aside0.mk (lP_ (by repeat (first | (with_reducible first | exact HB.out | apply lA1_ | apply lN_ | apply lD_) | exact HB.out)) hb); have n1_ := Aside0.mk (hbox); have n3_ := Aside0.mk ((by rw [hg]; exact (below_size (by repeat (first | (with_reducible first | exact HB.out | apply lA1_ | apply lN_ | apply lD_) | exact HB.out))) : w.heap.size ≤ a2)); clear HB; have HB := n0_; have a0 := n1_; have a3 := n3_; clear n0_ n1_ n3_ hb hbox hg) | ((with_reducible refine gate_callee (f := 13) rfl ?_); refine goesA_ (some 10) rfl rfl Try.func13 (by kernel_rfl) rfl #[.slice A0 l0.length c0] rfl ?_; (with_reducible refine (spec_TermsFault.calls k _ _ l0 t214 _ ?side1 ?side2 A4.out).mono ?_); (case side1 => repeat (first | exact (Kd.C_below a4.out HB.out) | (with_reducible refine Kd.C_alloc ?_ _) | (with_reducible refine Kd.C_drewN ?_ _) | (with_reducible refine Kd.C_drew ?_))); (case side2 => exact a5.out); rintro e w22 ⟨rfl, hb⟩; refine ⟨_, rfl, ?_⟩; have n0_ := Aside0.mk (bB_ a0.out hb); have n1_ := Aside0.mk (lP_ HB.out hb); clear a0 HB; have a0 := n0_; have HB := n1_; clear n0_ n1_; (try clear hb); (try clear hb2); (try clear hk); (try clear hi)) | ((with_reducible refine gate_callee (f := 13) rfl ?_); refine goesA_ (some 16) rfl rfl Try.func13 (by kernel_rfl) rfl #[.slice A2 l2.length c2] rfl ?_; (with_reducible refine (spec_TermsFault.calls k _ _ l2 t215 _ ?side1 ?side2 A6.out).mono ?_); (case side1 => repeat (first | exact (Kd.C_below a6.out HB.out) | (with_reducible refine Kd.C_alloc ?_ _) | (with_reducible refine Kd.C_drewN ?_ _) | (with_reducible refine Kd.C_drew ?_))); (case side2 => exact a7.out); rintro e w23 ⟨rfl, hb⟩; refine ⟨_, rfl, ?_⟩; have n0_ := Aside0.mk (bB_ a0.out hb); have n1_ := Aside0.mk (lP_ HB.out hb); clear a0 HB; have a0 := n0_; have HB := n1_; clear n0_ n1_; (try clear hb); (try clear hb2); (try clear hk); (try clear hi); obtain ⟨_, _, _, _, _, _⟩ := bc3 a0.out))
   refine bodyPost_ret (results_cell_row rfl _ _ a2 26 #[.int .i64 t215, .int .i64 0, .slice none 0 0] (0, 0) _ rfl (by (with_reducible repeat first | apply bN_ | apply bD_ | apply bA_); apply fill3; (with_reducible repeat first | apply bN_ | apply bD_ | apply bA_); exact a0.out) Try.underlying26 rfl (by kernel_rfl)) rfl ?_
   exact ⟨_, by first | rfl | (simp [errW_none, errW_some] <;> rfl) | (simp [*, errW_none, errW_some] <;> rfl), by first | exact Kd.R_nil _ _ _ _ _ | exact Kd.N_nil _ _ _ _ _ | exact Kd.V_nil _ _ _ _ _ | exact Kd.Q_nil _ _ _ _ _ | exact Kd.S_nil _ _ _ _ _, by repeat (first | (with_reducible first | exact HB.out | apply lA1_ | apply lN_ | apply lD_ | refine lS1_ ?_ a3.out) | exact HB.out)⟩
 ·rw [if_neg c5] at H
  have c5b0 : (t214 == 0) = false := beq_eq_false_iff_ne.mpr c5
  have c5b1 : (t214 != 0) = true := bne_iff_ne.mpr c5
  simp only [Option.some.injEq, Prod.mk.injEq] at H
  obtain ⟨rfl, rfl, rfl⟩ := H
  go_enter Try.func5, Try.ntmps5
  go_wp2_with (first | ((with_reducible refine gate_dst (N := 6) rfl ?_); refine box_event ?hg (N := 6) ?hd (cs := #[.int .i64 0, .int .i64 0, .slice none 0 0]) (t := 26) ?hr ?_; (case hd => rfl); (case hg => rfl); (case hr => first | (go_simp; done) | (go_simp; rfl)); intro a2 hg w25 hbox hb; have n0_ := Aside0.mk (lP_ (by repeat (first | (with_reducible first | exact HB.out | apply lA1_ | apply lN_ | apply lD_) | exact HB.out)) hb); have n1_ := Aside0.mk (hbox); have n3_ := Aside0.mk ((by rw [hg]; exact (below_size (by repeat (first | (with_reducible first | exact HB.out | apply lA1_ | apply lN_ | apply lD_) | exact HB.out))) : w.heap.size ≤ a2)); clear HB; have HB := n0_; have a0 := n1_; have a3 := n3_; clear n0_ n1_ n3_ hb hbox hg) | ((with_reducible refine gate_callee (f := 13) rfl ?_); refine goesA_ (some 10) rfl rfl Try.func13 (by kernel_rfl) rfl #[.slice A0 l0.length c0] rfl ?_; (with_reducible refine (spec_TermsFault.calls k _ _ l0 t214 _ ?side1 ?side2 A4.out).mono ?_); (case side1 => repeat (first | exact (Kd.C_below a4.out HB.out) | (with_reducible refine Kd.C_alloc ?_ _) | (with_reducible refine Kd.C_drewN ?_ _) | (with_reducible refine Kd.C_drew ?_))); (case side2 => exact a5.out); rintro e w26 ⟨rfl, hb⟩; refine ⟨_, rfl, ?_⟩; have n0_ := Aside0.mk (bB_ a0.out hb); have n1_ := Aside0.mk (lP_ HB.out hb); clear a0 HB; have a0 := n0_; have HB := n1_; clear n0_ n1_; (try clear hb); (try clear hb2); (try clear hk); (try clear hi); obtain ⟨_, _, _, _, _, _⟩ := bc3 a0.out))
  refine bodyPost_ret (results_cell_row rfl _ _ a2 26 #[.int .i64 t214, .int .i64 0, .slice none 0 0] (0, 0) _ rfl (by (with_reducible repeat first | apply bN_ | apply bD_ | apply bA_); apply fill3; (with_reducible repeat first | apply bN_ | apply bD_ | apply bA_); exact a0.out) Try.underlying26 rfl (by kernel_rfl)) rfl ?_
  exact ⟨_, by first | rfl | (simp [errW_none, errW_some] <;> rfl) | (simp [*, errW_none, errW_some] <;> rfl), by first | exact Kd.R_nil _ _ _ _ _ | exact Kd.N_nil _ _ _ _ _ | exact Kd.V_nil _ _ _ _ _ | exact Kd.Q_nil _ _ _ _ _ | exact Kd.S_nil _ _ _ _ _, by repeat (first | (with_reducible first | exact HB.out | apply lA1_ | apply lN_ | apply lD_ | refine lS1_ ?_ a3.out) | exact HB.out)⟩
def laws_toTerm.f (a0_0 : Int) (a0_1 : Int) (a0_2 : Int) (a0_3 : Int) : Option (Int × Int × Int × Int) := some (a0_0, a0_1, a0_2, a0_3)
set_option maxHeartbeats 8000000 in
set_option maxRecDepth 100000 in
theorem laws_toTerm.calls (a0_0 : Int) (a0_1 : Int) (a0_2 : Int) (a0_3 : Int) (r1 : Int) (r2 : Int) (r3 : Int) (r4 : Int) (w : World) (h : laws_toTerm.f a0_0 a0_1 a0_2 a0_3 = some (r1, r2, r3, r4)) :
  Calls Try.prog 16 #[.agg #[.int .i64 a0_0, .int .i64 a0_1, .int .i64 a0_2, .int .i64 a0_3]] w fun e w' => e = .returned (.agg #[.int .i64 r1, .int .i64 r2, .int .i64 r3, .int .i64 r4]) ∧ Below w.heap.size w w' := by
 have hu39 := Try.underlying39
 have hu37 := Try.underlying37
 have HB := Aside0.mk (Below.refl w.heap.size w)
 have H : (some (a0_0, a0_1, a0_2, a0_3)) = some (r1, r2, r3, r4) := h
 clear h
 simp only [Option.some.injEq, Prod.mk.injEq] at H
 obtain ⟨rfl, rfl, rfl, rfl⟩ := H
 go_enter Try.func16, Try.ntmps16
 go_wp2_with (first | ((with_reducible refine gate_dst (N := 1) rfl ?_); refine box_event ?hg (N := 1) ?hd (cs := #[.int .i64 a0_0, .int .i64 a0_1, .int .i64 a0_2, .int .i64 a0_3]) (t := 39) ?hr ?_; (case hd => rfl); (case hg => rfl); (case hr => first | (go_simp; done) | (go_simp; rfl)); intro gb222 hg w2 hbox hb; have n0_ := Aside0.mk (lP_ HB.out hb); have n1_ := Aside0.mk (hbox); have n3_ := Aside0.mk ((by rw [hg]; exact (below_size HB.out) : w.heap.size ≤ gb222)); clear HB; have HB := n0_; have BK222 := n1_; have GE222 := n3_; clear n0_ n1_ n3_ hb hbox hg) | ((with_reducible refine gate_dst (N := 2) rfl ?_); refine box_event ?hg (N := 2) ?hd (cs := #[.int .i64 0, .int .i64 0, .int .i64 0, .int .i64 0]) (t := 37) ?hr ?_; (case hd => rfl); (case hg => rfl); (case hr => first | (go_simp; done) | (go_simp; rfl)); intro gb223 hg w3 hbox hb; have n0_ := Aside0.mk (bB_ BK222.out hb); have n1_ := Aside0.mk (lP_ HB.out hb); have n2_ := Aside0.mk (hbox); have n4_ := Aside0.mk ((by rw [hg]; exact (below_size HB.out) : w.heap.size ≤ gb223)); have n5_ := Aside0.mk ((by rw [hg]; exact Nat.ne_of_lt (blk_lt BK222.out) : gb222 ≠ gb223)); have n6_ := Aside0.mk n5_.out.symm; clear BK222 HB; have BK222 := n0_; have HB := n1_; have BK223 := n2_; have GE223 := n4_; have NB222_223 := n5_; have NB223_222 := n6_; clear n0_ n1_ n2_ n4_ n5_ n6_ hb hbox hg) | ((with_reducible refine gate_dst (N := 3) rfl ?_); refine box_event ?hg (N := 3) ?hd (cs := #[.int .i64 0, .int .i64 0, .int .i64 0, .int .i64 0]) (t := 37) ?hr ?_; (case hd => rfl); (case hg => rfl); (case hr => first | (go_simp; done) | (go_simp; rfl)); intro gb224 hg w4 hbox hb; have n0_ := Aside0.mk (bB_ BK222.out hb); have n1_ := Aside0.mk (bB_ BK223.out hb); have n2_ := Aside0.mk (lP_ HB.out hb); have n3_ := Aside0.mk (hbox); have n5_ := Aside0.mk ((by rw [hg]; exact (below_size HB.out) : w.heap.size ≤ gb224)); have n6_ := Aside0.mk ((by rw [hg]; exact Nat.ne_of_lt (blk_lt BK222.out) : gb222 ≠ gb224)); have n7_ := Aside0.mk n6_.out.symm; have n8_ := Aside0.mk ((by rw [hg]; exact Nat.ne_of_lt (blk_lt BK223.out) : gb223 ≠ gb224)); have n9_ := Aside0.mk n8_.out.symm; clear BK222 BK223 HB; have BK222 := n0_; have BK223 := n1_; have HB := n2_; have BK224 := n3_; have GE224 := n5_; have NB222_224 := n6_; have NB224_222 := n7_; have NB223_224 := n8_; have NB224_223 := n9_; clear n0_ n1_ n2_ n3_ n5_ n6_ n7_ n8_ n9_ hb hbox hg; have hnb5 := NB222_223.out; have hnc5 := NB223_222.out; have hnb6 := NB222_224.out; have hnc6 := NB224_222.out; obtain ⟨_, _, _, _, _, _, _, _⟩ := bc4 BK222.out; have hnb8 := NB224_223.out; have hnc8 := NB223_224.out; obtain ⟨_, _, _, _, _, _, _, _⟩ := bc4 BK224.out; obtain ⟨_, _, _, _, _, _, _, _⟩ := bc4 BK223.out))
 refine bodyPost_ret (results_cell_row rfl _ _ gb223 37 #[.int .i64 a0_0, .int .i64 a0_1, .int .i64 a0_2, .int .i64 a0_3] (0, 0) _ rfl (by (with_reducible repeat first | apply bN_ | apply bD_ | apply bA_); apply fill4; (iterate 4 ((with_reducible repeat first | apply bN_ | apply bD_ | apply bA_); refine bF_ ?_ NB223_224.out _)); (with_reducible repeat first | apply bN_ | apply bD_ | apply bA_); exact BK223.out) Try.underlying37 rfl (by kernel_rfl)) rfl ?_
 exact ⟨by first | rfl | (simp [errW_none, errW_some] <;> rfl) | (simp [*, errW_none, errW_some] <;> rfl), by repeat (first | (with_reducible first | exact HB.out | apply lA1_ | apply lN_ | apply lD_ | refine lS1_ ?_ GE222.out | refine lS1_ ?_ GE223.out | refine lS1_ ?_ GE224.out) | exact HB.out)⟩
def laws_toTermS.l0 : Nat → List (S39) → List (S37) → Int → Option ((List (S37)))
 | 0, _, _, _ => none
 | k + 1, x0, x3, x4 => if x4 < (x0.length : Int) then (if 0 ≤ x4 then ((laws_toTerm.f ((rd_T39 x0 x4).f0) ((rd_T39 x0 x4).f1) ((rd_T39 x0 x4).f2) ((rd_T39 x0 x4).f3)).bind fun bt229 => (if x4 < (x3.length : Int) then (laws_toTermS.l0 k x0 (x3.set (x4 : Int).toNat (⟨bt229.1, bt229.2.1, bt229.2.2.1, bt229.2.2.2⟩ : S37)) (wrap64 (x4 + 1))) else (none))) else (none)) else (some x3)
def laws_toTermS.f (k : Nat) (l0 : List (S39)) : Option ((List (S37))) := if 0 ≤ (l0.length : Int) then (if ((l0.length : Int) : Int).toNat ≤ 8796093022208 then (laws_toTermS.l0 k l0 (List.replicate ((l0.length : Int) : Int).toNat z37) 0) else (none)) else (none)
set_option maxHeartbeats 8000000 in
set_option maxRecDepth 100000 in
theorem laws_toTermS.calls (k : Nat) (A0 : Option Addr) (c0 : Nat) (l0 : List (S39)) (r : List (S37)) (w : World) (hr0 : Kd.C k39 w A0 l0.length l0) (hc0 : l0.length ≤ c0) (h : laws_toTermS.f k l0 = some r) :
  Calls Try.prog 6 #[.slice A0 l0.length c0] w fun e w' => ∃ v0_ : Value, e = .returned (v0_) ∧ Kd.R k37 37 w' w.heap.size (fun _ => True) v0_ r ∧ Below w.heap.size w w' := by
 have hu39 := Try.underlying39
 have hu37 := Try.underlying37
 have a8 := Aside0.mk hr0
 have a9 := Aside0.mk hc0
 clear hr0 hc0
 have HB := Aside0.mk (Below.refl w.heap.size w)
 have H : (if 0 ≤ (l0.length : Int) then (if ((l0.length : Int) : Int).toNat ≤ 8796093022208 then (laws_toTermS.l0 k l0 (List.replicate ((l0.length : Int) : Int).toNat z37) 0) else (none)) else (none)) = some r := h
 clear h
 by_cases c2 : 0 ≤ (l0.length : Int)
 ·rw [if_pos c2] at H
  have c2b0 := eq_true c2
  have c2b1 : decide (0 ≤ (l0.length : Int)) = true := decide_eq_true c2
  clear c2
  by_cases c3 : ((l0.length : Int) : Int).toNat ≤ 8796093022208
  ·rw [if_pos c3] at H
   have c3b0 := eq_true c3
   have c3b1 : decide (((l0.length : Int) : Int).toNat ≤ 8796093022208) = true := decide_eq_true c3
   clear c3
   obtain ⟨y225, hy225⟩ : ∃ y_ : List (S37), y_ = (List.replicate ((l0.length : Int) : Int).toNat z37) := ⟨_, rfl⟩
   replace H : (laws_toTermS.l0 k l0 y225 0) = some r := by first | (rw [hy225]; with_reducible exact H) | (have H2_ := (Option.bind_some _ _).symm.trans H; rw [hy225]; with_reducible exact H2_) | (have H2_ := (Option.bind_some _ _).symm.trans H; with_reducible exact H2_) | with_reducible exact H | (rw [hy225]; exact H) | exact H
   have a2 := Aside0.mk hy225
   clear hy225
   have H' := Aside0.mk H
   clear H
   go_enter Try.func6, Try.ntmps6
   go_wp2_with (first | ((with_reducible refine gate_dst (N := 7) rfl ?_); refine Kd.R_make k37 _ 37 rfl (N := 7) rfl 24 _ _ rfl (l0.length : Int) rfl rfl Try.underlying24 (.agg #[(.int .i64 0), (.int .i64 0), (.int .i64 0), (.int .i64 0)]) 32 info37 rfl (by decide) (by omega) z37 (ok := fun _ => True) (okp := fun _ => True) (k37_mkM _ _ _ z37 ) (fun _ hk => hk) trivial (of_decide_eq_true (by first | (with_reducible assumption) | assumption)) (Nat.le_trans (Nat.mul_le_mul_right _ (of_decide_eq_true (by first | (with_reducible assumption) | assumption) : (l0.length : Int).toNat ≤ 8796093022208)) (by omega)) (Below.refl _ _) (Nat.le_refl _) ?_; intro v226 w4 ho5 hb hg_ hnew_; clear hg_ hnew_; (first | rw [← a2.out] at ho5 | (simp only [Int.reduceToNat] at ho5; rw [← a2.out] at ho5)); have n0_ := Aside0.mk (Kd.R_lower ho5 (below_size HB.out)); have n1_ := Aside0.mk (lP_ HB.out hb); clear HB; have a5 := n0_; have HB := n1_; clear n0_ n1_ hb ho5))
   go_loopg [4] k (fun kq v4 w' => ∃ (x3_1 : List (S37)) (x4_1 : Int), v4 = .int .i64 x4_1 ∧ Aside0 (laws_toTermS.l0 kq l0 x3_1 x4_1 = some r) ∧ Aside0 (kq ≤ k) ∧ Aside0 (Kd.R k37 37 w' w.heap.size (fun _ => True) v226 x3_1) ∧ Aside0 (Below w.heap.size w w'))
   case atStart => exact ⟨(y225), (0), (by first | rfl | (simp; done) | (simp [*]; done)), H', ⟨Nat.le_refl _⟩, ⟨by (with_reducible repeat first | apply rA_ | apply rN_ | apply rD_); exact a5.out⟩, ⟨by repeat (first | (with_reducible first | exact HB.out | apply lA1_ | apply lN_ | apply lD_) | exact HB.out)⟩⟩
   case round =>
    clear H'
    try clear c2
    try clear c2b0
    try clear c2b1
    try clear p2
    try clear c3
    try clear c3b0
    try clear c3b1
    obtain ⟨x3_1, x4_1, rfl, HA, HK1, a0, HB⟩ := hrel
    cases gk with
    | zero => exact absurd HA.out (by simp [laws_toTermS.l0])
    | succ k1 =>
     have H := HA.out
     clear HA
     simp only [laws_toTermS.l0] at H
     by_cases c6 : x4_1 < (l0.length : Int)
     ·rw [if_pos c6] at H
      have c6b0 : decide (x4_1 < (l0.length : Int)) = true := decide_eq_true c6
      clear c6
      by_cases c7 : 0 ≤ x4_1
      ·rw [if_pos c7] at H
       have c7b0 : decide (0 ≤ x4_1) = true := decide_eq_true c7
       clear c7
       replace H := Option.bind_eq_some_iff.mp H
       obtain ⟨⟨t229, t230, t231, t232⟩, a7, H⟩ := H
       try dsimp only at H
       have A8 := Aside0.mk a7
       clear a7
       by_cases c9 : x4_1 < (x3_1.length : Int)
       ·rw [if_pos c9] at H
        have c9b0 : decide (x4_1 < (x3_1.length : Int)) = true := decide_eq_true c9
        clear c9
        obtain ⟨y233, hy233⟩ : ∃ y_ : List (S37), y_ = (x3_1.set (x4_1 : Int).toNat (⟨t229, t230, t231, t232⟩ : S37)) := ⟨_, rfl⟩
        replace H : (laws_toTermS.l0 k1 l0 y233 (wrap64 (x4_1 + 1))) = some r := by first | (rw [hy233]; with_reducible exact H) | (have H2_ := (Option.bind_some _ _).symm.trans H; rw [hy233]; with_reducible exact H2_) | (have H2_ := (Option.bind_some _ _).symm.trans H; with_reducible exact H2_) | with_reducible exact H | (rw [hy233]; exact H) | exact H
        have a6 := Aside0.mk hy233
        clear hy233
        have H' := Aside0.mk H
        clear H
        have p228 : 0 ≤ (x4_1 : Int) := of_decide_eq_true (by first | (with_reducible assumption) | assumption)
        have q228 : x4_1 < (l0.length : Int) := of_decide_eq_true (by first | (with_reducible assumption) | assumption)
        obtain ⟨ad228, e228, hx228_0, hx228_1, hx228_2, hx228_3⟩ := at_T39 a8.out x4_1 p228 q228
        cases e228
        replace hx228_0 := (HB.out.cell (World.block_lt_of_cell? w _ hx228_0)).trans hx228_0
        replace hx228_1 := (HB.out.cell (World.block_lt_of_cell? w _ hx228_1)).trans hx228_1
        replace hx228_2 := (HB.out.cell (World.block_lt_of_cell? w _ hx228_2)).trans hx228_2
        replace hx228_3 := (HB.out.cell (World.block_lt_of_cell? w _ hx228_3)).trans hx228_3
        replace p228 := eq_true p228
        replace q228 := eq_true q228
        go_wp2_with (first | ((with_reducible refine gate_callee (f := 16) rfl ?_); refine goesA_ (some 20) rfl rfl Try.func16 (by kernel_rfl) rfl #[.agg #[.int .i64 ((rd_T39 l0 x4_1).f0), .int .i64 ((rd_T39 l0 x4_1).f1), .int .i64 ((rd_T39 l0 x4_1).f2), .int .i64 ((rd_T39 l0 x4_1).f3)]] rfl ?_; (with_reducible refine (laws_toTerm.calls ((rd_T39 l0 x4_1).f0) ((rd_T39 l0 x4_1).f1) ((rd_T39 l0 x4_1).f2) ((rd_T39 l0 x4_1).f3) t229 t230 t231 t232 _ A8.out).mono ?_); rintro e w11 ⟨rfl, hb⟩; refine ⟨_, rfl, ?_⟩; have n0_ := Aside0.mk (Kd.R_below a0.out hb); have n1_ := Aside0.mk (lP_ HB.out hb); clear a0 HB; have a0 := n0_; have HB := n1_; clear n0_ n1_; (try clear hb); (try clear hb2); (try clear hk); (try clear hi); have p10 : 0 ≤ (x4_1 : Int) := of_decide_eq_true (by first | (with_reducible assumption) | assumption); have q10 : (x4_1 : Int) < ((x3_1.length : Int) : Int) := of_decide_eq_true (by first | (with_reducible assumption) | assumption); obtain ⟨go10, a3, eo10, a4, gl10, cl10, HG10⟩ := Kd.R_form a0.out (by omega); (first | cases eo10 | (injection eo10 with ea_ en_ ec_; (first | subst ea_ | (injection ea_ with ea_; subst ea_)); subst ec_; clear en_)); have a1 := Aside0.mk a4; have GG10 := Aside0.mk HG10; clear a4 gl10 HG10; obtain ⟨ce10, hcl10, hM10, hcc10, hfr10⟩ := Kd.R_elem a0.out z37 (x4_1 : Int) p10 q10; obtain rfl := k37_openM hM10; have hx10_0 : w11.cell? ⟨go10, (x4_1 : Int).toNat * 4, none⟩ = some (.int .i64 ((rd_T37 x3_1 x4_1).f0)) := hcc10 0 _ rfl; have hx10_1 : w11.cell? ⟨go10, (x4_1 : Int).toNat * 4 + 1, none⟩ = some (.int .i64 ((rd_T37 x3_1 x4_1).f1)) := hcc10 1 _ rfl; have hx10_2 : w11.cell? ⟨go10, (x4_1 : Int).toNat * 4 + 2, none⟩ = some (.int .i64 ((rd_T37 x3_1 x4_1).f2)) := hcc10 2 _ rfl; have hx10_3 : w11.cell? ⟨go10, (x4_1 : Int).toNat * 4 + 3, none⟩ = some (.int .i64 ((rd_T37 x3_1 x4_1).f3)) := hcc10 3 _ rfl; have hf10_0 : w11.frozen? ⟨go10, (x4_1 : Int).toNat * 4, none⟩ = false := hfr10 0; have hf10_1 : w11.frozen? ⟨go10, (x4_1 : Int).toNat * 4 + 1, none⟩ = false := hfr10 1; have hf10_2 : w11.frozen? ⟨go10, (x4_1 : Int).toNat * 4 + 2, none⟩ = false := hfr10 2; have hf10_3 : w11.frozen? ⟨go10, (x4_1 : Int).toNat * 4 + 3, none⟩ = false := hfr10 3; clear hcl10 hcc10 hfr10 hM10; replace p10 := eq_true p10; replace q10 := eq_true q10; have HX12 := Aside0.mk (show Kd.R k37 37 w11 w.heap.size (fun _ => True) (.slice (some ⟨go10, 0, none⟩) x3_1.length a3) x3_1 from a0.out); obtain ⟨ce12, hcl12, hM12, hcc12, hfr12⟩ := Kd.R_elem HX12.out z37 (x4_1 : Int) (of_decide_eq_true (by first | (with_reducible assumption) | assumption)) (by have h_ : (x4_1 : Int) < ((x3_1.length : Int) : Int) := of_decide_eq_true (by first | (with_reducible assumption) | assumption); first | exact h_ | (have e_ := (Kd.R_reads' a0.out).1; omega) | simpa using h_); obtain rfl := k37_openM hM12; have HP12 := Kd.R_seg HX12.out (x4_1 : Int) (of_decide_eq_true (by first | (with_reducible assumption) | assumption)) (by have h_ : (x4_1 : Int) < ((x3_1.length : Int) : Int) := of_decide_eq_true (by first | (with_reducible assumption) | assumption); first | exact h_ | (have e_ := (Kd.R_reads' a0.out).1; omega) | simpa using h_) (seg := [.int .i64 t229, .int .i64 t230, .int .i64 t231, .int .i64 t232]) (j := 0) hcl12 hcc12 (show 4 ≤ 4 from by decide) (x' := (⟨t229, t230, t231, t232⟩ : S37)) (k37_mkM _ _ _ (⟨t229, t230, t231, t232⟩ : S37) ) (fun _ hk => hk); have hx12_0 := hcc12 0 _ rfl; (try simp only [show (k37).sz = 4 from rfl, Nat.mul_one, Nat.add_zero] at hx12_0); have hf12_0 := hfr12 0; (try simp only [show (k37).sz = 4 from rfl, Nat.mul_one, Nat.add_zero] at hf12_0); have hx12_1 := hcc12 1 _ rfl; (try simp only [show (k37).sz = 4 from rfl, Nat.mul_one, Nat.add_zero] at hx12_1); have hf12_1 := hfr12 1; (try simp only [show (k37).sz = 4 from rfl, Nat.mul_one, Nat.add_zero] at hf12_1); have hx12_2 := hcc12 2 _ rfl; (try simp only [show (k37).sz = 4 from rfl, Nat.mul_one, Nat.add_zero] at hx12_2); have hf12_2 := hfr12 2; (try simp only [show (k37).sz = 4 from rfl, Nat.mul_one, Nat.add_zero] at hf12_2); have hx12_3 := hcc12 3 _ rfl; (try simp only [show (k37).sz = 4 from rfl, Nat.mul_one, Nat.add_zero] at hx12_3); have hf12_3 := hfr12 3; (try simp only [show (k37).sz = 4 from rfl, Nat.mul_one, Nat.add_zero] at hf12_3); clear hcl12 hcc12 hfr12 hM12) | ((with_reducible refine gate_store (t := 37) (p := 21) rfl ?_); refine store_event (t := 37) (p := 21) (v := ?vo_w13) (w1 := ((((w11.setCell ⟨go10, (x4_1 : Int).toNat * 4, none⟩ (.int .i64 t229)).setCell ⟨go10, (x4_1 : Int).toNat * 4 + 1, none⟩ (.int .i64 t230)).setCell ⟨go10, (x4_1 : Int).toNat * 4 + 2, none⟩ (.int .i64 t231)).setCell ⟨go10, (x4_1 : Int).toNat * 4 + 3, none⟩ (.int .i64 t232))) ?hg ?ho ?hn ?hr ?_; (case ho => rfl); (case hg => rfl); (case hn => rfl); (case hr => first | (go_simp; done) | (go_simp; rfl)); intro w13 hw; have hg : w11.grownBy w13 (some go10) := (by rw [hw]; exact HP12.2); have hp_ : Kd.R k37 37 w13 w.heap.size (fun _ => True) (.slice (some ⟨go10, 0, none⟩) x3_1.length a3) y233 := (by rw [hw, a6.out]; exact HP12.1); clear HP12; have n0_ := Aside0.mk (hp_); have n1_ := Aside0.mk ((by rw [hw]; exact lS1_ (lS1_ (lS1_ (lS1_ (HB.out) a1.out) a1.out) a1.out) a1.out : Below w.heap.size w w13)); clear a0 HB; have a0 := n0_; have HB := n1_; clear n0_ n1_ hg hw hp_))
        go_roundg k1
        case measure => have := HK1.out; omega
        case rel => exact ⟨(y233), (wrap64 (x4_1 + 1)), (by first | rfl | (simp; done) | (simp [*]; done)), H', ⟨by have := HK1.out; omega⟩, ⟨by (with_reducible repeat first | apply rA_ | apply rN_ | apply rD_); exact a0.out⟩, ⟨by repeat (first | (with_reducible first | exact HB.out | apply lA1_ | apply lN_ | apply lD_) | exact HB.out)⟩⟩
       ·rw [if_neg c9] at H
        exact absurd H (by simp)
      ·rw [if_neg c7] at H
       exact absurd H (by simp)
     ·rw [if_neg c6] at H
      have c6b0 : decide (x4_1 < (l0.length : Int)) = false := decide_eq_false c6
      clear c6
      obtain rfl := Option.some.inj H
      go_wp2
      go_ret
      exact ⟨_, by first | rfl | (simp [errW_none, errW_some] <;> rfl) | (simp [*, errW_none, errW_some] <;> rfl), by (with_reducible repeat first | apply rA_ | apply rN_ | apply rD_); exact a0.out, by repeat (first | (with_reducible first | exact HB.out | apply lA1_ | apply lN_ | apply lD_) | exact HB.out)⟩
  ·rw [if_neg c3] at H
   exact absurd H (by simp)
 ·rw [if_neg c2] at H
  exact absurd H (by simp)
def impl_faultOf.l0 : Nat → List Int → Int → Int → Option (Int)
 | 0, _, _, _ => none
 | k + 1, x5, x6, x7 => if x7 < x6 then (if 0 ≤ x7 then (if x7 < (x5.length : Int) then (if (rd x5 x7) = 0 then (impl_faultOf.l0 k x5 x6 (wrap64 (x7 + 1))) else (some (rd x5 x7))) else (none)) else (none)) else (some 0)
def impl_faultOf.f (k : Nat) (l0 : List Int) : Option (Int) := impl_faultOf.l0 k l0 (l0.length : Int) 0
set_option maxHeartbeats 8000000 in
set_option maxRecDepth 100000 in
theorem impl_faultOf.calls (k : Nat) (A0 : Option Addr) (c0 : Nat) (l0 : List Int) (r : Int) (w : World) (hr0 : Kd.C (Kd.int .i64) w A0 l0.length l0) (hc0 : l0.length ≤ c0) (h : impl_faultOf.f k l0 = some r) :
  Calls Try.prog 17 #[.slice A0 l0.length c0] w fun e w' => e = .returned (.int .i64 r) ∧ Drawn0 w w' := by
 have HR0 := Aside0.mk hr0
 have HC0 := Aside0.mk hc0
 clear hr0 hc0
 have H : (impl_faultOf.l0 k l0 (l0.length : Int) 0) = some r := h
 clear h
 have H' := Aside0.mk H
 clear H
 go_enter Try.func17, Try.ntmps17
 go_wp2
 go_loopg [7] k (fun kq v7 w' => ∃ (x7_1 : Int), v7 = .int .i64 x7_1 ∧ Aside0 (impl_faultOf.l0 kq l0 (l0.length : Int) x7_1 = some r) ∧ Aside0 (kq ≤ k) ∧ Drawn0 w w')
 case atStart => exact ⟨(0), (by first | rfl | (simp; done) | (simp [*]; done)), H', ⟨Nat.le_refl _⟩, by repeat (first | exact Drawn0.refl _ | apply Drawn0.step)⟩
 case round =>
  clear H'
  try clear c1
  obtain ⟨x7_1, rfl, HA, HK1, ⟨m1, rfl⟩⟩ := hrel
  cases gk with
  | zero => exact absurd HA.out (by simp [impl_faultOf.l0])
  | succ k1 =>
   have H := HA.out
   clear HA
   simp only [impl_faultOf.l0] at H
   by_cases c2 : x7_1 < (l0.length : Int)
   ·rw [if_pos c2] at H
    have c2b0 : decide (x7_1 < (l0.length : Int)) = true := decide_eq_true c2
    clear c2
    by_cases c3 : 0 ≤ x7_1
    ·rw [if_pos c3] at H
     have c3b0 : decide (0 ≤ x7_1) = true := decide_eq_true c3
     clear c3
     by_cases c4 : x7_1 < (l0.length : Int)
     ·rw [if_pos c4] at H
      have c4b0 : decide (x7_1 < (l0.length : Int)) = true := decide_eq_true c4
      clear c4
      by_cases c5 : (rd l0 x7_1) = 0
      ·rw [if_pos c5] at H
       have c5b0 : ((rd l0 x7_1) == 0) = true := beq_iff_eq.mpr c5
       have c5b1 : ((rd l0 x7_1) != 0) = false := bne_eq_false_iff_eq.mpr c5
       clear c5
       have H' := Aside0.mk H
       clear H
       have p234 : 0 ≤ (x7_1 : Int) := of_decide_eq_true (by first | (with_reducible assumption) | assumption)
       have q234 : x7_1 < (l0.length : Int) := of_decide_eq_true (by first | (with_reducible assumption) | assumption)
       obtain ⟨ad234, e234, hx234_0⟩ := Kd.at_int HR0.out x7_1 p234 q234
       cases e234
       replace p234 := eq_true p234
       replace q234 := eq_true q234
       go_wp2
       go_roundg k1
       case measure => have := HK1.out; omega
       case rel => exact ⟨(wrap64 (x7_1 + 1)), (by first | rfl | (simp; done) | (simp [*]; done)), H', ⟨by have := HK1.out; omega⟩, by repeat (first | exact Drawn0.refl _ | apply Drawn0.step)⟩
      ·rw [if_neg c5] at H
       have c5b0 : ((rd l0 x7_1) == 0) = false := beq_eq_false_iff_ne.mpr c5
       have c5b1 : ((rd l0 x7_1) != 0) = true := bne_iff_ne.mpr c5
       obtain rfl := Option.some.inj H
       have p234 : 0 ≤ (x7_1 : Int) := of_decide_eq_true (by first | (with_reducible assumption) | assumption)
       have q234 : x7_1 < (l0.length : Int) := of_decide_eq_true (by first | (with_reducible assumption) | assumption)
       obtain ⟨ad234, e234, hx234_0⟩ := Kd.at_int HR0.out x7_1 p234 q234
       cases e234
       replace p234 := eq_true p234
       replace q234 := eq_true q234
       go_wp2
       go_ret
       exact ⟨by first | rfl | (simp; done) | (simp [*]; done), by repeat (first | exact Drawn0.refl _ | apply Drawn0.step)⟩
     ·rw [if_neg c4] at H
      exact absurd H (by simp)
    ·rw [if_neg c3] at H
     exact absurd H (by simp)
   ·rw [if_neg c2] at H
    have c2b0 : decide (x7_1 < (l0.length : Int)) = false := decide_eq_false c2
    clear c2
    obtain rfl := Option.some.inj H
    go_wp2
    go_ret
    exact ⟨by first | rfl | (simp; done) | (simp [*]; done), by repeat (first | exact Drawn0.refl _ | apply Drawn0.step)⟩
def impl_namesOf.j0 : Nat → Int → Bool → Option (Bool × Bool × Bool)
 | 0, _, _ => none
 | k + 1, x3, x4 => if x4 = true then (some (false, false, true)) else (if x3 = 6 then (some (true, false, false)) else (some (true, true, false)))
def impl_namesOf.f (k : Nat) (a0 : Int) : Option (Bool × Bool × Bool) := if a0 = 1 then (impl_namesOf.j0 k a0 (a0 == 1)) else (impl_namesOf.j0 k a0 (a0 == 2))
set_option maxHeartbeats 8000000 in
set_option maxRecDepth 100000 in
theorem impl_namesOf.calls (k : Nat) (a0 : Int) (r1 : Bool) (r2 : Bool) (r3 : Bool) (w : World) (h : impl_namesOf.f k a0 = some (r1, r2, r3)) :
  Calls Try.prog 22 #[.int .i64 a0] w fun e w' => e = .returned (.agg #[.bool r1, .bool r2, .bool r3]) ∧ Below w.heap.size w w' := by
 have hu47 := Try.underlying47
 have HB := Aside0.mk (Below.refl w.heap.size w)
 have H : (if a0 = 1 then (impl_namesOf.j0 k a0 (a0 == 1)) else (impl_namesOf.j0 k a0 (a0 == 2))) = some (r1, r2, r3) := h
 clear h
 have a4 := Aside0.mk H
 clear H
 go_enter Try.func22, Try.ntmps22
 go_upto_if 4 with (first | ((with_reducible refine gate_dst (N := 2) rfl ?_); refine box_event ?hg (N := 2) ?hd (cs := #[.bool false, .bool false, .bool false]) (t := 47) ?hr ?_; (case hd => rfl); (case hg => rfl); (case hr => first | (go_simp; done) | (go_simp; rfl)); intro a2 hg w3 hbox hb; have n0_ := Aside0.mk (lP_ (by repeat (first | (with_reducible first | exact HB.out | apply lA1_ | apply lN_ | apply lD_) | exact HB.out)) hb); have n1_ := Aside0.mk (hbox); have n2_ := Aside0.mk ((by rw [hg]; exact (below_size (by repeat (first | (with_reducible first | exact HB.out | apply lA1_ | apply lN_ | apply lD_) | exact HB.out))) : w.heap.size ≤ a2)); have n3_ := Aside0.mk ((by rw [hg]; exact (below_size (by repeat (first | (with_reducible first | exact HB.out | apply lA1_ | apply lN_ | apply lD_) | exact HB.out))) : w.heap.size ≤ a2)); clear HB; have HB := n0_; have a1 := n1_; have a5 := n2_; have a3 := n3_; clear n0_ n1_ n2_ n3_ hb hbox hg))
 (try simp only [Act.put, lA_, lZ_, lS_])
 go_cut [4] (fun v4 wc => ∃ (kq : Nat) (x4_1 : Bool), v4 = .bool x4_1 ∧ Aside0 (impl_namesOf.j0 kq a0 x4_1 = some (r1, r2, r3)) ∧ Aside0 (kq ≤ k) ∧ Aside0 (wc.heap[a2]? = some (.cells #[.bool false, .bool false, .bool false] 47 (0, 0))) ∧ Aside0 (Below w.heap.size w wc))
 case first =>
  have H := a4.out
  clear a4
  by_cases c4 : a0 = 1
  ·rw [if_pos c4] at H
   have c4b0 : (a0 == 1) = true := beq_iff_eq.mpr c4
   have c4b1 : (a0 != 1) = false := bne_eq_false_iff_eq.mpr c4
   clear c4
   (first | rw [c4b0] | (simp only [i64_w, i32_w]; rw [c4b0]) | skip)
   have H' := Aside0.mk H
   clear H
   go_wp2
   go_meet
   case rel => exact ⟨_, ((a0 == 1)), (by first | rfl | (simp; done) | (simp [*]; done)), H', ⟨by first | omega | exact Nat.le_refl _⟩, ⟨by (with_reducible repeat first | apply bN_ | apply bD_ | apply bA_); exact a1.out⟩, ⟨by repeat (first | (with_reducible first | exact HB.out | apply lA1_ | apply lN_ | apply lD_ | refine lS1_ ?_ a3.out) | exact HB.out)⟩⟩
  ·rw [if_neg c4] at H
   have c4b0 : (a0 == 1) = false := beq_eq_false_iff_ne.mpr c4
   have c4b1 : (a0 != 1) = true := bne_iff_ne.mpr c4
   (first | rw [c4b0] | (simp only [i64_w, i32_w]; rw [c4b0]) | skip)
   have H' := Aside0.mk H
   clear H
   go_wp2
   go_meet
   case rel => exact ⟨_, ((a0 == 2)), (by first | rfl | (simp; done) | (simp [*]; done)), H', ⟨by first | omega | exact Nat.le_refl _⟩, ⟨by (with_reducible repeat first | apply bN_ | apply bD_ | apply bA_); exact a1.out⟩, ⟨by repeat (first | (with_reducible first | exact HB.out | apply lA1_ | apply lN_ | apply lD_ | refine lS1_ ?_ a3.out) | exact HB.out)⟩⟩
 case rest =>
  clear a4
  try clear c2
  try clear p2
  try clear c4
  try clear c4b0
  try clear c4b1
  obtain ⟨kq, x4_1, rfl, HA, HJ1, a1, HB⟩ := hcut
  cases kq with
  | zero => exact absurd HA.out (by simp [impl_namesOf.j0])
  | succ kj1 =>
   have H := HA.out
   clear HA
   simp only [impl_namesOf.j0] at H
   by_cases c5 : x4_1 = true
   ·subst c5
    rw [if_pos rfl] at H
    simp only [Option.some.injEq, Prod.mk.injEq] at H
    obtain ⟨rfl, rfl, rfl⟩ := H
    obtain ⟨_, _, _, _, _, _⟩ := bc3 a1.out
    go_wp2
    refine bodyPost_ret (results_cell_row rfl _ _ a2 47 #[.bool false, .bool false, .bool true] (0, 0) _ rfl (by (with_reducible repeat first | apply bN_ | apply bD_ | apply bA_); apply fill3; (with_reducible repeat first | apply bN_ | apply bD_ | apply bA_); exact a1.out) Try.underlying47 rfl (by kernel_rfl)) rfl ?_
    exact ⟨by first | rfl | (simp [errW_none, errW_some] <;> rfl) | (simp [*, errW_none, errW_some] <;> rfl), by repeat (first | (with_reducible first | exact HB.out | apply lA1_ | apply lN_ | apply lD_ | refine lS1_ ?_ a3.out) | exact HB.out)⟩
   ·replace c5 := Bool.eq_false_iff.mpr c5
    subst c5
    rw [if_neg (show ¬ (false = true) by decide)] at H
    by_cases c7 : a0 = 6
    ·rw [if_pos c7] at H
     have c7b0 : (a0 == 6) = true := beq_iff_eq.mpr c7
     have c7b1 : (a0 != 6) = false := bne_eq_false_iff_eq.mpr c7
     clear c7
     simp only [Option.some.injEq, Prod.mk.injEq] at H
     obtain ⟨rfl, rfl, rfl⟩ := H
     obtain ⟨_, _, _, _, _, _⟩ := bc3 a1.out
     go_wp2
     refine bodyPost_ret (results_cell_row rfl _ _ a2 47 #[.bool true, .bool false, .bool false] (0, 0) _ rfl (by (with_reducible repeat first | apply bN_ | apply bD_ | apply bA_); apply fill3; (with_reducible repeat first | apply bN_ | apply bD_ | apply bA_); exact a1.out) Try.underlying47 rfl (by kernel_rfl)) rfl ?_
     exact ⟨by first | rfl | (simp [errW_none, errW_some] <;> rfl) | (simp [*, errW_none, errW_some] <;> rfl), by repeat (first | (with_reducible first | exact HB.out | apply lA1_ | apply lN_ | apply lD_ | refine lS1_ ?_ a3.out) | exact HB.out)⟩
    ·rw [if_neg c7] at H
     have c7b0 : (a0 == 6) = false := beq_eq_false_iff_ne.mpr c7
     have c7b1 : (a0 != 6) = true := bne_iff_ne.mpr c7
     simp only [Option.some.injEq, Prod.mk.injEq] at H
     obtain ⟨rfl, rfl, rfl⟩ := H
     obtain ⟨_, _, _, _, _, _⟩ := bc3 a1.out
     go_wp2
     refine bodyPost_ret (results_cell_row rfl _ _ a2 47 #[.bool true, .bool true, .bool false] (0, 0) _ rfl (by (with_reducible repeat first | apply bN_ | apply bD_ | apply bA_); apply fill3; (with_reducible repeat first | apply bN_ | apply bD_ | apply bA_); exact a1.out) Try.underlying47 rfl (by kernel_rfl)) rfl ?_
     exact ⟨by first | rfl | (simp [errW_none, errW_some] <;> rfl) | (simp [*, errW_none, errW_some] <;> rfl), by repeat (first | (with_reducible first | exact HB.out | apply lA1_ | apply lN_ | apply lD_ | refine lS1_ ?_ a3.out) | exact HB.out)⟩
def impl_in.f (a0 : Int) (a1 : Int) (a2 : Int) : Option (Bool) := if a0 ≥ a1 then (some (decide (a0 ≤ a2))) else (some false)
set_option maxHeartbeats 8000000 in
set_option maxRecDepth 100000 in
theorem impl_in.calls (a0 : Int) (a1 : Int) (a2 : Int) (r : Bool) (w : World) (h : impl_in.f a0 a1 a2 = some r) :
  Calls Try.prog 37 #[.int .i64 a0, .int .i64 a1, .int .i64 a2] w fun e w' => e = .returned (.bool r) ∧ Drawn0 w w' := by
 have H : (if a0 ≥ a1 then (some (decide (a0 ≤ a2))) else (some false)) = some r := h
 clear h
 by_cases c4 : a0 ≥ a1
 ·rw [if_pos c4] at H
  have c4b0 : decide (a1 ≤ a0) = true := decide_eq_true c4
  clear c4
  obtain rfl := Option.some.inj H
  go_enter Try.func37, Try.ntmps37
  go_wp2
  go_ret
  exact ⟨by first | rfl | (simp; done) | (simp [*]; done), by repeat (first | exact Drawn0.refl _ | apply Drawn0.step)⟩
 ·rw [if_neg c4] at H
  have c4b0 : decide (a1 ≤ a0) = false := decide_eq_false c4
  clear c4
  obtain rfl := Option.some.inj H
  go_enter Try.func37, Try.ntmps37
  go_wp2
  go_ret
  exact ⟨by first | rfl | (simp; done) | (simp [*]; done), by repeat (first | exact Drawn0.refl _ | apply Drawn0.step)⟩
def impl_Term_parts.f (k : Nat) (a0_0 : Int) (a0_1 : Int) (a0_2 : Int) (a0_3 : Int) : Option (List Int) := (impl_namesOf.f k a0_0).bind fun bt237 => (if bt237.2.2 = true then (some ([] : List Int)) else (if bt237.2.1 = true then (some (([a0_1, a0_2] : List Int))) else (some (([a0_1] : List Int)))))
set_option maxHeartbeats 8000000 in
set_option maxRecDepth 100000 in
theorem impl_Term_parts.calls (k : Nat) (a0_0 : Int) (a0_1 : Int) (a0_2 : Int) (a0_3 : Int) (r : List Int) (w : World) (h : impl_Term_parts.f k a0_0 a0_1 a0_2 a0_3 = some r) :
  Calls Try.prog 39 #[.agg #[.int .i64 a0_0, .int .i64 a0_1, .int .i64 a0_2, .int .i64 a0_3]] w fun e w' => ∃ v0_ : Value, e = .returned (v0_) ∧ Kd.R (Kd.int .i64) 2 w' w.heap.size (fun _ => True) v0_ r ∧ Below w.heap.size w w' := by
 have hu37 := Try.underlying37
 have hu47 := Try.underlying47
 have HB := Aside0.mk (Below.refl w.heap.size w)
 have H : ((impl_namesOf.f k a0_0).bind fun bt237 => (if bt237.2.2 = true then (some ([] : List Int)) else (if bt237.2.1 = true then (some (([a0_1, a0_2] : List Int))) else (some (([a0_1] : List Int)))))) = some r := h
 clear h
 replace H := Option.bind_eq_some_iff.mp H
 obtain ⟨⟨t237, t238, t239⟩, ac, H⟩ := H
 try dsimp only at H
 have A2 := Aside0.mk ac
 clear ac
 by_cases c3 : t239 = true
 ·subst c3
  rw [if_pos rfl] at H
  obtain rfl := Option.some.inj H
  go_enter Try.func39, Try.ntmps39
  go_wp2_with (first | ((with_reducible refine gate_dst (N := 1) rfl ?_); refine box_event ?hg (N := 1) ?hd (cs := #[.int .i64 a0_0, .int .i64 a0_1, .int .i64 a0_2, .int .i64 a0_3]) (t := 37) ?hr ?_; (case hd => rfl); (case hg => rfl); (case hr => first | (go_simp; done) | (go_simp; rfl)); intro a4 hg w4 hbox hb; have n0_ := Aside0.mk (lP_ HB.out hb); have n1_ := Aside0.mk (hbox); have n3_ := Aside0.mk ((by rw [hg]; exact (below_size HB.out) : w.heap.size ≤ a4)); clear HB; have HB := n0_; have a0 := n1_; have a1 := n3_; clear n0_ n1_ n3_ hb hbox hg; obtain ⟨_, _, _, _, _, _, _, _⟩ := bc4 a0.out) | ((with_reducible refine gate_callee (f := 22) rfl ?_); refine goesA_ (some 6) rfl rfl Try.func22 (by kernel_rfl) rfl #[.int .i64 a0_0] rfl ?_; (with_reducible refine (impl_namesOf.calls k a0_0 t237 t238 true _ A2.out).mono ?_); rintro e w6 ⟨rfl, hb⟩; refine ⟨_, rfl, ?_⟩; have n0_ := Aside0.mk (bB_ a0.out hb); have n1_ := Aside0.mk (lP_ HB.out hb); clear a0 HB; have a0 := n0_; have HB := n1_; clear n0_ n1_; (try clear hb); (try clear hb2); (try clear hk); (try clear hi)) | ((with_reducible refine gate_dst (N := 3) rfl ?_); refine box_event ?hg (N := 3) ?hd (cs := #[.bool false, .bool false, .bool false]) (t := 47) ?hr ?_; (case hd => rfl); (case hg => rfl); (case hr => first | (go_simp; done) | (go_simp; rfl)); intro a6 hg w7 hbox hb; have n1_ := Aside0.mk (lP_ (by repeat (first | (with_reducible first | exact HB.out | refine lS1_ ?_ a1.out) | exact HB.out)) hb); have n2_ := Aside0.mk (hbox); have n4_ := Aside0.mk ((by rw [hg]; exact (below_size (by repeat (first | (with_reducible first | exact HB.out | refine lS1_ ?_ a1.out) | exact HB.out))) : w.heap.size ≤ a6)); have n5_ := Aside0.mk ((by rw [hg]; exact Nat.ne_of_lt (blk_lt (g := a4) (o := .cells #[.int .i64 a0_0, .int .i64 a0_1, .int .i64 a0_2, .int .i64 a0_3] 37 (0, 0)) a0.out) : a4 ≠ a6)); have n6_ := Aside0.mk n5_.out.symm; clear HB; have HB := n1_; have a7 := n2_; have a5 := n4_; have a2 := n5_; have a3 := n6_; clear n1_ n2_ n4_ n5_ n6_ hb hbox hg; have ah := a3.out; have ai := a2.out; obtain ⟨_, _, _, _, _, _⟩ := bc3 a7.out))
  go_ret
  exact ⟨_, by first | rfl | (simp [errW_none, errW_some] <;> rfl) | (simp [*, errW_none, errW_some] <;> rfl), by first | exact Kd.R_nil _ _ _ _ _ | exact Kd.N_nil _ _ _ _ _ | exact Kd.V_nil _ _ _ _ _ | exact Kd.Q_nil _ _ _ _ _ | exact Kd.S_nil _ _ _ _ _, by repeat (first | (with_reducible first | exact HB.out | apply lA1_ | apply lN_ | apply lD_ | refine lS1_ ?_ a1.out | refine lS1_ ?_ a5.out) | exact HB.out)⟩
 ·replace c3 := Bool.eq_false_iff.mpr c3
  subst c3
  rw [if_neg (show ¬ (false = true) by decide)] at H
  by_cases c10 : t238 = true
  ·subst c10
   rw [if_pos rfl] at H
   obtain ⟨y241, hy241⟩ : ∃ y_ : List Int, y_ = (([a0_1, a0_2] : List Int)) := ⟨_, rfl⟩
   replace H : (some y241) = some r := by first | (rw [hy241]; with_reducible exact H) | (have H2_ := (Option.bind_some _ _).symm.trans H; rw [hy241]; with_reducible exact H2_) | (have H2_ := (Option.bind_some _ _).symm.trans H; with_reducible exact H2_) | with_reducible exact H | (rw [hy241]; exact H) | exact H
   have a8 := Aside0.mk hy241
   clear hy241
   obtain rfl := Option.some.inj H
   go_enter Try.func39, Try.ntmps39
   go_wp2_with (first | ((with_reducible refine gate_dst (N := 1) rfl ?_); refine box_event ?hg (N := 1) ?hd (cs := #[.int .i64 a0_0, .int .i64 a0_1, .int .i64 a0_2, .int .i64 a0_3]) (t := 37) ?hr ?_; (case hd => rfl); (case hg => rfl); (case hr => first | (go_simp; done) | (go_simp; rfl)); intro a4 hg w11 hbox hb; have n0_ := Aside0.mk (lP_ (by repeat (first | (with_reducible first | exact HB.out | apply lA1_ | apply lN_ | apply lD_) | exact HB.out)) hb); have n1_ := Aside0.mk (hbox); have n3_ := Aside0.mk ((by rw [hg]; exact (below_size (by repeat (first | (with_reducible first | exact HB.out | apply lA1_ | apply lN_ | apply lD_) | exact HB.out))) : w.heap.size ≤ a4)); clear HB; have HB := n0_; have a0 := n1_; have a1 := n3_; clear n0_ n1_ n3_ hb hbox hg; obtain ⟨_, _, _, _, _, _, _, _⟩ := bc4 a0.out) | ((with_reducible refine gate_callee (f := 22) rfl ?_); refine goesA_ (some 6) rfl rfl Try.func22 (by kernel_rfl) rfl #[.int .i64 a0_0] rfl ?_; (with_reducible refine (impl_namesOf.calls k a0_0 t237 true false _ A2.out).mono ?_); rintro e w13 ⟨rfl, hb⟩; refine ⟨_, rfl, ?_⟩; have n0_ := Aside0.mk (bB_ a0.out hb); have n1_ := Aside0.mk (lP_ HB.out hb); clear a0 HB; have a0 := n0_; have HB := n1_; clear n0_ n1_; (try clear hb); (try clear hb2); (try clear hk); (try clear hi)) | ((with_reducible refine gate_dst (N := 3) rfl ?_); refine box_event ?hg (N := 3) ?hd (cs := #[.bool false, .bool false, .bool false]) (t := 47) ?hr ?_; (case hd => rfl); (case hg => rfl); (case hr => first | (go_simp; done) | (go_simp; rfl)); intro a6 hg w14 hbox hb; have n0_ := Aside0.mk (bB_ a0.out hb); have n1_ := Aside0.mk (lP_ HB.out hb); have n2_ := Aside0.mk (hbox); have n4_ := Aside0.mk ((by rw [hg]; exact (below_size HB.out) : w.heap.size ≤ a6)); have n5_ := Aside0.mk ((by rw [hg]; exact Nat.ne_of_lt (blk_lt a0.out) : a4 ≠ a6)); have n6_ := Aside0.mk n5_.out.symm; clear a0 HB; have a0 := n0_; have HB := n1_; have a7 := n2_; have a5 := n4_; have a2 := n5_; have a3 := n6_; clear n0_ n1_ n2_ n4_ n5_ n6_ hb hbox hg; have ad := a3.out; have ae := a2.out; obtain ⟨_, _, _, _, _, _⟩ := bc3 a7.out; obtain ⟨_, _, _, _, _, _, _, _⟩ := bc4 a0.out) | ((with_reducible refine gate_dst (N := 21) rfl ?_); refine Kd.R_lit (Kd.int .i64) _ 2 ?hg (N := 21) ?hd (xs := ([a0_1, a0_2] : List Int)) (inner := [.int .i64 a0_1, .int .i64 a0_2]) (ok := fun _ => True) (okp := fun _ => True) ?hr ?hp (fun _ hk => hk) trivial (Below.refl _ _) (Nat.le_refl _) (by simp) ?_; (case hd => rfl); (case hg => rfl); (case hr => first | (go_simp; done) | (go_simp; rfl)); (case hp => exact (Reps.one (show Kd.M (Kd.int .i64) _ _ _ a0_1 [.int .i64 a0_1] from rfl) (Reps.one (show Kd.M (Kd.int .i64) _ _ _ a0_2 [.int .i64 a0_2] from rfl) (Reps.none _ _)))); intro v242 w18 ho19 hb hg_ hnew_; clear hg_ hnew_; (first | rw [← a8.out] at ho19 | (simp only [Int.reduceToNat] at ho19; rw [← a8.out] at ho19)); have n0_ := Aside0.mk (Kd.R_lower ho19 (below_size (by repeat (first | (with_reducible first | exact HB.out | refine lS1_ ?_ a1.out | refine lS1_ ?_ a5.out) | exact HB.out)))); have n3_ := Aside0.mk (lP_ (by repeat (first | (with_reducible first | exact HB.out | refine lS1_ ?_ a1.out | refine lS1_ ?_ a5.out) | exact HB.out)) hb); clear HB; have aa := n0_; have HB := n3_; clear n0_ n3_ hb ho19))
   go_ret
   exact ⟨_, by first | rfl | (simp [errW_none, errW_some] <;> rfl) | (simp [*, errW_none, errW_some] <;> rfl), by (with_reducible repeat first | apply rA_ | apply rN_ | apply rD_); exact aa.out, by repeat (first | (with_reducible first | exact HB.out | apply lA1_ | apply lN_ | apply lD_ | refine lS1_ ?_ a1.out | refine lS1_ ?_ a5.out) | exact HB.out)⟩
  ·replace c10 := Bool.eq_false_iff.mpr c10
   subst c10
   rw [if_neg (show ¬ (false = true) by decide)] at H
   obtain ⟨y244, hy244⟩ : ∃ y_ : List Int, y_ = (([a0_1] : List Int)) := ⟨_, rfl⟩
   replace H : (some y244) = some r := by first | (rw [hy244]; with_reducible exact H) | (have H2_ := (Option.bind_some _ _).symm.trans H; rw [hy244]; with_reducible exact H2_) | (have H2_ := (Option.bind_some _ _).symm.trans H; with_reducible exact H2_) | with_reducible exact H | (rw [hy244]; exact H) | exact H
   have a9 := Aside0.mk hy244
   clear hy244
   obtain rfl := Option.some.inj H
   go_enter Try.func39, Try.ntmps39
   go_wp2_with (first | ((with_reducible refine gate_dst (N := 1) rfl ?_); refine box_event ?hg (N := 1) ?hd (cs := #[.int .i64 a0_0, .int .i64 a0_1, .int .i64 a0_2, .int .i64 a0_3]) (t := 37) ?hr ?_; (case hd => rfl); (case hg => rfl); (case hr => first | (go_simp; done) | (go_simp; rfl)); intro a4 hg w20 hbox hb; have n0_ := Aside0.mk (lP_ (by repeat (first | (with_reducible first | exact HB.out | apply lA1_ | apply lN_ | apply lD_) | exact HB.out)) hb); have n1_ := Aside0.mk (hbox); have n3_ := Aside0.mk ((by rw [hg]; exact (below_size (by repeat (first | (with_reducible first | exact HB.out | apply lA1_ | apply lN_ | apply lD_) | exact HB.out))) : w.heap.size ≤ a4)); clear HB; have HB := n0_; have a0 := n1_; have a1 := n3_; clear n0_ n1_ n3_ hb hbox hg; obtain ⟨_, _, _, _, _, _, _, _⟩ := bc4 a0.out) | ((with_reducible refine gate_callee (f := 22) rfl ?_); refine goesA_ (some 6) rfl rfl Try.func22 (by kernel_rfl) rfl #[.int .i64 a0_0] rfl ?_; (with_reducible refine (impl_namesOf.calls k a0_0 t237 false false _ A2.out).mono ?_); rintro e w22 ⟨rfl, hb⟩; refine ⟨_, rfl, ?_⟩; have n0_ := Aside0.mk (bB_ a0.out hb); have n1_ := Aside0.mk (lP_ HB.out hb); clear a0 HB; have a0 := n0_; have HB := n1_; clear n0_ n1_; (try clear hb); (try clear hb2); (try clear hk); (try clear hi)) | ((with_reducible refine gate_dst (N := 3) rfl ?_); refine box_event ?hg (N := 3) ?hd (cs := #[.bool false, .bool false, .bool false]) (t := 47) ?hr ?_; (case hd => rfl); (case hg => rfl); (case hr => first | (go_simp; done) | (go_simp; rfl)); intro a6 hg w23 hbox hb; have n0_ := Aside0.mk (bB_ a0.out hb); have n1_ := Aside0.mk (lP_ HB.out hb); have n2_ := Aside0.mk (hbox); have n4_ := Aside0.mk ((by rw [hg]; exact (below_size HB.out) : w.heap.size ≤ a6)); have n5_ := Aside0.mk ((by rw [hg]; exact Nat.ne_of_lt (blk_lt a0.out) : a4 ≠ a6)); have n6_ := Aside0.mk n5_.out.symm; clear a0 HB; have a0 := n0_; have HB := n1_; have a7 := n2_; have a5 := n4_; have a2 := n5_; have a3 := n6_; clear n0_ n1_ n2_ n4_ n5_ n6_ hb hbox hg; have af := a3.out; have ag := a2.out; obtain ⟨_, _, _, _, _, _⟩ := bc3 a7.out; obtain ⟨_, _, _, _, _, _, _, _⟩ := bc4 a0.out) | ((with_reducible refine gate_dst (N := 16) rfl ?_); refine Kd.R_lit (Kd.int .i64) _ 2 ?hg (N := 16) ?hd (xs := ([a0_1] : List Int)) (inner := [.int .i64 a0_1]) (ok := fun _ => True) (okp := fun _ => True) ?hr ?hp (fun _ hk => hk) trivial (Below.refl _ _) (Nat.le_refl _) (by simp) ?_; (case hd => rfl); (case hg => rfl); (case hr => first | (go_simp; done) | (go_simp; rfl)); (case hp => exact (Reps.one (show Kd.M (Kd.int .i64) _ _ _ a0_1 [.int .i64 a0_1] from rfl) (Reps.none _ _))); intro v245 w27 ho28 hb hg_ hnew_; clear hg_ hnew_; (first | rw [← a9.out] at ho28 | (simp only [Int.reduceToNat] at ho28; rw [← a9.out] at ho28)); have n0_ := Aside0.mk (Kd.R_lower ho28 (below_size (by repeat (first | (with_reducible first | exact HB.out | refine lS1_ ?_ a1.out | refine lS1_ ?_ a5.out) | exact HB.out)))); have n3_ := Aside0.mk (lP_ (by repeat (first | (with_reducible first | exact HB.out | refine lS1_ ?_ a1.out | refine lS1_ ?_ a5.out) | exact HB.out)) hb); clear HB; have ab := n0_; have HB := n3_; clear n0_ n3_ hb ho28))
   go_ret
   exact ⟨_, by first | rfl | (simp [errW_none, errW_some] <;> rfl) | (simp [*, errW_none, errW_some] <;> rfl), by (with_reducible repeat first | apply rA_ | apply rN_ | apply rD_); exact ab.out, by repeat (first | (with_reducible first | exact HB.out | apply lA1_ | apply lN_ | apply lD_ | refine lS1_ ?_ a1.out | refine lS1_ ?_ a5.out) | exact HB.out)⟩
set_option maxHeartbeats 4000000 in
set_option maxRecDepth 100000 in
theorem slices_IndexFunc_int64_int64.calls (g : Nat) (lb : Array Value) (p : Int → Bool) (A0 : Option Addr) (c0 : Nat) (l0 : List Int) (w : World) (eg : ∀ args w, (callFunc g args).run Try.prog w = .ok (.enter g args) w)
    (hp : ∀ (W : World) (x : Int), x ∈ l0 → Below w.heap.size w W → Calls Try.prog g (#[.int .i64 x] ++ lb) W fun e w' => e = .returned (.bool (p x)) ∧ Below w.heap.size w w')
    (hr0 : Kd.C (Kd.int .i64) w A0 l0.length l0) (hl : l0.length ≤ 9223372036854775807) :
    Calls Try.prog 46 #[.slice A0 l0.length c0, .func (.func g) #[] lb] w fun e w' => ∃ v : Int, e = .returned (.int .i64 v) ∧ Aside0 (decide (0 ≤ v) = l0.any p) ∧ Below w.heap.size w w' := by
  have HR := Aside0.mk hr0
  clear hr0
  go_enter Try.func46, Try.ntmps46
  go_wp2
  go_loopg [5, 8] l0.length (fun gg _ s8 wr => ∃ kk : Nat, kk ≤ l0.length ∧ l0.length - kk ≤ gg ∧ s8 = .int .i64 kk ∧ Aside0 (Below w.heap.size w wr) ∧ Aside0 (∀ j : Nat, j < kk → p (rd l0 j) = false))
  case atStart => exact ⟨0, Nat.zero_le _, by omega, rfl, Aside0.mk (Below.refl _ w), Aside0.mk (fun j hj => absurd hj (Nat.not_lt_zero _))⟩
  case round =>
    obtain ⟨kk, hkk, hg, rfl, BW, HA⟩ := hrel
    by_cases hlt : kk < l0.length
    · have hltz : (kk : Int) < (l0.length : Int) := by omega
      obtain ⟨ad, e, hx⟩ := Kd.at_int (Kd.C_below HR.out BW.out) (kk : Int) (by omega) (by omega)
      rw [Int.toNat_natCast] at hx
      subst e
      have hm : rd l0 (kk : Int) ∈ l0 := by
        have : rd l0 (kk : Int) = l0[kk] := by simp [rd, List.getD, List.getElem?_eq_getElem hlt]
        rw [this]; exact List.getElem_mem hlt
      have HM := Aside0.mk hm
      have hcall := hp wr (rd l0 (kk : Int)) hm BW.out
      clear hp hm
      generalize hy : rd l0 (kk : Int) = y at hx hcall
      have HY := Aside0.mk hy
      clear hy
      cases hq : p y with
      | true =>
        rw [hq] at hcall
        go_wp2_with (go_at_fn g; refine hcall.mono ?_; rintro e w' ⟨rfl, hb'⟩)
        go_ret
        refine ⟨_, rfl, Aside0.mk ?_, hb'⟩
        rw [decide_eq_true (show (0 : Int) ≤ (kk : Int) by omega)]
        symm
        exact List.any_eq_true.2 ⟨_, HM.out, by rw [HY.out]; exact hq⟩
      | false =>
        rw [hq] at hcall
        go_wp2_with (go_at_fn g; refine hcall.mono ?_; rintro e w' ⟨rfl, hb'⟩)
        go_roundg (l0.length - (kk + 1))
        case measure => omega
        case rel =>
          refine ⟨kk + 1, by omega, by omega, by go_num, Aside0.mk hb', Aside0.mk (fun j hj => ?_)⟩
          by_cases e : j = kk
          · subst e
            rw [HY.out]; exact hq
          · exact HA.out j (by omega)
    · have hltz : ¬ (kk : Int) < (l0.length : Int) := by omega
      obtain rfl : kk = l0.length := by omega
      go_wp2
      go_ret
      refine ⟨_, rfl, Aside0.mk ?_, BW.out⟩
      rw [decide_eq_false (show ¬ (0 : Int) ≤ -1 by omega)]
      symm
      rw [List.any_eq_false]
      intro x hx
      obtain ⟨j, hj, rfl⟩ := List.getElem_of_mem hx
      have := HA.out j hj
      have e : rd l0 (j : Int) = l0[j] := by simp [rd, List.getD, List.getElem?_eq_getElem hj]
      rw [e] at this
      simp [this]
set_option maxHeartbeats 4000000 in
set_option maxRecDepth 100000 in
theorem slices_ContainsFunc_int64_int64.calls (g : Nat) (lb : Array Value) (p : Int → Bool) (A0 : Option Addr) (c0 : Nat) (l0 : List Int) (w : World) (eg : ∀ args w, (callFunc g args).run Try.prog w = .ok (.enter g args) w)
    (hp : ∀ (W : World) (x : Int), x ∈ l0 → Below w.heap.size w W → Calls Try.prog g (#[.int .i64 x] ++ lb) W fun e w' => e = .returned (.bool (p x)) ∧ Below w.heap.size w w')
    (hr0 : Kd.C (Kd.int .i64) w A0 l0.length l0) (hl : l0.length ≤ 9223372036854775807) :
    Calls Try.prog 43 #[.slice A0 l0.length c0, .func (.func g) #[] lb] w fun e w' => e = .returned (.bool (l0.any p)) ∧ Below w.heap.size w w' := by
  have hC := slices_IndexFunc_int64_int64.calls g lb p A0 c0 l0 w eg hp hr0 hl
  clear hp hr0
  go_enter Try.func43, Try.ntmps43
  go_wp2_with (go_at_call 46; refine hC.mono ?_; rintro e w' ⟨v, rfl, hv, hb⟩)
  go_ret
  exact ⟨congrArg (fun b => Ending.returned (Value.bool b)) hv.out, hb⟩
end Go.Proofs.Ytpagejjjfpkmcaa.G
