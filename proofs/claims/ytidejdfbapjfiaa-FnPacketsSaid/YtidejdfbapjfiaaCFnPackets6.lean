/- Part 6 of the proof of FnPackets: what the functions on its road do, and the plain laws. -/
import Derived.Test.YtidejdfbapjfiaaCFnPackets5
namespace Go.Proofs.Ytidejdfbapjfiaa.G
open Go.RowKit Go.Proofs.YtidejdfbapjfiaaW.PrintWords Go.Proofs.YtidejdfbapjfiaaW.PrintLast Go.Proofs.YtidejdfbapjfiaaW.PrintMore
attribute [local go_sem] max2_int min2_int max_two min_two max_three min_three max_four min_four   -- for this text's walks alone
set_option linter.unusedVariables false
set_option linter.unusedSimpArgs false
def spec_l2Bent.f (k : Nat) (s0_0 : List Int) (s0_1 : Int) : Option (Int × Int × Int × Int × Int × Int × List Int × Int) := (spec_l2Packet.f k s0_0 s0_1).bind fun bt913 => ((spec_l1Next.f s0_0 bt913.2.2.2.2.2.2.2 20).bind fun bt924 => (if bt924.1 = 0 then ((spec_l1Pick.f s0_0 bt924.2 (([(-1), 4294967296] : List Int))).bind fun bt929 => (some (bt929.1, bt913.2.1, bt913.2.2.1, bt913.2.2.2.1, bt913.2.2.2.2.1, bt913.2.2.2.2.2.1, bt913.2.2.2.2.2.2.1, bt929.2))) else (if bt924.1 = 1 then ((spec_l1Pick.f s0_0 bt924.2 (([(-1), 4294967296] : List Int))).bind fun bt934 => (some (bt913.1, bt934.1, bt913.2.2.1, bt913.2.2.2.1, bt913.2.2.2.2.1, bt913.2.2.2.2.2.1, bt913.2.2.2.2.2.2.1, bt934.2))) else (if bt924.1 = 2 then ((spec_l1Pick.f s0_0 bt924.2 (([0, 256, 255, (-1)] : List Int))).bind fun bt939 => (some (bt913.1, bt913.2.1, bt939.1, bt913.2.2.2.1, bt913.2.2.2.2.1, bt913.2.2.2.2.2.1, bt913.2.2.2.2.2.2.1, bt939.2))) else (if bt924.1 = 3 then ((spec_l1Pick.f s0_0 bt924.2 (([0, 256, (-1)] : List Int))).bind fun bt944 => (some (bt913.1, bt913.2.1, bt913.2.2.1, bt944.1, bt913.2.2.2.2.1, bt913.2.2.2.2.2.1, bt913.2.2.2.2.2.2.1, bt944.2))) else (if bt924.1 = 4 then ((spec_l1Pick.f s0_0 bt924.2 (([(-1), 65536, 5] : List Int))).bind fun bt949 => (some (bt913.1, bt913.2.1, bt913.2.2.1, bt913.2.2.2.1, bt949.1, bt913.2.2.2.2.2.1, bt913.2.2.2.2.2.2.1, bt949.2))) else (if bt924.1 = 5 then ((spec_l1Pick.f s0_0 bt924.2 (([(-1), 65536, 5] : List Int))).bind fun bt954 => (some (bt913.1, bt913.2.1, bt913.2.2.1, bt913.2.2.2.1, bt913.2.2.2.2.1, bt954.1, bt913.2.2.2.2.2.2.1, bt954.2))) else (if bt924.1 = 6 then ((spec_l1Next.f s0_0 bt924.2 2).bind fun bt956 => (if 0 ≤ (wrap64 (200 + bt956.1)) then (if (wrap64 (200 + bt956.1) : Int).toNat ≤ 281474976710656 then (some (bt913.1, bt913.2.1, bt913.2.2.1, bt913.2.2.2.1, bt913.2.2.2.2.1, bt913.2.2.2.2.2.1, (List.replicate (wrap64 (200 + bt956.1) : Int).toNat 0), bt956.2)) else (none)) else (none))) else (some (bt913.1, bt913.2.1, bt913.2.2.1, bt913.2.2.2.1, bt913.2.2.2.2.1, bt913.2.2.2.2.2.1, bt913.2.2.2.2.2.2.1, bt924.2))))))))))
set_option maxHeartbeats 8000000 in
set_option maxRecDepth 100000 in
theorem spec_l2Bent.calls (k : Nat) (g : Nat) (s0_0 : List Int) (s0_1 : Int) (r1 : Int) (r2 : Int) (r3 : Int) (r4 : Int) (r5 : Int) (r6 : Int) (r7 : List Int) (r8 : Int) (w0 w : World) (hI : IsS70 w0 w g s0_0 s0_1) (hB : Below w0.heap.size w0 w) (h : spec_l2Bent.f k s0_0 s0_1 = some (r1, r2, r3, r4, r5, r6, r7, r8)) :
  Calls Try.prog 68 #[.pointer (some ⟨g, 0, none⟩)] w fun e w' => ∃ v6_ : Value, e = .returned (.agg #[.int .i64 r1, .int .i64 r2, .int .i64 r3, .int .i64 r4, .int .i64 r5, .int .i64 r6, v6_]) ∧ Kd.R (Kd.int .u8) 5 w' w.heap.size (fun _ => True) v6_ r7 ∧ IsS70 w0 w' g s0_0 r8 ∧ Below w0.heap.size w0 w' ∧ KeepBut w w' g none := by
 have hu34 := Try.underlying34
 have HI0 := Aside0.mk hI
 have HK := Aside0.mk (KeepBut.refl w g none)
 have HL := Aside0.mk hB.size
 clear hI
 have HW0 := Aside0.mk hB.size
 have HB := Aside0.mk hB
 clear hB
 have H : ((spec_l2Packet.f k s0_0 s0_1).bind fun bt913 => ((spec_l1Next.f s0_0 bt913.2.2.2.2.2.2.2 20).bind fun bt924 => (if bt924.1 = 0 then ((spec_l1Pick.f s0_0 bt924.2 (([(-1), 4294967296] : List Int))).bind fun bt929 => (some (bt929.1, bt913.2.1, bt913.2.2.1, bt913.2.2.2.1, bt913.2.2.2.2.1, bt913.2.2.2.2.2.1, bt913.2.2.2.2.2.2.1, bt929.2))) else (if bt924.1 = 1 then ((spec_l1Pick.f s0_0 bt924.2 (([(-1), 4294967296] : List Int))).bind fun bt934 => (some (bt913.1, bt934.1, bt913.2.2.1, bt913.2.2.2.1, bt913.2.2.2.2.1, bt913.2.2.2.2.2.1, bt913.2.2.2.2.2.2.1, bt934.2))) else (if bt924.1 = 2 then ((spec_l1Pick.f s0_0 bt924.2 (([0, 256, 255, (-1)] : List Int))).bind fun bt939 => (some (bt913.1, bt913.2.1, bt939.1, bt913.2.2.2.1, bt913.2.2.2.2.1, bt913.2.2.2.2.2.1, bt913.2.2.2.2.2.2.1, bt939.2))) else (if bt924.1 = 3 then ((spec_l1Pick.f s0_0 bt924.2 (([0, 256, (-1)] : List Int))).bind fun bt944 => (some (bt913.1, bt913.2.1, bt913.2.2.1, bt944.1, bt913.2.2.2.2.1, bt913.2.2.2.2.2.1, bt913.2.2.2.2.2.2.1, bt944.2))) else (if bt924.1 = 4 then ((spec_l1Pick.f s0_0 bt924.2 (([(-1), 65536, 5] : List Int))).bind fun bt949 => (some (bt913.1, bt913.2.1, bt913.2.2.1, bt913.2.2.2.1, bt949.1, bt913.2.2.2.2.2.1, bt913.2.2.2.2.2.2.1, bt949.2))) else (if bt924.1 = 5 then ((spec_l1Pick.f s0_0 bt924.2 (([(-1), 65536, 5] : List Int))).bind fun bt954 => (some (bt913.1, bt913.2.1, bt913.2.2.1, bt913.2.2.2.1, bt913.2.2.2.2.1, bt954.1, bt913.2.2.2.2.2.2.1, bt954.2))) else (if bt924.1 = 6 then ((spec_l1Next.f s0_0 bt924.2 2).bind fun bt956 => (if 0 ≤ (wrap64 (200 + bt956.1)) then (if (wrap64 (200 + bt956.1) : Int).toNat ≤ 281474976710656 then (some (bt913.1, bt913.2.1, bt913.2.2.1, bt913.2.2.2.1, bt913.2.2.2.2.1, bt913.2.2.2.2.2.1, (List.replicate (wrap64 (200 + bt956.1) : Int).toNat 0), bt956.2)) else (none)) else (none))) else (some (bt913.1, bt913.2.1, bt913.2.2.1, bt913.2.2.2.1, bt913.2.2.2.2.1, bt913.2.2.2.2.2.1, bt913.2.2.2.2.2.2.1, bt924.2))))))))))) = some (r1, r2, r3, r4, r5, r6, r7, r8) := h
 clear h
 replace H := Option.bind_eq_some_iff.mp H
 obtain ⟨⟨t913, t914, t915, t916, t917, t918, t919, t922⟩, bm, H⟩ := H
 try dsimp only at H
 have A2 := Aside0.mk bm
 clear bm
 replace H := Option.bind_eq_some_iff.mp H
 obtain ⟨⟨t924, t925⟩, bn, H⟩ := H
 try dsimp only at H
 have A3 := Aside0.mk bn
 clear bn
 by_cases c4 : t924 = 0
 ·rw [if_pos c4] at H
  have c4b0 : (t924 == 0) = true := beq_iff_eq.mpr c4
  have c4b1 : (t924 != 0) = false := bne_eq_false_iff_eq.mpr c4
  clear c4
  obtain ⟨y926, hy926⟩ : ∃ y_ : List Int, y_ = (([(-1), 4294967296] : List Int)) := ⟨_, rfl⟩
  replace H : ((spec_l1Pick.f s0_0 t925 y926).bind fun bt929 => (some (bt929.1, t914, t915, t916, t917, t918, t919, bt929.2))) = some (r1, r2, r3, r4, r5, r6, r7, r8) := by first | (rw [hy926]; with_reducible exact H) | (have H2_ := (Option.bind_some _ _).symm.trans H; rw [hy926]; with_reducible exact H2_) | (have H2_ := (Option.bind_some _ _).symm.trans H; with_reducible exact H2_) | with_reducible exact H | (rw [hy926]; exact H) | exact H
  have al := Aside0.mk hy926
  clear hy926
  replace H := Option.bind_eq_some_iff.mp H
  obtain ⟨⟨t929, t930⟩, bo, H⟩ := H
  try dsimp only at H
  have A5 := Aside0.mk bo
  clear bo
  simp only [Option.some.injEq, Prod.mk.injEq] at H
  obtain ⟨rfl, rfl, rfl, rfl, rfl, rfl, rfl, rfl⟩ := H
  go_enter Try.func68, Try.ntmps68
  go_wp2_with (first | ((with_reducible refine gate_dst (N := 2) rfl ?_); refine box_event ?hg (N := 2) ?hd (cs := zs6) (t := 34) ?hr ?_; (case hd => rfl); (case hg => rfl); (case hr => first | (go_simp; done) | (go_simp; rfl)); intro a3 hg w6 hbox hb; have n0_ := Aside0.mk (IsS70.below (by repeat (first | (with_reducible first | exact HI0.out | apply IsS70.set_1) | exact HI0.out)) hb); have n1_ := Aside0.mk (KeepBut.trans (by repeat (first | (with_reducible first | exact HK.out | apply KeepBut.set_) | exact HK.out)) (KeepBut.of_below hb g none) (.inl rfl)); have n2_ := Aside0.mk (lP_ (by repeat (first | (with_reducible first | exact HB.out | refine lS1_ ?_ (IsS70.ge HI0.out)) | exact HB.out)) hb); have n3_ := Aside0.mk (hbox); have n4_ := Aside0.mk ((by rw [hg]; exact (keep_size (w := w) (g := g) (row := none) (by repeat (first | (with_reducible first | exact HK.out | apply KeepBut.set_) | exact HK.out))) : w.heap.size ≤ a3)); have n5_ := Aside0.mk ((Nat.le_trans HW0.out (by rw [hg]; exact (keep_size (w := w) (g := g) (row := none) (by repeat (first | (with_reducible first | exact HK.out | apply KeepBut.set_) | exact HK.out))) : w.heap.size ≤ a3) : w0.heap.size ≤ a3)); have n6_ := Aside0.mk ((by rw [hg]; exact Nat.ne_of_lt (IsS70.lt (show IsS70 w0 _ g s0_0 s0_1 from by repeat (first | (with_reducible first | exact HI0.out | apply IsS70.set_1) | exact HI0.out))) : g ≠ a3)); have n7_ := Aside0.mk n6_.out.symm; clear HI0 HK HB; have HI0 := n0_; have HK := n1_; have HB := n2_; have a0 := n3_; have ab := n4_; have ac := n5_; have a5 := n6_; have a8 := n7_; clear n0_ n1_ n2_ n3_ n4_ n5_ n6_ n7_ hb hbox hg) | ((with_reducible refine gate_callee (f := 75) rfl ?_); refine goesA_ (some 5) rfl rfl Try.func75 (by kernel_rfl) rfl #[.pointer (some ⟨g, 0, none⟩)] rfl ?_; (with_reducible refine (spec_l2Packet.calls k g s0_0 s0_1 t913 t914 t915 t916 t917 t918 t919 t922 w0 _ ?side1 ?side2 A2.out).mono ?_); (case side1 => exact HI0.out); (case side2 => exact HB.out); rintro e w7 ⟨v920, rfl, ho0, hi, hb, hk⟩; refine ⟨_, rfl, ?_⟩; have n0_ := Aside0.mk (KeepBut.blk hk a0.out a8.out (by simp)); have n1_ := Aside0.mk (Kd.R_lower ho0 (keep_size (w := w) (g := g) (row := none) HK.out)); have n2_ := Aside0.mk (KeepBut.trans HK.out hk (.inl rfl)); have n3_ := Aside0.mk (hb); have n4_ := Aside0.mk (hi); clear a0 HK HB HI0; have a0 := n0_; have a1 := n1_; have HK := n2_; have HB := n3_; have HI0 := n4_; clear n0_ n1_ n2_ n3_ n4_; (try clear hb); (try clear hb2); (try clear hk); (try clear hi); (try clear ho0)) | ((with_reducible refine gate_dst (N := 3) rfl ?_); refine box_event ?hg (N := 3) ?hd (cs := zs6) (t := 34) ?hr ?_; (case hd => rfl); (case hg => rfl); (case hr => first | (go_simp; done) | (go_simp; rfl)); intro a4 hg w8 hbox hb; have n0_ := Aside0.mk (Kd.R_below a1.out hb); have n1_ := Aside0.mk (IsS70.below HI0.out hb); have n2_ := Aside0.mk (bB_ a0.out hb); have n3_ := Aside0.mk (KeepBut.trans HK.out (KeepBut.of_below hb g none) (.inl rfl)); have n4_ := Aside0.mk (lP_ HB.out hb); have n5_ := Aside0.mk (hbox); have n6_ := Aside0.mk ((by rw [hg]; exact (keep_size (w := w) (g := g) (row := none) HK.out) : w.heap.size ≤ a4)); have n7_ := Aside0.mk ((Nat.le_trans HW0.out (by rw [hg]; exact (keep_size (w := w) (g := g) (row := none) HK.out) : w.heap.size ≤ a4) : w0.heap.size ≤ a4)); have n8_ := Aside0.mk ((by rw [hg]; exact Nat.ne_of_lt (blk_lt a0.out) : a3 ≠ a4)); have n9_ := Aside0.mk n8_.out.symm; have n10_ := Aside0.mk ((by rw [hg]; exact Nat.ne_of_lt (IsS70.lt (show IsS70 w0 _ g s0_0 t922 from HI0.out)) : g ≠ a4)); have n11_ := Aside0.mk n10_.out.symm; clear a1 HI0 a0 HK HB; have a1 := n0_; have HI0 := n1_; have a0 := n2_; have HK := n3_; have HB := n4_; have a2 := n5_; have ad := n6_; have ae := n7_; have a7 := n8_; have aa := n9_; have a6 := n10_; have a9 := n11_; clear n0_ n1_ n2_ n3_ n4_ n5_ n6_ n7_ n8_ n9_ n10_ n11_ hb hbox hg; have dh := aa.out; have di := a7.out; have ck := a9.out; have cl := a6.out; obtain ⟨_, _, _, _, _, _, _, _, _, _, _, _, _, _⟩ := bc7 a2.out; obtain ⟨b0, b1, eo12⟩ := Kd.R_slice a1.out; subst eo12) | ((with_reducible refine gate_callee (f := 38) rfl ?_); refine goesA_ (some 7) rfl rfl Try.func38 (by kernel_rfl) rfl #[.pointer (some ⟨g, 0, none⟩), .int .i64 20] rfl ?_; (with_reducible refine (spec_l1Next.calls g s0_0 t922 20 t924 t925 w0 _ ?side1 ?side2 A3.out).mono ?_); (case side1 => repeat (first | (with_reducible first | exact HI0.out | apply IsS70.set_1 | refine IsS70.far ?_ a5.out _ | refine IsS70.far ?_ a6.out _) | exact HI0.out)); (case side2 => repeat (first | (with_reducible first | exact HB.out | refine lS1_ ?_ (IsS70.ge HI0.out) | refine lS1_ ?_ ac.out | refine lS1_ ?_ ae.out) | exact HB.out)); rintro e w13 ⟨rfl, hi, hb, hk⟩; refine ⟨_, rfl, ?_⟩; have n0_ := Aside0.mk (KeepBut.blk hk (g' := a3) (o := .cells zs6 34 (0, 0)) (by (iterate 7 (refine bF_ ?_ a7.out _)); exact a0.out) a8.out (by simp)); have n1_ := Aside0.mk (Kd.R_mono (Kd.R_keep (IsS70.apart (show IsS70 w0 _ g s0_0 t922 from by repeat (first | (with_reducible first | exact HI0.out | apply IsS70.set_1 | refine IsS70.far ?_ a5.out _ | refine IsS70.far ?_ a6.out _) | exact HI0.out)) (Kd.R_mono (rfar7 (g := a4) (Kd.R_types a1.out a2.out (by decide)) (fun _ hk => hk.2)) (fun _ h_ => h_.1)) (by decide)) hk (fun _ h => h.2)) (fun _ h => h.1)); have n2_ := Aside0.mk (KeepBut.blk hk (g' := a4) (o := .cells #[.int .i64 t913, .int .i64 t914, .int .i64 t915, .int .i64 t916, .int .i64 t917, .int .i64 t918, .slice b0 t919.length b1] 34 (0, 0)) (by apply fill7; exact a2.out) a9.out (by simp)); have n3_ := Aside0.mk (KeepBut.trans (by repeat (first | (with_reducible first | exact HK.out | apply KeepBut.set_ | refine kF_ ?_ ab.out _ | refine kF_ ?_ ad.out _) | exact HK.out)) hk (.inl rfl)); have n4_ := Aside0.mk (hb); have n5_ := Aside0.mk (hi); clear a0 a1 a2 HK HB HI0; have a0 := n0_; have a1 := n1_; have a2 := n2_; have HK := n3_; have HB := n4_; have HI0 := n5_; clear n0_ n1_ n2_ n3_ n4_ n5_; (try clear hb); (try clear hb2); (try clear hk); (try clear hi)) | ((with_reducible refine gate_dst (N := 11) rfl ?_); refine Kd.R_lit (Kd.int .i64) _ 2 ?hg (N := 11) ?hd (xs := ([(-1), 4294967296] : List Int)) (inner := [.int .i64 (-1), .int .i64 4294967296]) (ok := fun _ => True) (okp := fun _ => True) ?hr ?hp (fun _ hk => hk) trivial (Below.refl _ _) (Nat.le_refl _) (by simp) ?_; (case hd => rfl); (case hg => rfl); (case hr => first | (go_simp; done) | (go_simp; rfl)); (case hp => exact (Reps.one (show Kd.M (Kd.int .i64) _ _ _ (-1) [.int .i64 (-1)] from rfl) (Reps.one (show Kd.M (Kd.int .i64) _ _ _ 4294967296 [.int .i64 4294967296] from rfl) (Reps.none _ _)))); intro v927 w14 ho15 hb hg_ hnew_; clear hg_ hnew_; (first | rw [← al.out] at ho15 | (simp only [Int.reduceToNat] at ho15; rw [← al.out] at ho15)); have n0_ := Aside0.mk (Kd.R_below a1.out hb); have n1_ := Aside0.mk (Kd.R_lower ho15 (keep_size (w := w) (g := g) (row := none) HK.out)); have n2_ := Aside0.mk (IsS70.below HI0.out hb); have n3_ := Aside0.mk (bB_ a0.out hb); have n4_ := Aside0.mk (bB_ a2.out hb); have n5_ := Aside0.mk (KeepBut.trans HK.out (KeepBut.of_below hb g none) (.inl rfl)); have n6_ := Aside0.mk (lP_ HB.out hb); clear a1 HI0 a0 a2 HK HB; have a1 := n0_; have af := n1_; have HI0 := n2_; have a0 := n3_; have a2 := n4_; have HK := n5_; have HB := n6_; clear n0_ n1_ n2_ n3_ n4_ n5_ n6_ hb ho15; obtain ⟨bp, bq, eo16⟩ := Kd.R_slice af.out; subst eo16) | ((with_reducible refine gate_callee (f := 40) rfl ?_); refine goesA_ (some 12) rfl rfl Try.func40 (by kernel_rfl) rfl #[.pointer (some ⟨g, 0, none⟩), .slice bp y926.length bq] rfl ?_; (with_reducible refine (spec_l1Pick.calls g s0_0 t925 _ _ y926 t929 t930 w0 _ ?side1 ?side2 ?side3 ?side4 ?side5 A5.out).mono ?_); (case side1 => exact HI0.out); (case side2 => exact HB.out); (case side3 => repeat (first | exact (Kd.R_reads' af.out).2.2 | (with_reducible refine Kd.C_alloc ?_ _) | (with_reducible refine Kd.C_drewN ?_ _) | (with_reducible refine Kd.C_drew ?_))); (case side4 => exact (Kd.R_reads' af.out).2.1); (case side5 => exact far_slice (IsS70.own_ne HI0.out af.out (by decide))); rintro e w17 ⟨rfl, hi, hb, hk⟩; refine ⟨_, rfl, ?_⟩; have n0_ := Aside0.mk (KeepBut.blk hk a0.out a8.out (by simp)); have n1_ := Aside0.mk (Kd.R_mono (Kd.R_keep (IsS70.apart (show IsS70 w0 _ g s0_0 t925 from HI0.out) a1.out (by decide)) hk (fun _ h => h.2)) (fun _ h => h.1)); have n2_ := Aside0.mk (KeepBut.blk hk a2.out a9.out (by simp)); have n4_ := Aside0.mk (KeepBut.trans HK.out hk (.inl rfl)); have n5_ := Aside0.mk (hb); have n6_ := Aside0.mk (hi); clear a0 a1 a2 HK HB HI0; have a0 := n0_; have a1 := n1_; have a2 := n2_; have HK := n4_; have HB := n5_; have HI0 := n6_; clear n0_ n1_ n2_ n4_ n5_ n6_; (try clear hb); (try clear hb2); (try clear hk); (try clear hi); obtain ⟨_, _, _, _, _, _, _, _, _, _, _, _, _, _⟩ := bc7 a2.out; have cm := a8.out; have cn := a5.out; obtain ⟨_, _, _, _, _, _, _, _, _, _, _, _, _, _⟩ := bc7 a0.out))
  refine bodyPost_ret (results_cell_row rfl _ _ a3 34 #[.int .i64 t929, .int .i64 t914, .int .i64 t915, .int .i64 t916, .int .i64 t917, .int .i64 t918, .slice b0 t919.length b1] (0, 0) _ rfl (by (with_reducible repeat first | apply bN_ | apply bD_ | apply bA_); apply fill7; (with_reducible repeat first | apply bN_ | apply bD_ | apply bA_); refine bF_ ?_ a7.out _; (with_reducible repeat first | apply bN_ | apply bD_ | apply bA_); exact a0.out) Try.underlying34 rfl (by kernel_rfl)) rfl ?_
  exact ⟨_, by first | rfl | (simp [errW_none, errW_some] <;> rfl) | (simp [*, errW_none, errW_some] <;> rfl), by (with_reducible repeat first | apply rA_ | apply rN_ | apply rD_); exact Kd.R_mono (rfar7 (g := a3) (Kd.R_far (p := ⟨a4, 0, none⟩) (Kd.R_types (Kd.R_types a1.out a2.out (by decide)) a0.out (by decide)) (fun _ hk => hk.1.2) (.int .i64 t929)) (fun _ hk => hk.2)) (fun _ hk => trivial), by repeat (first | (with_reducible first | exact HI0.out | apply IsS70.alloc | apply IsS70.drewN | apply IsS70.drew | apply IsS70.set_1 | refine IsS70.far ?_ a5.out _ | refine IsS70.far ?_ a6.out _) | exact HI0.out), by repeat (first | (with_reducible first | exact HB.out | apply lA1_ | apply lN_ | apply lD_ | refine lS1_ ?_ (IsS70.ge HI0.out) | refine lS1_ ?_ ac.out | refine lS1_ ?_ ae.out) | exact HB.out), by repeat (first | (with_reducible first | exact HK.out | apply KeepBut.set_ | apply kN_ | apply kD_ | apply kA_ | refine kF_ ?_ ab.out _ | refine kF_ ?_ ad.out _) | exact HK.out)⟩
 ·rw [if_neg c4] at H
  have c4b0 : (t924 == 0) = false := beq_eq_false_iff_ne.mpr c4
  have c4b1 : (t924 != 0) = true := bne_iff_ne.mpr c4
  by_cases c21 : t924 = 1
  ·rw [if_pos c21] at H
   have c21b0 : (t924 == 1) = true := beq_iff_eq.mpr c21
   have c21b1 : (t924 != 1) = false := bne_eq_false_iff_eq.mpr c21
   clear c21
   obtain ⟨y931, hy931⟩ : ∃ y_ : List Int, y_ = (([(-1), 4294967296] : List Int)) := ⟨_, rfl⟩
   replace H : ((spec_l1Pick.f s0_0 t925 y931).bind fun bt934 => (some (t913, bt934.1, t915, t916, t917, t918, t919, bt934.2))) = some (r1, r2, r3, r4, r5, r6, r7, r8) := by first | (rw [hy931]; with_reducible exact H) | (have H2_ := (Option.bind_some _ _).symm.trans H; rw [hy931]; with_reducible exact H2_) | (have H2_ := (Option.bind_some _ _).symm.trans H; with_reducible exact H2_) | with_reducible exact H | (rw [hy931]; exact H) | exact H
   have am := Aside0.mk hy931
   clear hy931
   replace H := Option.bind_eq_some_iff.mp H
   obtain ⟨⟨t934, t935⟩, b2, H⟩ := H
   try dsimp only at H
   have c0 := Aside0.mk b2
   clear b2
   simp only [Option.some.injEq, Prod.mk.injEq] at H
   obtain ⟨rfl, rfl, rfl, rfl, rfl, rfl, rfl, rfl⟩ := H
   go_enter Try.func68, Try.ntmps68
   go_wp2_with (first | ((with_reducible refine gate_dst (N := 2) rfl ?_); refine box_event ?hg (N := 2) ?hd (cs := zs6) (t := 34) ?hr ?_; (case hd => rfl); (case hg => rfl); (case hr => first | (go_simp; done) | (go_simp; rfl)); intro a3 hg w23 hbox hb; have n0_ := Aside0.mk (IsS70.below (by repeat (first | (with_reducible first | exact HI0.out | apply IsS70.alloc | apply IsS70.drewN | apply IsS70.drew | apply IsS70.set_1) | exact HI0.out)) hb); have n1_ := Aside0.mk (KeepBut.trans (by repeat (first | (with_reducible first | exact HK.out | apply KeepBut.set_ | apply kN_ | apply kD_ | apply kA_) | exact HK.out)) (KeepBut.of_below hb g none) (.inl rfl)); have n2_ := Aside0.mk (lP_ (by repeat (first | (with_reducible first | exact HB.out | apply lA1_ | apply lN_ | apply lD_ | refine lS1_ ?_ (IsS70.ge HI0.out)) | exact HB.out)) hb); have n3_ := Aside0.mk (hbox); have n4_ := Aside0.mk ((by rw [hg]; exact (keep_size (w := w) (g := g) (row := none) (by repeat (first | (with_reducible first | exact HK.out | apply KeepBut.set_ | apply kN_ | apply kD_ | apply kA_) | exact HK.out))) : w.heap.size ≤ a3)); have n5_ := Aside0.mk ((Nat.le_trans HW0.out (by rw [hg]; exact (keep_size (w := w) (g := g) (row := none) (by repeat (first | (with_reducible first | exact HK.out | apply KeepBut.set_ | apply kN_ | apply kD_ | apply kA_) | exact HK.out))) : w.heap.size ≤ a3) : w0.heap.size ≤ a3)); have n6_ := Aside0.mk ((by rw [hg]; exact Nat.ne_of_lt (IsS70.lt (show IsS70 w0 _ g s0_0 s0_1 from by repeat (first | (with_reducible first | exact HI0.out | apply IsS70.alloc | apply IsS70.drewN | apply IsS70.drew | apply IsS70.set_1) | exact HI0.out))) : g ≠ a3)); have n7_ := Aside0.mk n6_.out.symm; clear HI0 HK HB; have HI0 := n0_; have HK := n1_; have HB := n2_; have a0 := n3_; have ab := n4_; have ac := n5_; have a5 := n6_; have a8 := n7_; clear n0_ n1_ n2_ n3_ n4_ n5_ n6_ n7_ hb hbox hg) | ((with_reducible refine gate_callee (f := 75) rfl ?_); refine goesA_ (some 5) rfl rfl Try.func75 (by kernel_rfl) rfl #[.pointer (some ⟨g, 0, none⟩)] rfl ?_; (with_reducible refine (spec_l2Packet.calls k g s0_0 s0_1 t913 t914 t915 t916 t917 t918 t919 t922 w0 _ ?side1 ?side2 A2.out).mono ?_); (case side1 => exact HI0.out); (case side2 => exact HB.out); rintro e w24 ⟨v920, rfl, ho0, hi, hb, hk⟩; refine ⟨_, rfl, ?_⟩; have n0_ := Aside0.mk (KeepBut.blk hk a0.out a8.out (by simp)); have n1_ := Aside0.mk (Kd.R_lower ho0 (keep_size (w := w) (g := g) (row := none) HK.out)); have n2_ := Aside0.mk (KeepBut.trans HK.out hk (.inl rfl)); have n3_ := Aside0.mk (hb); have n4_ := Aside0.mk (hi); clear a0 HK HB HI0; have a0 := n0_; have a1 := n1_; have HK := n2_; have HB := n3_; have HI0 := n4_; clear n0_ n1_ n2_ n3_ n4_; (try clear hb); (try clear hb2); (try clear hk); (try clear hi); (try clear ho0)) | ((with_reducible refine gate_dst (N := 3) rfl ?_); refine box_event ?hg (N := 3) ?hd (cs := zs6) (t := 34) ?hr ?_; (case hd => rfl); (case hg => rfl); (case hr => first | (go_simp; done) | (go_simp; rfl)); intro a4 hg w25 hbox hb; have n0_ := Aside0.mk (Kd.R_below a1.out hb); have n1_ := Aside0.mk (IsS70.below HI0.out hb); have n2_ := Aside0.mk (bB_ a0.out hb); have n3_ := Aside0.mk (KeepBut.trans HK.out (KeepBut.of_below hb g none) (.inl rfl)); have n4_ := Aside0.mk (lP_ HB.out hb); have n5_ := Aside0.mk (hbox); have n6_ := Aside0.mk ((by rw [hg]; exact (keep_size (w := w) (g := g) (row := none) HK.out) : w.heap.size ≤ a4)); have n7_ := Aside0.mk ((Nat.le_trans HW0.out (by rw [hg]; exact (keep_size (w := w) (g := g) (row := none) HK.out) : w.heap.size ≤ a4) : w0.heap.size ≤ a4)); have n8_ := Aside0.mk ((by rw [hg]; exact Nat.ne_of_lt (blk_lt a0.out) : a3 ≠ a4)); have n9_ := Aside0.mk n8_.out.symm; have n10_ := Aside0.mk ((by rw [hg]; exact Nat.ne_of_lt (IsS70.lt (show IsS70 w0 _ g s0_0 t922 from HI0.out)) : g ≠ a4)); have n11_ := Aside0.mk n10_.out.symm; clear a1 HI0 a0 HK HB; have a1 := n0_; have HI0 := n1_; have a0 := n2_; have HK := n3_; have HB := n4_; have a2 := n5_; have ad := n6_; have ae := n7_; have a7 := n8_; have aa := n9_; have a6 := n10_; have a9 := n11_; clear n0_ n1_ n2_ n3_ n4_ n5_ n6_ n7_ n8_ n9_ n10_ n11_ hb hbox hg; have co := aa.out; have cp := a7.out; have cq := a9.out; have cr := a6.out; obtain ⟨_, _, _, _, _, _, _, _, _, _, _, _, _, _⟩ := bc7 a2.out; obtain ⟨b3, b4, eo29⟩ := Kd.R_slice a1.out; subst eo29) | ((with_reducible refine gate_callee (f := 38) rfl ?_); refine goesA_ (some 7) rfl rfl Try.func38 (by kernel_rfl) rfl #[.pointer (some ⟨g, 0, none⟩), .int .i64 20] rfl ?_; (with_reducible refine (spec_l1Next.calls g s0_0 t922 20 t924 t925 w0 _ ?side1 ?side2 A3.out).mono ?_); (case side1 => repeat (first | (with_reducible first | exact HI0.out | apply IsS70.set_1 | refine IsS70.far ?_ a5.out _ | refine IsS70.far ?_ a6.out _) | exact HI0.out)); (case side2 => repeat (first | (with_reducible first | exact HB.out | refine lS1_ ?_ (IsS70.ge HI0.out) | refine lS1_ ?_ ac.out | refine lS1_ ?_ ae.out) | exact HB.out)); rintro e w30 ⟨rfl, hi, hb, hk⟩; refine ⟨_, rfl, ?_⟩; have n0_ := Aside0.mk (KeepBut.blk hk (g' := a3) (o := .cells zs6 34 (0, 0)) (by (iterate 7 (refine bF_ ?_ a7.out _)); exact a0.out) a8.out (by simp)); have n1_ := Aside0.mk (Kd.R_mono (Kd.R_keep (IsS70.apart (show IsS70 w0 _ g s0_0 t922 from by repeat (first | (with_reducible first | exact HI0.out | apply IsS70.set_1 | refine IsS70.far ?_ a5.out _ | refine IsS70.far ?_ a6.out _) | exact HI0.out)) (Kd.R_mono (rfar7 (g := a4) (Kd.R_types a1.out a2.out (by decide)) (fun _ hk => hk.2)) (fun _ h_ => h_.1)) (by decide)) hk (fun _ h => h.2)) (fun _ h => h.1)); have n2_ := Aside0.mk (KeepBut.blk hk (g' := a4) (o := .cells #[.int .i64 t913, .int .i64 t914, .int .i64 t915, .int .i64 t916, .int .i64 t917, .int .i64 t918, .slice b3 t919.length b4] 34 (0, 0)) (by apply fill7; exact a2.out) a9.out (by simp)); have n3_ := Aside0.mk (KeepBut.trans (by repeat (first | (with_reducible first | exact HK.out | apply KeepBut.set_ | refine kF_ ?_ ab.out _ | refine kF_ ?_ ad.out _) | exact HK.out)) hk (.inl rfl)); have n4_ := Aside0.mk (hb); have n5_ := Aside0.mk (hi); clear a0 a1 a2 HK HB HI0; have a0 := n0_; have a1 := n1_; have a2 := n2_; have HK := n3_; have HB := n4_; have HI0 := n5_; clear n0_ n1_ n2_ n3_ n4_ n5_; (try clear hb); (try clear hb2); (try clear hk); (try clear hi)) | ((with_reducible refine gate_dst (N := 17) rfl ?_); refine Kd.R_lit (Kd.int .i64) _ 2 ?hg (N := 17) ?hd (xs := ([(-1), 4294967296] : List Int)) (inner := [.int .i64 (-1), .int .i64 4294967296]) (ok := fun _ => True) (okp := fun _ => True) ?hr ?hp (fun _ hk => hk) trivial (Below.refl _ _) (Nat.le_refl _) (by simp) ?_; (case hd => rfl); (case hg => rfl); (case hr => first | (go_simp; done) | (go_simp; rfl)); (case hp => exact (Reps.one (show Kd.M (Kd.int .i64) _ _ _ (-1) [.int .i64 (-1)] from rfl) (Reps.one (show Kd.M (Kd.int .i64) _ _ _ 4294967296 [.int .i64 4294967296] from rfl) (Reps.none _ _)))); intro v932 w31 ho32 hb hg_ hnew_; clear hg_ hnew_; (first | rw [← am.out] at ho32 | (simp only [Int.reduceToNat] at ho32; rw [← am.out] at ho32)); have n0_ := Aside0.mk (Kd.R_below a1.out hb); have n1_ := Aside0.mk (Kd.R_lower ho32 (keep_size (w := w) (g := g) (row := none) HK.out)); have n2_ := Aside0.mk (IsS70.below HI0.out hb); have n3_ := Aside0.mk (bB_ a0.out hb); have n4_ := Aside0.mk (bB_ a2.out hb); have n5_ := Aside0.mk (KeepBut.trans HK.out (KeepBut.of_below hb g none) (.inl rfl)); have n6_ := Aside0.mk (lP_ HB.out hb); clear a1 HI0 a0 a2 HK HB; have a1 := n0_; have ag := n1_; have HI0 := n2_; have a0 := n3_; have a2 := n4_; have HK := n5_; have HB := n6_; clear n0_ n1_ n2_ n3_ n4_ n5_ n6_ hb ho32; obtain ⟨br, bs, eo33⟩ := Kd.R_slice ag.out; subst eo33) | ((with_reducible refine gate_callee (f := 40) rfl ?_); refine goesA_ (some 18) rfl rfl Try.func40 (by kernel_rfl) rfl #[.pointer (some ⟨g, 0, none⟩), .slice br y931.length bs] rfl ?_; (with_reducible refine (spec_l1Pick.calls g s0_0 t925 _ _ y931 t934 t935 w0 _ ?side1 ?side2 ?side3 ?side4 ?side5 c0.out).mono ?_); (case side1 => exact HI0.out); (case side2 => exact HB.out); (case side3 => repeat (first | exact (Kd.R_reads' ag.out).2.2 | (with_reducible refine Kd.C_alloc ?_ _) | (with_reducible refine Kd.C_drewN ?_ _) | (with_reducible refine Kd.C_drew ?_))); (case side4 => exact (Kd.R_reads' ag.out).2.1); (case side5 => exact far_slice (IsS70.own_ne HI0.out ag.out (by decide))); rintro e w34 ⟨rfl, hi, hb, hk⟩; refine ⟨_, rfl, ?_⟩; have n0_ := Aside0.mk (KeepBut.blk hk a0.out a8.out (by simp)); have n1_ := Aside0.mk (Kd.R_mono (Kd.R_keep (IsS70.apart (show IsS70 w0 _ g s0_0 t925 from HI0.out) a1.out (by decide)) hk (fun _ h => h.2)) (fun _ h => h.1)); have n2_ := Aside0.mk (KeepBut.blk hk a2.out a9.out (by simp)); have n4_ := Aside0.mk (KeepBut.trans HK.out hk (.inl rfl)); have n5_ := Aside0.mk (hb); have n6_ := Aside0.mk (hi); clear a0 a1 a2 HK HB HI0; have a0 := n0_; have a1 := n1_; have a2 := n2_; have HK := n4_; have HB := n5_; have HI0 := n6_; clear n0_ n1_ n2_ n4_ n5_ n6_; (try clear hb); (try clear hb2); (try clear hk); (try clear hi); obtain ⟨_, _, _, _, _, _, _, _, _, _, _, _, _, _⟩ := bc7 a2.out; have ct := a8.out; have cu := a5.out; obtain ⟨_, _, _, _, _, _, _, _, _, _, _, _, _, _⟩ := bc7 a0.out))
   refine bodyPost_ret (results_cell_row rfl _ _ a3 34 #[.int .i64 t913, .int .i64 t934, .int .i64 t915, .int .i64 t916, .int .i64 t917, .int .i64 t918, .slice b3 t919.length b4] (0, 0) _ rfl (by (with_reducible repeat first | apply bN_ | apply bD_ | apply bA_); apply fill7; (with_reducible repeat first | apply bN_ | apply bD_ | apply bA_); refine bF_ ?_ a7.out _; (with_reducible repeat first | apply bN_ | apply bD_ | apply bA_); exact a0.out) Try.underlying34 rfl (by kernel_rfl)) rfl ?_
   exact ⟨_, by first | rfl | (simp [errW_none, errW_some] <;> rfl) | (simp [*, errW_none, errW_some] <;> rfl), by (with_reducible repeat first | apply rA_ | apply rN_ | apply rD_); exact Kd.R_mono (rfar7 (g := a3) (Kd.R_far (p := ⟨a4, 1, none⟩) (Kd.R_types (Kd.R_types a1.out a2.out (by decide)) a0.out (by decide)) (fun _ hk => hk.1.2) (.int .i64 t934)) (fun _ hk => hk.2)) (fun _ hk => trivial), by repeat (first | (with_reducible first | exact HI0.out | apply IsS70.alloc | apply IsS70.drewN | apply IsS70.drew | apply IsS70.set_1 | refine IsS70.far ?_ a5.out _ | refine IsS70.far ?_ a6.out _) | exact HI0.out), by repeat (first | (with_reducible first | exact HB.out | apply lA1_ | apply lN_ | apply lD_ | refine lS1_ ?_ (IsS70.ge HI0.out) | refine lS1_ ?_ ac.out | refine lS1_ ?_ ae.out) | exact HB.out), by repeat (first | (with_reducible first | exact HK.out | apply KeepBut.set_ | apply kN_ | apply kD_ | apply kA_ | refine kF_ ?_ ab.out _ | refine kF_ ?_ ad.out _) | exact HK.out)⟩
  ·rw [if_neg c21] at H
   have c21b0 : (t924 == 1) = false := beq_eq_false_iff_ne.mpr c21
   have c21b1 : (t924 != 1) = true := bne_iff_ne.mpr c21
   by_cases c38 : t924 = 2
   ·rw [if_pos c38] at H
    have c38b0 : (t924 == 2) = true := beq_iff_eq.mpr c38
    have c38b1 : (t924 != 2) = false := bne_eq_false_iff_eq.mpr c38
    clear c38
    obtain ⟨y936, hy936⟩ : ∃ y_ : List Int, y_ = (([0, 256, 255, (-1)] : List Int)) := ⟨_, rfl⟩
    replace H : ((spec_l1Pick.f s0_0 t925 y936).bind fun bt939 => (some (t913, t914, bt939.1, t916, t917, t918, t919, bt939.2))) = some (r1, r2, r3, r4, r5, r6, r7, r8) := by first | (rw [hy936]; with_reducible exact H) | (have H2_ := (Option.bind_some _ _).symm.trans H; rw [hy936]; with_reducible exact H2_) | (have H2_ := (Option.bind_some _ _).symm.trans H; with_reducible exact H2_) | with_reducible exact H | (rw [hy936]; exact H) | exact H
    have an := Aside0.mk hy936
    clear hy936
    replace H := Option.bind_eq_some_iff.mp H
    obtain ⟨⟨t939, t940⟩, b5, H⟩ := H
    try dsimp only at H
    have c1 := Aside0.mk b5
    clear b5
    simp only [Option.some.injEq, Prod.mk.injEq] at H
    obtain ⟨rfl, rfl, rfl, rfl, rfl, rfl, rfl, rfl⟩ := H
    go_enter Try.func68, Try.ntmps68
    go_wp2_with (first | ((with_reducible refine gate_dst (N := 2) rfl ?_); refine box_event ?hg (N := 2) ?hd (cs := zs6) (t := 34) ?hr ?_; (case hd => rfl); (case hg => rfl); (case hr => first | (go_simp; done) | (go_simp; rfl)); intro a3 hg w40 hbox hb; have n0_ := Aside0.mk (IsS70.below (by repeat (first | (with_reducible first | exact HI0.out | apply IsS70.alloc | apply IsS70.drewN | apply IsS70.drew | apply IsS70.set_1) | exact HI0.out)) hb); have n1_ := Aside0.mk (KeepBut.trans (by repeat (first | (with_reducible first | exact HK.out | apply KeepBut.set_ | apply kN_ | apply kD_ | apply kA_) | exact HK.out)) (KeepBut.of_below hb g none) (.inl rfl)); have n2_ := Aside0.mk (lP_ (by repeat (first | (with_reducible first | exact HB.out | apply lA1_ | apply lN_ | apply lD_ | refine lS1_ ?_ (IsS70.ge HI0.out)) | exact HB.out)) hb); have n3_ := Aside0.mk (hbox); have n4_ := Aside0.mk ((by rw [hg]; exact (keep_size (w := w) (g := g) (row := none) (by repeat (first | (with_reducible first | exact HK.out | apply KeepBut.set_ | apply kN_ | apply kD_ | apply kA_) | exact HK.out))) : w.heap.size ≤ a3)); have n5_ := Aside0.mk ((Nat.le_trans HW0.out (by rw [hg]; exact (keep_size (w := w) (g := g) (row := none) (by repeat (first | (with_reducible first | exact HK.out | apply KeepBut.set_ | apply kN_ | apply kD_ | apply kA_) | exact HK.out))) : w.heap.size ≤ a3) : w0.heap.size ≤ a3)); have n6_ := Aside0.mk ((by rw [hg]; exact Nat.ne_of_lt (IsS70.lt (show IsS70 w0 _ g s0_0 s0_1 from by repeat (first | (with_reducible first | exact HI0.out | apply IsS70.alloc | apply IsS70.drewN | apply IsS70.drew | apply IsS70.set_1) | exact HI0.out))) : g ≠ a3)); have n7_ := Aside0.mk n6_.out.symm; clear HI0 HK HB; have HI0 := n0_; have HK := n1_; have HB := n2_; have a0 := n3_; have ab := n4_; have ac := n5_; have a5 := n6_; have a8 := n7_; clear n0_ n1_ n2_ n3_ n4_ n5_ n6_ n7_ hb hbox hg) | ((with_reducible refine gate_callee (f := 75) rfl ?_); refine goesA_ (some 5) rfl rfl Try.func75 (by kernel_rfl) rfl #[.pointer (some ⟨g, 0, none⟩)] rfl ?_; (with_reducible refine (spec_l2Packet.calls k g s0_0 s0_1 t913 t914 t915 t916 t917 t918 t919 t922 w0 _ ?side1 ?side2 A2.out).mono ?_); (case side1 => exact HI0.out); (case side2 => exact HB.out); rintro e w41 ⟨v920, rfl, ho0, hi, hb, hk⟩; refine ⟨_, rfl, ?_⟩; have n0_ := Aside0.mk (KeepBut.blk hk a0.out a8.out (by simp)); have n1_ := Aside0.mk (Kd.R_lower ho0 (keep_size (w := w) (g := g) (row := none) HK.out)); have n2_ := Aside0.mk (KeepBut.trans HK.out hk (.inl rfl)); have n3_ := Aside0.mk (hb); have n4_ := Aside0.mk (hi); clear a0 HK HB HI0; have a0 := n0_; have a1 := n1_; have HK := n2_; have HB := n3_; have HI0 := n4_; clear n0_ n1_ n2_ n3_ n4_; (try clear hb); (try clear hb2); (try clear hk); (try clear hi); (try clear ho0)) | ((with_reducible refine gate_dst (N := 3) rfl ?_); refine box_event ?hg (N := 3) ?hd (cs := zs6) (t := 34) ?hr ?_; (case hd => rfl); (case hg => rfl); (case hr => first | (go_simp; done) | (go_simp; rfl)); intro a4 hg w42 hbox hb; have n0_ := Aside0.mk (Kd.R_below a1.out hb); have n1_ := Aside0.mk (IsS70.below HI0.out hb); have n2_ := Aside0.mk (bB_ a0.out hb); have n3_ := Aside0.mk (KeepBut.trans HK.out (KeepBut.of_below hb g none) (.inl rfl)); have n4_ := Aside0.mk (lP_ HB.out hb); have n5_ := Aside0.mk (hbox); have n6_ := Aside0.mk ((by rw [hg]; exact (keep_size (w := w) (g := g) (row := none) HK.out) : w.heap.size ≤ a4)); have n7_ := Aside0.mk ((Nat.le_trans HW0.out (by rw [hg]; exact (keep_size (w := w) (g := g) (row := none) HK.out) : w.heap.size ≤ a4) : w0.heap.size ≤ a4)); have n8_ := Aside0.mk ((by rw [hg]; exact Nat.ne_of_lt (blk_lt a0.out) : a3 ≠ a4)); have n9_ := Aside0.mk n8_.out.symm; have n10_ := Aside0.mk ((by rw [hg]; exact Nat.ne_of_lt (IsS70.lt (show IsS70 w0 _ g s0_0 t922 from HI0.out)) : g ≠ a4)); have n11_ := Aside0.mk n10_.out.symm; clear a1 HI0 a0 HK HB; have a1 := n0_; have HI0 := n1_; have a0 := n2_; have HK := n3_; have HB := n4_; have a2 := n5_; have ad := n6_; have ae := n7_; have a7 := n8_; have aa := n9_; have a6 := n10_; have a9 := n11_; clear n0_ n1_ n2_ n3_ n4_ n5_ n6_ n7_ n8_ n9_ n10_ n11_ hb hbox hg; have cv := aa.out; have cw := a7.out; have cx := a9.out; have cy := a6.out; obtain ⟨_, _, _, _, _, _, _, _, _, _, _, _, _, _⟩ := bc7 a2.out; obtain ⟨b6, b7, eo46⟩ := Kd.R_slice a1.out; subst eo46) | ((with_reducible refine gate_callee (f := 38) rfl ?_); refine goesA_ (some 7) rfl rfl Try.func38 (by kernel_rfl) rfl #[.pointer (some ⟨g, 0, none⟩), .int .i64 20] rfl ?_; (with_reducible refine (spec_l1Next.calls g s0_0 t922 20 t924 t925 w0 _ ?side1 ?side2 A3.out).mono ?_); (case side1 => repeat (first | (with_reducible first | exact HI0.out | apply IsS70.set_1 | refine IsS70.far ?_ a5.out _ | refine IsS70.far ?_ a6.out _) | exact HI0.out)); (case side2 => repeat (first | (with_reducible first | exact HB.out | refine lS1_ ?_ (IsS70.ge HI0.out) | refine lS1_ ?_ ac.out | refine lS1_ ?_ ae.out) | exact HB.out)); rintro e w47 ⟨rfl, hi, hb, hk⟩; refine ⟨_, rfl, ?_⟩; have n0_ := Aside0.mk (KeepBut.blk hk (g' := a3) (o := .cells zs6 34 (0, 0)) (by (iterate 7 (refine bF_ ?_ a7.out _)); exact a0.out) a8.out (by simp)); have n1_ := Aside0.mk (Kd.R_mono (Kd.R_keep (IsS70.apart (show IsS70 w0 _ g s0_0 t922 from by repeat (first | (with_reducible first | exact HI0.out | apply IsS70.set_1 | refine IsS70.far ?_ a5.out _ | refine IsS70.far ?_ a6.out _) | exact HI0.out)) (Kd.R_mono (rfar7 (g := a4) (Kd.R_types a1.out a2.out (by decide)) (fun _ hk => hk.2)) (fun _ h_ => h_.1)) (by decide)) hk (fun _ h => h.2)) (fun _ h => h.1)); have n2_ := Aside0.mk (KeepBut.blk hk (g' := a4) (o := .cells #[.int .i64 t913, .int .i64 t914, .int .i64 t915, .int .i64 t916, .int .i64 t917, .int .i64 t918, .slice b6 t919.length b7] 34 (0, 0)) (by apply fill7; exact a2.out) a9.out (by simp)); have n3_ := Aside0.mk (KeepBut.trans (by repeat (first | (with_reducible first | exact HK.out | apply KeepBut.set_ | refine kF_ ?_ ab.out _ | refine kF_ ?_ ad.out _) | exact HK.out)) hk (.inl rfl)); have n4_ := Aside0.mk (hb); have n5_ := Aside0.mk (hi); clear a0 a1 a2 HK HB HI0; have a0 := n0_; have a1 := n1_; have a2 := n2_; have HK := n3_; have HB := n4_; have HI0 := n5_; clear n0_ n1_ n2_ n3_ n4_ n5_; (try clear hb); (try clear hb2); (try clear hk); (try clear hi)) | ((with_reducible refine gate_dst (N := 23) rfl ?_); refine Kd.R_lit (Kd.int .i64) _ 2 ?hg (N := 23) ?hd (xs := ([0, 256, 255, (-1)] : List Int)) (inner := [.int .i64 0, .int .i64 256, .int .i64 255, .int .i64 (-1)]) (ok := fun _ => True) (okp := fun _ => True) ?hr ?hp (fun _ hk => hk) trivial (Below.refl _ _) (Nat.le_refl _) (by simp) ?_; (case hd => rfl); (case hg => rfl); (case hr => first | (go_simp; done) | (go_simp; rfl)); (case hp => exact (Reps.one (show Kd.M (Kd.int .i64) _ _ _ 0 [.int .i64 0] from rfl) (Reps.one (show Kd.M (Kd.int .i64) _ _ _ 256 [.int .i64 256] from rfl) (Reps.one (show Kd.M (Kd.int .i64) _ _ _ 255 [.int .i64 255] from rfl) (Reps.one (show Kd.M (Kd.int .i64) _ _ _ (-1) [.int .i64 (-1)] from rfl) (Reps.none _ _)))))); intro v937 w48 ho49 hb hg_ hnew_; clear hg_ hnew_; (first | rw [← an.out] at ho49 | (simp only [Int.reduceToNat] at ho49; rw [← an.out] at ho49)); have n0_ := Aside0.mk (Kd.R_below a1.out hb); have n1_ := Aside0.mk (Kd.R_lower ho49 (keep_size (w := w) (g := g) (row := none) HK.out)); have n2_ := Aside0.mk (IsS70.below HI0.out hb); have n3_ := Aside0.mk (bB_ a0.out hb); have n4_ := Aside0.mk (bB_ a2.out hb); have n5_ := Aside0.mk (KeepBut.trans HK.out (KeepBut.of_below hb g none) (.inl rfl)); have n6_ := Aside0.mk (lP_ HB.out hb); clear a1 HI0 a0 a2 HK HB; have a1 := n0_; have ah := n1_; have HI0 := n2_; have a0 := n3_; have a2 := n4_; have HK := n5_; have HB := n6_; clear n0_ n1_ n2_ n3_ n4_ n5_ n6_ hb ho49; obtain ⟨bt, bu, eo50⟩ := Kd.R_slice ah.out; subst eo50) | ((with_reducible refine gate_callee (f := 40) rfl ?_); refine goesA_ (some 24) rfl rfl Try.func40 (by kernel_rfl) rfl #[.pointer (some ⟨g, 0, none⟩), .slice bt y936.length bu] rfl ?_; (with_reducible refine (spec_l1Pick.calls g s0_0 t925 _ _ y936 t939 t940 w0 _ ?side1 ?side2 ?side3 ?side4 ?side5 c1.out).mono ?_); (case side1 => exact HI0.out); (case side2 => exact HB.out); (case side3 => repeat (first | exact (Kd.R_reads' ah.out).2.2 | (with_reducible refine Kd.C_alloc ?_ _) | (with_reducible refine Kd.C_drewN ?_ _) | (with_reducible refine Kd.C_drew ?_))); (case side4 => exact (Kd.R_reads' ah.out).2.1); (case side5 => exact far_slice (IsS70.own_ne HI0.out ah.out (by decide))); rintro e w51 ⟨rfl, hi, hb, hk⟩; refine ⟨_, rfl, ?_⟩; have n0_ := Aside0.mk (KeepBut.blk hk a0.out a8.out (by simp)); have n1_ := Aside0.mk (Kd.R_mono (Kd.R_keep (IsS70.apart (show IsS70 w0 _ g s0_0 t925 from HI0.out) a1.out (by decide)) hk (fun _ h => h.2)) (fun _ h => h.1)); have n2_ := Aside0.mk (KeepBut.blk hk a2.out a9.out (by simp)); have n4_ := Aside0.mk (KeepBut.trans HK.out hk (.inl rfl)); have n5_ := Aside0.mk (hb); have n6_ := Aside0.mk (hi); clear a0 a1 a2 HK HB HI0; have a0 := n0_; have a1 := n1_; have a2 := n2_; have HK := n4_; have HB := n5_; have HI0 := n6_; clear n0_ n1_ n2_ n4_ n5_ n6_; (try clear hb); (try clear hb2); (try clear hk); (try clear hi); obtain ⟨_, _, _, _, _, _, _, _, _, _, _, _, _, _⟩ := bc7 a2.out; have cz := a8.out; have d0 := a5.out; obtain ⟨_, _, _, _, _, _, _, _, _, _, _, _, _, _⟩ := bc7 a0.out))
    refine bodyPost_ret (results_cell_row rfl _ _ a3 34 #[.int .i64 t913, .int .i64 t914, .int .i64 t939, .int .i64 t916, .int .i64 t917, .int .i64 t918, .slice b6 t919.length b7] (0, 0) _ rfl (by (with_reducible repeat first | apply bN_ | apply bD_ | apply bA_); apply fill7; (with_reducible repeat first | apply bN_ | apply bD_ | apply bA_); refine bF_ ?_ a7.out _; (with_reducible repeat first | apply bN_ | apply bD_ | apply bA_); exact a0.out) Try.underlying34 rfl (by kernel_rfl)) rfl ?_
    exact ⟨_, by first | rfl | (simp [errW_none, errW_some] <;> rfl) | (simp [*, errW_none, errW_some] <;> rfl), by (with_reducible repeat first | apply rA_ | apply rN_ | apply rD_); exact Kd.R_mono (rfar7 (g := a3) (Kd.R_far (p := ⟨a4, 2, none⟩) (Kd.R_types (Kd.R_types a1.out a2.out (by decide)) a0.out (by decide)) (fun _ hk => hk.1.2) (.int .i64 t939)) (fun _ hk => hk.2)) (fun _ hk => trivial), by repeat (first | (with_reducible first | exact HI0.out | apply IsS70.alloc | apply IsS70.drewN | apply IsS70.drew | apply IsS70.set_1 | refine IsS70.far ?_ a5.out _ | refine IsS70.far ?_ a6.out _) | exact HI0.out), by repeat (first | (with_reducible first | exact HB.out | apply lA1_ | apply lN_ | apply lD_ | refine lS1_ ?_ (IsS70.ge HI0.out) | refine lS1_ ?_ ac.out | refine lS1_ ?_ ae.out) | exact HB.out), by repeat (first | (with_reducible first | exact HK.out | apply KeepBut.set_ | apply kN_ | apply kD_ | apply kA_ | refine kF_ ?_ ab.out _ | refine kF_ ?_ ad.out _) | exact HK.out)⟩
   ·rw [if_neg c38] at H
    have c38b0 : (t924 == 2) = false := beq_eq_false_iff_ne.mpr c38
    have c38b1 : (t924 != 2) = true := bne_iff_ne.mpr c38
    by_cases c55 : t924 = 3
    ·rw [if_pos c55] at H
     have c55b0 : (t924 == 3) = true := beq_iff_eq.mpr c55
     have c55b1 : (t924 != 3) = false := bne_eq_false_iff_eq.mpr c55
     clear c55
     obtain ⟨y941, hy941⟩ : ∃ y_ : List Int, y_ = (([0, 256, (-1)] : List Int)) := ⟨_, rfl⟩
     replace H : ((spec_l1Pick.f s0_0 t925 y941).bind fun bt944 => (some (t913, t914, t915, bt944.1, t917, t918, t919, bt944.2))) = some (r1, r2, r3, r4, r5, r6, r7, r8) := by first | (rw [hy941]; with_reducible exact H) | (have H2_ := (Option.bind_some _ _).symm.trans H; rw [hy941]; with_reducible exact H2_) | (have H2_ := (Option.bind_some _ _).symm.trans H; with_reducible exact H2_) | with_reducible exact H | (rw [hy941]; exact H) | exact H
     have ao := Aside0.mk hy941
     clear hy941
     replace H := Option.bind_eq_some_iff.mp H
     obtain ⟨⟨t944, t945⟩, b8, H⟩ := H
     try dsimp only at H
     have c2 := Aside0.mk b8
     clear b8
     simp only [Option.some.injEq, Prod.mk.injEq] at H
     obtain ⟨rfl, rfl, rfl, rfl, rfl, rfl, rfl, rfl⟩ := H
     go_enter Try.func68, Try.ntmps68
     go_wp2_with (first | ((with_reducible refine gate_dst (N := 2) rfl ?_); refine box_event ?hg (N := 2) ?hd (cs := zs6) (t := 34) ?hr ?_; (case hd => rfl); (case hg => rfl); (case hr => first | (go_simp; done) | (go_simp; rfl)); intro a3 hg w57 hbox hb; have n0_ := Aside0.mk (IsS70.below (by repeat (first | (with_reducible first | exact HI0.out | apply IsS70.alloc | apply IsS70.drewN | apply IsS70.drew | apply IsS70.set_1) | exact HI0.out)) hb); have n1_ := Aside0.mk (KeepBut.trans (by repeat (first | (with_reducible first | exact HK.out | apply KeepBut.set_ | apply kN_ | apply kD_ | apply kA_) | exact HK.out)) (KeepBut.of_below hb g none) (.inl rfl)); have n2_ := Aside0.mk (lP_ (by repeat (first | (with_reducible first | exact HB.out | apply lA1_ | apply lN_ | apply lD_ | refine lS1_ ?_ (IsS70.ge HI0.out)) | exact HB.out)) hb); have n3_ := Aside0.mk (hbox); have n4_ := Aside0.mk ((by rw [hg]; exact (keep_size (w := w) (g := g) (row := none) (by repeat (first | (with_reducible first | exact HK.out | apply KeepBut.set_ | apply kN_ | apply kD_ | apply kA_) | exact HK.out))) : w.heap.size ≤ a3)); have n5_ := Aside0.mk ((Nat.le_trans HW0.out (by rw [hg]; exact (keep_size (w := w) (g := g) (row := none) (by repeat (first | (with_reducible first | exact HK.out | apply KeepBut.set_ | apply kN_ | apply kD_ | apply kA_) | exact HK.out))) : w.heap.size ≤ a3) : w0.heap.size ≤ a3)); have n6_ := Aside0.mk ((by rw [hg]; exact Nat.ne_of_lt (IsS70.lt (show IsS70 w0 _ g s0_0 s0_1 from by repeat (first | (with_reducible first | exact HI0.out | apply IsS70.alloc | apply IsS70.drewN | apply IsS70.drew | apply IsS70.set_1) | exact HI0.out))) : g ≠ a3)); have n7_ := Aside0.mk n6_.out.symm; clear HI0 HK HB; have HI0 := n0_; have HK := n1_; have HB := n2_; have a0 := n3_; have ab := n4_; have ac := n5_; have a5 := n6_; have a8 := n7_; clear n0_ n1_ n2_ n3_ n4_ n5_ n6_ n7_ hb hbox hg) | ((with_reducible refine gate_callee (f := 75) rfl ?_); refine goesA_ (some 5) rfl rfl Try.func75 (by kernel_rfl) rfl #[.pointer (some ⟨g, 0, none⟩)] rfl ?_; (with_reducible refine (spec_l2Packet.calls k g s0_0 s0_1 t913 t914 t915 t916 t917 t918 t919 t922 w0 _ ?side1 ?side2 A2.out).mono ?_); (case side1 => exact HI0.out); (case side2 => exact HB.out); rintro e w58 ⟨v920, rfl, ho0, hi, hb, hk⟩; refine ⟨_, rfl, ?_⟩; have n0_ := Aside0.mk (KeepBut.blk hk a0.out a8.out (by simp)); have n1_ := Aside0.mk (Kd.R_lower ho0 (keep_size (w := w) (g := g) (row := none) HK.out)); have n2_ := Aside0.mk (KeepBut.trans HK.out hk (.inl rfl)); have n3_ := Aside0.mk (hb); have n4_ := Aside0.mk (hi); clear a0 HK HB HI0; have a0 := n0_; have a1 := n1_; have HK := n2_; have HB := n3_; have HI0 := n4_; clear n0_ n1_ n2_ n3_ n4_; (try clear hb); (try clear hb2); (try clear hk); (try clear hi); (try clear ho0)) | ((with_reducible refine gate_dst (N := 3) rfl ?_); refine box_event ?hg (N := 3) ?hd (cs := zs6) (t := 34) ?hr ?_; (case hd => rfl); (case hg => rfl); (case hr => first | (go_simp; done) | (go_simp; rfl)); intro a4 hg w59 hbox hb; have n0_ := Aside0.mk (Kd.R_below a1.out hb); have n1_ := Aside0.mk (IsS70.below HI0.out hb); have n2_ := Aside0.mk (bB_ a0.out hb); have n3_ := Aside0.mk (KeepBut.trans HK.out (KeepBut.of_below hb g none) (.inl rfl)); have n4_ := Aside0.mk (lP_ HB.out hb); have n5_ := Aside0.mk (hbox); have n6_ := Aside0.mk ((by rw [hg]; exact (keep_size (w := w) (g := g) (row := none) HK.out) : w.heap.size ≤ a4)); have n7_ := Aside0.mk ((Nat.le_trans HW0.out (by rw [hg]; exact (keep_size (w := w) (g := g) (row := none) HK.out) : w.heap.size ≤ a4) : w0.heap.size ≤ a4)); have n8_ := Aside0.mk ((by rw [hg]; exact Nat.ne_of_lt (blk_lt a0.out) : a3 ≠ a4)); have n9_ := Aside0.mk n8_.out.symm; have n10_ := Aside0.mk ((by rw [hg]; exact Nat.ne_of_lt (IsS70.lt (show IsS70 w0 _ g s0_0 t922 from HI0.out)) : g ≠ a4)); have n11_ := Aside0.mk n10_.out.symm; clear a1 HI0 a0 HK HB; have a1 := n0_; have HI0 := n1_; have a0 := n2_; have HK := n3_; have HB := n4_; have a2 := n5_; have ad := n6_; have ae := n7_; have a7 := n8_; have aa := n9_; have a6 := n10_; have a9 := n11_; clear n0_ n1_ n2_ n3_ n4_ n5_ n6_ n7_ n8_ n9_ n10_ n11_ hb hbox hg; have d1 := aa.out; have d2 := a7.out; have d3 := a9.out; have d4 := a6.out; obtain ⟨_, _, _, _, _, _, _, _, _, _, _, _, _, _⟩ := bc7 a2.out; obtain ⟨b9, ba, eo63⟩ := Kd.R_slice a1.out; subst eo63) | ((with_reducible refine gate_callee (f := 38) rfl ?_); refine goesA_ (some 7) rfl rfl Try.func38 (by kernel_rfl) rfl #[.pointer (some ⟨g, 0, none⟩), .int .i64 20] rfl ?_; (with_reducible refine (spec_l1Next.calls g s0_0 t922 20 t924 t925 w0 _ ?side1 ?side2 A3.out).mono ?_); (case side1 => repeat (first | (with_reducible first | exact HI0.out | apply IsS70.set_1 | refine IsS70.far ?_ a5.out _ | refine IsS70.far ?_ a6.out _) | exact HI0.out)); (case side2 => repeat (first | (with_reducible first | exact HB.out | refine lS1_ ?_ (IsS70.ge HI0.out) | refine lS1_ ?_ ac.out | refine lS1_ ?_ ae.out) | exact HB.out)); rintro e w64 ⟨rfl, hi, hb, hk⟩; refine ⟨_, rfl, ?_⟩; have n0_ := Aside0.mk (KeepBut.blk hk (g' := a3) (o := .cells zs6 34 (0, 0)) (by (iterate 7 (refine bF_ ?_ a7.out _)); exact a0.out) a8.out (by simp)); have n1_ := Aside0.mk (Kd.R_mono (Kd.R_keep (IsS70.apart (show IsS70 w0 _ g s0_0 t922 from by repeat (first | (with_reducible first | exact HI0.out | apply IsS70.set_1 | refine IsS70.far ?_ a5.out _ | refine IsS70.far ?_ a6.out _) | exact HI0.out)) (Kd.R_mono (rfar7 (g := a4) (Kd.R_types a1.out a2.out (by decide)) (fun _ hk => hk.2)) (fun _ h_ => h_.1)) (by decide)) hk (fun _ h => h.2)) (fun _ h => h.1)); have n2_ := Aside0.mk (KeepBut.blk hk (g' := a4) (o := .cells #[.int .i64 t913, .int .i64 t914, .int .i64 t915, .int .i64 t916, .int .i64 t917, .int .i64 t918, .slice b9 t919.length ba] 34 (0, 0)) (by apply fill7; exact a2.out) a9.out (by simp)); have n3_ := Aside0.mk (KeepBut.trans (by repeat (first | (with_reducible first | exact HK.out | apply KeepBut.set_ | refine kF_ ?_ ab.out _ | refine kF_ ?_ ad.out _) | exact HK.out)) hk (.inl rfl)); have n4_ := Aside0.mk (hb); have n5_ := Aside0.mk (hi); clear a0 a1 a2 HK HB HI0; have a0 := n0_; have a1 := n1_; have a2 := n2_; have HK := n3_; have HB := n4_; have HI0 := n5_; clear n0_ n1_ n2_ n3_ n4_ n5_; (try clear hb); (try clear hb2); (try clear hk); (try clear hi)) | ((with_reducible refine gate_dst (N := 29) rfl ?_); refine Kd.R_lit (Kd.int .i64) _ 2 ?hg (N := 29) ?hd (xs := ([0, 256, (-1)] : List Int)) (inner := [.int .i64 0, .int .i64 256, .int .i64 (-1)]) (ok := fun _ => True) (okp := fun _ => True) ?hr ?hp (fun _ hk => hk) trivial (Below.refl _ _) (Nat.le_refl _) (by simp) ?_; (case hd => rfl); (case hg => rfl); (case hr => first | (go_simp; done) | (go_simp; rfl)); (case hp => exact (Reps.one (show Kd.M (Kd.int .i64) _ _ _ 0 [.int .i64 0] from rfl) (Reps.one (show Kd.M (Kd.int .i64) _ _ _ 256 [.int .i64 256] from rfl) (Reps.one (show Kd.M (Kd.int .i64) _ _ _ (-1) [.int .i64 (-1)] from rfl) (Reps.none _ _))))); intro v942 w65 ho66 hb hg_ hnew_; clear hg_ hnew_; (first | rw [← ao.out] at ho66 | (simp only [Int.reduceToNat] at ho66; rw [← ao.out] at ho66)); have n0_ := Aside0.mk (Kd.R_below a1.out hb); have n1_ := Aside0.mk (Kd.R_lower ho66 (keep_size (w := w) (g := g) (row := none) HK.out)); have n2_ := Aside0.mk (IsS70.below HI0.out hb); have n3_ := Aside0.mk (bB_ a0.out hb); have n4_ := Aside0.mk (bB_ a2.out hb); have n5_ := Aside0.mk (KeepBut.trans HK.out (KeepBut.of_below hb g none) (.inl rfl)); have n6_ := Aside0.mk (lP_ HB.out hb); clear a1 HI0 a0 a2 HK HB; have a1 := n0_; have ai := n1_; have HI0 := n2_; have a0 := n3_; have a2 := n4_; have HK := n5_; have HB := n6_; clear n0_ n1_ n2_ n3_ n4_ n5_ n6_ hb ho66; obtain ⟨bv, bw, eo67⟩ := Kd.R_slice ai.out; subst eo67) | ((with_reducible refine gate_callee (f := 40) rfl ?_); refine goesA_ (some 30) rfl rfl Try.func40 (by kernel_rfl) rfl #[.pointer (some ⟨g, 0, none⟩), .slice bv y941.length bw] rfl ?_; (with_reducible refine (spec_l1Pick.calls g s0_0 t925 _ _ y941 t944 t945 w0 _ ?side1 ?side2 ?side3 ?side4 ?side5 c2.out).mono ?_); (case side1 => exact HI0.out); (case side2 => exact HB.out); (case side3 => repeat (first | exact (Kd.R_reads' ai.out).2.2 | (with_reducible refine Kd.C_alloc ?_ _) | (with_reducible refine Kd.C_drewN ?_ _) | (with_reducible refine Kd.C_drew ?_))); (case side4 => exact (Kd.R_reads' ai.out).2.1); (case side5 => exact far_slice (IsS70.own_ne HI0.out ai.out (by decide))); rintro e w68 ⟨rfl, hi, hb, hk⟩; refine ⟨_, rfl, ?_⟩; have n0_ := Aside0.mk (KeepBut.blk hk a0.out a8.out (by simp)); have n1_ := Aside0.mk (Kd.R_mono (Kd.R_keep (IsS70.apart (show IsS70 w0 _ g s0_0 t925 from HI0.out) a1.out (by decide)) hk (fun _ h => h.2)) (fun _ h => h.1)); have n2_ := Aside0.mk (KeepBut.blk hk a2.out a9.out (by simp)); have n4_ := Aside0.mk (KeepBut.trans HK.out hk (.inl rfl)); have n5_ := Aside0.mk (hb); have n6_ := Aside0.mk (hi); clear a0 a1 a2 HK HB HI0; have a0 := n0_; have a1 := n1_; have a2 := n2_; have HK := n4_; have HB := n5_; have HI0 := n6_; clear n0_ n1_ n2_ n4_ n5_ n6_; (try clear hb); (try clear hb2); (try clear hk); (try clear hi); obtain ⟨_, _, _, _, _, _, _, _, _, _, _, _, _, _⟩ := bc7 a2.out; have d5 := a8.out; have d6 := a5.out; obtain ⟨_, _, _, _, _, _, _, _, _, _, _, _, _, _⟩ := bc7 a0.out))
     refine bodyPost_ret (results_cell_row rfl _ _ a3 34 #[.int .i64 t913, .int .i64 t914, .int .i64 t915, .int .i64 t944, .int .i64 t917, .int .i64 t918, .slice b9 t919.length ba] (0, 0) _ rfl (by (with_reducible repeat first | apply bN_ | apply bD_ | apply bA_); apply fill7; (with_reducible repeat first | apply bN_ | apply bD_ | apply bA_); refine bF_ ?_ a7.out _; (with_reducible repeat first | apply bN_ | apply bD_ | apply bA_); exact a0.out) Try.underlying34 rfl (by kernel_rfl)) rfl ?_
     exact ⟨_, by first | rfl | (simp [errW_none, errW_some] <;> rfl) | (simp [*, errW_none, errW_some] <;> rfl), by (with_reducible repeat first | apply rA_ | apply rN_ | apply rD_); exact Kd.R_mono (rfar7 (g := a3) (Kd.R_far (p := ⟨a4, 3, none⟩) (Kd.R_types (Kd.R_types a1.out a2.out (by decide)) a0.out (by decide)) (fun _ hk => hk.1.2) (.int .i64 t944)) (fun _ hk => hk.2)) (fun _ hk => trivial), by repeat (first | (with_reducible first | exact HI0.out | apply IsS70.alloc | apply IsS70.drewN | apply IsS70.drew | apply IsS70.set_1 | refine IsS70.far ?_ a5.out _ | refine IsS70.far ?_ a6.out _) | exact HI0.out), by repeat (first | (with_reducible first | exact HB.out | apply lA1_ | apply lN_ | apply lD_ | refine lS1_ ?_ (IsS70.ge HI0.out) | refine lS1_ ?_ ac.out | refine lS1_ ?_ ae.out) | exact HB.out), by repeat (first | (with_reducible first | exact HK.out | apply KeepBut.set_ | apply kN_ | apply kD_ | apply kA_ | refine kF_ ?_ ab.out _ | refine kF_ ?_ ad.out _) | exact HK.out)⟩
    ·rw [if_neg c55] at H
     have c55b0 : (t924 == 3) = false := beq_eq_false_iff_ne.mpr c55
     have c55b1 : (t924 != 3) = true := bne_iff_ne.mpr c55
     by_cases c72 : t924 = 4
     ·rw [if_pos c72] at H
      have c72b0 : (t924 == 4) = true := beq_iff_eq.mpr c72
      have c72b1 : (t924 != 4) = false := bne_eq_false_iff_eq.mpr c72
      clear c72
      obtain ⟨y946, hy946⟩ : ∃ y_ : List Int, y_ = (([(-1), 65536, 5] : List Int)) := ⟨_, rfl⟩
      replace H : ((spec_l1Pick.f s0_0 t925 y946).bind fun bt949 => (some (t913, t914, t915, t916, bt949.1, t918, t919, bt949.2))) = some (r1, r2, r3, r4, r5, r6, r7, r8) := by first | (rw [hy946]; with_reducible exact H) | (have H2_ := (Option.bind_some _ _).symm.trans H; rw [hy946]; with_reducible exact H2_) | (have H2_ := (Option.bind_some _ _).symm.trans H; with_reducible exact H2_) | with_reducible exact H | (rw [hy946]; exact H) | exact H
      have ap := Aside0.mk hy946
      clear hy946
      replace H := Option.bind_eq_some_iff.mp H
      obtain ⟨⟨t949, t950⟩, bb, H⟩ := H
      try dsimp only at H
      have c3 := Aside0.mk bb
      clear bb
      simp only [Option.some.injEq, Prod.mk.injEq] at H
      obtain ⟨rfl, rfl, rfl, rfl, rfl, rfl, rfl, rfl⟩ := H
      go_enter Try.func68, Try.ntmps68
      go_wp2_with (first | ((with_reducible refine gate_dst (N := 2) rfl ?_); refine box_event ?hg (N := 2) ?hd (cs := zs6) (t := 34) ?hr ?_; (case hd => rfl); (case hg => rfl); (case hr => first | (go_simp; done) | (go_simp; rfl)); intro a3 hg w74 hbox hb; have n0_ := Aside0.mk (IsS70.below (by repeat (first | (with_reducible first | exact HI0.out | apply IsS70.alloc | apply IsS70.drewN | apply IsS70.drew | apply IsS70.set_1) | exact HI0.out)) hb); have n1_ := Aside0.mk (KeepBut.trans (by repeat (first | (with_reducible first | exact HK.out | apply KeepBut.set_ | apply kN_ | apply kD_ | apply kA_) | exact HK.out)) (KeepBut.of_below hb g none) (.inl rfl)); have n2_ := Aside0.mk (lP_ (by repeat (first | (with_reducible first | exact HB.out | apply lA1_ | apply lN_ | apply lD_ | refine lS1_ ?_ (IsS70.ge HI0.out)) | exact HB.out)) hb); have n3_ := Aside0.mk (hbox); have n4_ := Aside0.mk ((by rw [hg]; exact (keep_size (w := w) (g := g) (row := none) (by repeat (first | (with_reducible first | exact HK.out | apply KeepBut.set_ | apply kN_ | apply kD_ | apply kA_) | exact HK.out))) : w.heap.size ≤ a3)); have n5_ := Aside0.mk ((Nat.le_trans HW0.out (by rw [hg]; exact (keep_size (w := w) (g := g) (row := none) (by repeat (first | (with_reducible first | exact HK.out | apply KeepBut.set_ | apply kN_ | apply kD_ | apply kA_) | exact HK.out))) : w.heap.size ≤ a3) : w0.heap.size ≤ a3)); have n6_ := Aside0.mk ((by rw [hg]; exact Nat.ne_of_lt (IsS70.lt (show IsS70 w0 _ g s0_0 s0_1 from by repeat (first | (with_reducible first | exact HI0.out | apply IsS70.alloc | apply IsS70.drewN | apply IsS70.drew | apply IsS70.set_1) | exact HI0.out))) : g ≠ a3)); have n7_ := Aside0.mk n6_.out.symm; clear HI0 HK HB; have HI0 := n0_; have HK := n1_; have HB := n2_; have a0 := n3_; have ab := n4_; have ac := n5_; have a5 := n6_; have a8 := n7_; clear n0_ n1_ n2_ n3_ n4_ n5_ n6_ n7_ hb hbox hg) | ((with_reducible refine gate_callee (f := 75) rfl ?_); refine goesA_ (some 5) rfl rfl Try.func75 (by kernel_rfl) rfl #[.pointer (some ⟨g, 0, none⟩)] rfl ?_; (with_reducible refine (spec_l2Packet.calls k g s0_0 s0_1 t913 t914 t915 t916 t917 t918 t919 t922 w0 _ ?side1 ?side2 A2.out).mono ?_); (case side1 => exact HI0.out); (case side2 => exact HB.out); rintro e w75 ⟨v920, rfl, ho0, hi, hb, hk⟩; refine ⟨_, rfl, ?_⟩; have n0_ := Aside0.mk (KeepBut.blk hk a0.out a8.out (by simp)); have n1_ := Aside0.mk (Kd.R_lower ho0 (keep_size (w := w) (g := g) (row := none) HK.out)); have n2_ := Aside0.mk (KeepBut.trans HK.out hk (.inl rfl)); have n3_ := Aside0.mk (hb); have n4_ := Aside0.mk (hi); clear a0 HK HB HI0; have a0 := n0_; have a1 := n1_; have HK := n2_; have HB := n3_; have HI0 := n4_; clear n0_ n1_ n2_ n3_ n4_; (try clear hb); (try clear hb2); (try clear hk); (try clear hi); (try clear ho0)) | ((with_reducible refine gate_dst (N := 3) rfl ?_); refine box_event ?hg (N := 3) ?hd (cs := zs6) (t := 34) ?hr ?_; (case hd => rfl); (case hg => rfl); (case hr => first | (go_simp; done) | (go_simp; rfl)); intro a4 hg w76 hbox hb; have n0_ := Aside0.mk (Kd.R_below a1.out hb); have n1_ := Aside0.mk (IsS70.below HI0.out hb); have n2_ := Aside0.mk (bB_ a0.out hb); have n3_ := Aside0.mk (KeepBut.trans HK.out (KeepBut.of_below hb g none) (.inl rfl)); have n4_ := Aside0.mk (lP_ HB.out hb); have n5_ := Aside0.mk (hbox); have n6_ := Aside0.mk ((by rw [hg]; exact (keep_size (w := w) (g := g) (row := none) HK.out) : w.heap.size ≤ a4)); have n7_ := Aside0.mk ((Nat.le_trans HW0.out (by rw [hg]; exact (keep_size (w := w) (g := g) (row := none) HK.out) : w.heap.size ≤ a4) : w0.heap.size ≤ a4)); have n8_ := Aside0.mk ((by rw [hg]; exact Nat.ne_of_lt (blk_lt a0.out) : a3 ≠ a4)); have n9_ := Aside0.mk n8_.out.symm; have n10_ := Aside0.mk ((by rw [hg]; exact Nat.ne_of_lt (IsS70.lt (show IsS70 w0 _ g s0_0 t922 from HI0.out)) : g ≠ a4)); have n11_ := Aside0.mk n10_.out.symm; clear a1 HI0 a0 HK HB; have a1 := n0_; have HI0 := n1_; have a0 := n2_; have HK := n3_; have HB := n4_; have a2 := n5_; have ad := n6_; have ae := n7_; have a7 := n8_; have aa := n9_; have a6 := n10_; have a9 := n11_; clear n0_ n1_ n2_ n3_ n4_ n5_ n6_ n7_ n8_ n9_ n10_ n11_ hb hbox hg; have d7 := aa.out; have d8 := a7.out; have d9 := a9.out; have da := a6.out; obtain ⟨_, _, _, _, _, _, _, _, _, _, _, _, _, _⟩ := bc7 a2.out; obtain ⟨bc, bd, eo80⟩ := Kd.R_slice a1.out; subst eo80) | ((with_reducible refine gate_callee (f := 38) rfl ?_); refine goesA_ (some 7) rfl rfl Try.func38 (by kernel_rfl) rfl #[.pointer (some ⟨g, 0, none⟩), .int .i64 20] rfl ?_; (with_reducible refine (spec_l1Next.calls g s0_0 t922 20 t924 t925 w0 _ ?side1 ?side2 A3.out).mono ?_); (case side1 => repeat (first | (with_reducible first | exact HI0.out | apply IsS70.set_1 | refine IsS70.far ?_ a5.out _ | refine IsS70.far ?_ a6.out _) | exact HI0.out)); (case side2 => repeat (first | (with_reducible first | exact HB.out | refine lS1_ ?_ (IsS70.ge HI0.out) | refine lS1_ ?_ ac.out | refine lS1_ ?_ ae.out) | exact HB.out)); rintro e w81 ⟨rfl, hi, hb, hk⟩; refine ⟨_, rfl, ?_⟩; have n0_ := Aside0.mk (KeepBut.blk hk (g' := a3) (o := .cells zs6 34 (0, 0)) (by (iterate 7 (refine bF_ ?_ a7.out _)); exact a0.out) a8.out (by simp)); have n1_ := Aside0.mk (Kd.R_mono (Kd.R_keep (IsS70.apart (show IsS70 w0 _ g s0_0 t922 from by repeat (first | (with_reducible first | exact HI0.out | apply IsS70.set_1 | refine IsS70.far ?_ a5.out _ | refine IsS70.far ?_ a6.out _) | exact HI0.out)) (Kd.R_mono (rfar7 (g := a4) (Kd.R_types a1.out a2.out (by decide)) (fun _ hk => hk.2)) (fun _ h_ => h_.1)) (by decide)) hk (fun _ h => h.2)) (fun _ h => h.1)); have n2_ := Aside0.mk (KeepBut.blk hk (g' := a4) (o := .cells #[.int .i64 t913, .int .i64 t914, .int .i64 t915, .int .i64 t916, .int .i64 t917, .int .i64 t918, .slice bc t919.length bd] 34 (0, 0)) (by apply fill7; exact a2.out) a9.out (by simp)); have n3_ := Aside0.mk (KeepBut.trans (by repeat (first | (with_reducible first | exact HK.out | apply KeepBut.set_ | refine kF_ ?_ ab.out _ | refine kF_ ?_ ad.out _) | exact HK.out)) hk (.inl rfl)); have n4_ := Aside0.mk (hb); have n5_ := Aside0.mk (hi); clear a0 a1 a2 HK HB HI0; have a0 := n0_; have a1 := n1_; have a2 := n2_; have HK := n3_; have HB := n4_; have HI0 := n5_; clear n0_ n1_ n2_ n3_ n4_ n5_; (try clear hb); (try clear hb2); (try clear hk); (try clear hi)) | ((with_reducible refine gate_dst (N := 35) rfl ?_); refine Kd.R_lit (Kd.int .i64) _ 2 ?hg (N := 35) ?hd (xs := ([(-1), 65536, 5] : List Int)) (inner := [.int .i64 (-1), .int .i64 65536, .int .i64 5]) (ok := fun _ => True) (okp := fun _ => True) ?hr ?hp (fun _ hk => hk) trivial (Below.refl _ _) (Nat.le_refl _) (by simp) ?_; (case hd => rfl); (case hg => rfl); (case hr => first | (go_simp; done) | (go_simp; rfl)); (case hp => exact (Reps.one (show Kd.M (Kd.int .i64) _ _ _ (-1) [.int .i64 (-1)] from rfl) (Reps.one (show Kd.M (Kd.int .i64) _ _ _ 65536 [.int .i64 65536] from rfl) (Reps.one (show Kd.M (Kd.int .i64) _ _ _ 5 [.int .i64 5] from rfl) (Reps.none _ _))))); intro v947 w82 ho83 hb hg_ hnew_; clear hg_ hnew_; (first | rw [← ap.out] at ho83 | (simp only [Int.reduceToNat] at ho83; rw [← ap.out] at ho83)); have n0_ := Aside0.mk (Kd.R_below a1.out hb); have n1_ := Aside0.mk (Kd.R_lower ho83 (keep_size (w := w) (g := g) (row := none) HK.out)); have n2_ := Aside0.mk (IsS70.below HI0.out hb); have n3_ := Aside0.mk (bB_ a0.out hb); have n4_ := Aside0.mk (bB_ a2.out hb); have n5_ := Aside0.mk (KeepBut.trans HK.out (KeepBut.of_below hb g none) (.inl rfl)); have n6_ := Aside0.mk (lP_ HB.out hb); clear a1 HI0 a0 a2 HK HB; have a1 := n0_; have aj := n1_; have HI0 := n2_; have a0 := n3_; have a2 := n4_; have HK := n5_; have HB := n6_; clear n0_ n1_ n2_ n3_ n4_ n5_ n6_ hb ho83; obtain ⟨bx, bz, eo84⟩ := Kd.R_slice aj.out; subst eo84) | ((with_reducible refine gate_callee (f := 40) rfl ?_); refine goesA_ (some 36) rfl rfl Try.func40 (by kernel_rfl) rfl #[.pointer (some ⟨g, 0, none⟩), .slice bx y946.length bz] rfl ?_; (with_reducible refine (spec_l1Pick.calls g s0_0 t925 _ _ y946 t949 t950 w0 _ ?side1 ?side2 ?side3 ?side4 ?side5 c3.out).mono ?_); (case side1 => exact HI0.out); (case side2 => exact HB.out); (case side3 => repeat (first | exact (Kd.R_reads' aj.out).2.2 | (with_reducible refine Kd.C_alloc ?_ _) | (with_reducible refine Kd.C_drewN ?_ _) | (with_reducible refine Kd.C_drew ?_))); (case side4 => exact (Kd.R_reads' aj.out).2.1); (case side5 => exact far_slice (IsS70.own_ne HI0.out aj.out (by decide))); rintro e w85 ⟨rfl, hi, hb, hk⟩; refine ⟨_, rfl, ?_⟩; have n0_ := Aside0.mk (KeepBut.blk hk a0.out a8.out (by simp)); have n1_ := Aside0.mk (Kd.R_mono (Kd.R_keep (IsS70.apart (show IsS70 w0 _ g s0_0 t925 from HI0.out) a1.out (by decide)) hk (fun _ h => h.2)) (fun _ h => h.1)); have n2_ := Aside0.mk (KeepBut.blk hk a2.out a9.out (by simp)); have n4_ := Aside0.mk (KeepBut.trans HK.out hk (.inl rfl)); have n5_ := Aside0.mk (hb); have n6_ := Aside0.mk (hi); clear a0 a1 a2 HK HB HI0; have a0 := n0_; have a1 := n1_; have a2 := n2_; have HK := n4_; have HB := n5_; have HI0 := n6_; clear n0_ n1_ n2_ n4_ n5_ n6_; (try clear hb); (try clear hb2); (try clear hk); (try clear hi); obtain ⟨_, _, _, _, _, _, _, _, _, _, _, _, _, _⟩ := bc7 a2.out; have db := a8.out; have dc := a5.out; obtain ⟨_, _, _, _, _, _, _, _, _, _, _, _, _, _⟩ := bc7 a0.out))
      refine bodyPost_ret (results_cell_row rfl _ _ a3 34 #[.int .i64 t913, .int .i64 t914, .int .i64 t915, .int .i64 t916, .int .i64 t949, .int .i64 t918, .slice bc t919.length bd] (0, 0) _ rfl (by (with_reducible repeat first | apply bN_ | apply bD_ | apply bA_); apply fill7; (with_reducible repeat first | apply bN_ | apply bD_ | apply bA_); refine bF_ ?_ a7.out _; (with_reducible repeat first | apply bN_ | apply bD_ | apply bA_); exact a0.out) Try.underlying34 rfl (by kernel_rfl)) rfl ?_
      exact ⟨_, by first | rfl | (simp [errW_none, errW_some] <;> rfl) | (simp [*, errW_none, errW_some] <;> rfl), by (with_reducible repeat first | apply rA_ | apply rN_ | apply rD_); exact Kd.R_mono (rfar7 (g := a3) (Kd.R_far (p := ⟨a4, 4, none⟩) (Kd.R_types (Kd.R_types a1.out a2.out (by decide)) a0.out (by decide)) (fun _ hk => hk.1.2) (.int .i64 t949)) (fun _ hk => hk.2)) (fun _ hk => trivial), by repeat (first | (with_reducible first | exact HI0.out | apply IsS70.alloc | apply IsS70.drewN | apply IsS70.drew | apply IsS70.set_1 | refine IsS70.far ?_ a5.out _ | refine IsS70.far ?_ a6.out _) | exact HI0.out), by repeat (first | (with_reducible first | exact HB.out | apply lA1_ | apply lN_ | apply lD_ | refine lS1_ ?_ (IsS70.ge HI0.out) | refine lS1_ ?_ ac.out | refine lS1_ ?_ ae.out) | exact HB.out), by repeat (first | (with_reducible first | exact HK.out | apply KeepBut.set_ | apply kN_ | apply kD_ | apply kA_ | refine kF_ ?_ ab.out _ | refine kF_ ?_ ad.out _) | exact HK.out)⟩
     ·rw [if_neg c72] at H
      have c72b0 : (t924 == 4) = false := beq_eq_false_iff_ne.mpr c72
      have c72b1 : (t924 != 4) = true := bne_iff_ne.mpr c72
      by_cases c89 : t924 = 5
      ·rw [if_pos c89] at H
       have c89b0 : (t924 == 5) = true := beq_iff_eq.mpr c89
       have c89b1 : (t924 != 5) = false := bne_eq_false_iff_eq.mpr c89
       clear c89
       obtain ⟨y951, hy951⟩ : ∃ y_ : List Int, y_ = (([(-1), 65536, 5] : List Int)) := ⟨_, rfl⟩
       replace H : ((spec_l1Pick.f s0_0 t925 y951).bind fun bt954 => (some (t913, t914, t915, t916, t917, bt954.1, t919, bt954.2))) = some (r1, r2, r3, r4, r5, r6, r7, r8) := by first | (rw [hy951]; with_reducible exact H) | (have H2_ := (Option.bind_some _ _).symm.trans H; rw [hy951]; with_reducible exact H2_) | (have H2_ := (Option.bind_some _ _).symm.trans H; with_reducible exact H2_) | with_reducible exact H | (rw [hy951]; exact H) | exact H
       have aq := Aside0.mk hy951
       clear hy951
       replace H := Option.bind_eq_some_iff.mp H
       obtain ⟨⟨t954, t955⟩, be, H⟩ := H
       try dsimp only at H
       have c5 := Aside0.mk be
       clear be
       simp only [Option.some.injEq, Prod.mk.injEq] at H
       obtain ⟨rfl, rfl, rfl, rfl, rfl, rfl, rfl, rfl⟩ := H
       go_enter Try.func68, Try.ntmps68
       go_wp2_with (first | ((with_reducible refine gate_dst (N := 2) rfl ?_); refine box_event ?hg (N := 2) ?hd (cs := zs6) (t := 34) ?hr ?_; (case hd => rfl); (case hg => rfl); (case hr => first | (go_simp; done) | (go_simp; rfl)); intro a3 hg w91 hbox hb; have n0_ := Aside0.mk (IsS70.below (by repeat (first | (with_reducible first | exact HI0.out | apply IsS70.alloc | apply IsS70.drewN | apply IsS70.drew | apply IsS70.set_1) | exact HI0.out)) hb); have n1_ := Aside0.mk (KeepBut.trans (by repeat (first | (with_reducible first | exact HK.out | apply KeepBut.set_ | apply kN_ | apply kD_ | apply kA_) | exact HK.out)) (KeepBut.of_below hb g none) (.inl rfl)); have n2_ := Aside0.mk (lP_ (by repeat (first | (with_reducible first | exact HB.out | apply lA1_ | apply lN_ | apply lD_ | refine lS1_ ?_ (IsS70.ge HI0.out)) | exact HB.out)) hb); have n3_ := Aside0.mk (hbox); have n4_ := Aside0.mk ((by rw [hg]; exact (keep_size (w := w) (g := g) (row := none) (by repeat (first | (with_reducible first | exact HK.out | apply KeepBut.set_ | apply kN_ | apply kD_ | apply kA_) | exact HK.out))) : w.heap.size ≤ a3)); have n5_ := Aside0.mk ((Nat.le_trans HW0.out (by rw [hg]; exact (keep_size (w := w) (g := g) (row := none) (by repeat (first | (with_reducible first | exact HK.out | apply KeepBut.set_ | apply kN_ | apply kD_ | apply kA_) | exact HK.out))) : w.heap.size ≤ a3) : w0.heap.size ≤ a3)); have n6_ := Aside0.mk ((by rw [hg]; exact Nat.ne_of_lt (IsS70.lt (show IsS70 w0 _ g s0_0 s0_1 from by repeat (first | (with_reducible first | exact HI0.out | apply IsS70.alloc | apply IsS70.drewN | apply IsS70.drew | apply IsS70.set_1) | exact HI0.out))) : g ≠ a3)); have n7_ := Aside0.mk n6_.out.symm; clear HI0 HK HB; have HI0 := n0_; have HK := n1_; have HB := n2_; have a0 := n3_; have ab := n4_; have ac := n5_; have a5 := n6_; have a8 := n7_; clear n0_ n1_ n2_ n3_ n4_ n5_ n6_ n7_ hb hbox hg) | ((with_reducible refine gate_callee (f := 75) rfl ?_); refine goesA_ (some 5) rfl rfl Try.func75 (by kernel_rfl) rfl #[.pointer (some ⟨g, 0, none⟩)] rfl ?_; (with_reducible refine (spec_l2Packet.calls k g s0_0 s0_1 t913 t914 t915 t916 t917 t918 t919 t922 w0 _ ?side1 ?side2 A2.out).mono ?_); (case side1 => exact HI0.out); (case side2 => exact HB.out); rintro e w92 ⟨v920, rfl, ho0, hi, hb, hk⟩; refine ⟨_, rfl, ?_⟩; have n0_ := Aside0.mk (KeepBut.blk hk a0.out a8.out (by simp)); have n1_ := Aside0.mk (Kd.R_lower ho0 (keep_size (w := w) (g := g) (row := none) HK.out)); have n2_ := Aside0.mk (KeepBut.trans HK.out hk (.inl rfl)); have n3_ := Aside0.mk (hb); have n4_ := Aside0.mk (hi); clear a0 HK HB HI0; have a0 := n0_; have a1 := n1_; have HK := n2_; have HB := n3_; have HI0 := n4_; clear n0_ n1_ n2_ n3_ n4_; (try clear hb); (try clear hb2); (try clear hk); (try clear hi); (try clear ho0)) | ((with_reducible refine gate_dst (N := 3) rfl ?_); refine box_event ?hg (N := 3) ?hd (cs := zs6) (t := 34) ?hr ?_; (case hd => rfl); (case hg => rfl); (case hr => first | (go_simp; done) | (go_simp; rfl)); intro a4 hg w93 hbox hb; have n0_ := Aside0.mk (Kd.R_below a1.out hb); have n1_ := Aside0.mk (IsS70.below HI0.out hb); have n2_ := Aside0.mk (bB_ a0.out hb); have n3_ := Aside0.mk (KeepBut.trans HK.out (KeepBut.of_below hb g none) (.inl rfl)); have n4_ := Aside0.mk (lP_ HB.out hb); have n5_ := Aside0.mk (hbox); have n6_ := Aside0.mk ((by rw [hg]; exact (keep_size (w := w) (g := g) (row := none) HK.out) : w.heap.size ≤ a4)); have n7_ := Aside0.mk ((Nat.le_trans HW0.out (by rw [hg]; exact (keep_size (w := w) (g := g) (row := none) HK.out) : w.heap.size ≤ a4) : w0.heap.size ≤ a4)); have n8_ := Aside0.mk ((by rw [hg]; exact Nat.ne_of_lt (blk_lt a0.out) : a3 ≠ a4)); have n9_ := Aside0.mk n8_.out.symm; have n10_ := Aside0.mk ((by rw [hg]; exact Nat.ne_of_lt (IsS70.lt (show IsS70 w0 _ g s0_0 t922 from HI0.out)) : g ≠ a4)); have n11_ := Aside0.mk n10_.out.symm; clear a1 HI0 a0 HK HB; have a1 := n0_; have HI0 := n1_; have a0 := n2_; have HK := n3_; have HB := n4_; have a2 := n5_; have ad := n6_; have ae := n7_; have a7 := n8_; have aa := n9_; have a6 := n10_; have a9 := n11_; clear n0_ n1_ n2_ n3_ n4_ n5_ n6_ n7_ n8_ n9_ n10_ n11_ hb hbox hg; have dd := aa.out; have de := a7.out; have df := a9.out; have dg := a6.out; obtain ⟨_, _, _, _, _, _, _, _, _, _, _, _, _, _⟩ := bc7 a2.out; obtain ⟨bf, bg, eo97⟩ := Kd.R_slice a1.out; subst eo97) | ((with_reducible refine gate_callee (f := 38) rfl ?_); refine goesA_ (some 7) rfl rfl Try.func38 (by kernel_rfl) rfl #[.pointer (some ⟨g, 0, none⟩), .int .i64 20] rfl ?_; (with_reducible refine (spec_l1Next.calls g s0_0 t922 20 t924 t925 w0 _ ?side1 ?side2 A3.out).mono ?_); (case side1 => repeat (first | (with_reducible first | exact HI0.out | apply IsS70.set_1 | refine IsS70.far ?_ a5.out _ | refine IsS70.far ?_ a6.out _) | exact HI0.out)); (case side2 => repeat (first | (with_reducible first | exact HB.out | refine lS1_ ?_ (IsS70.ge HI0.out) | refine lS1_ ?_ ac.out | refine lS1_ ?_ ae.out) | exact HB.out)); rintro e w98 ⟨rfl, hi, hb, hk⟩; refine ⟨_, rfl, ?_⟩; have n0_ := Aside0.mk (KeepBut.blk hk (g' := a3) (o := .cells zs6 34 (0, 0)) (by (iterate 7 (refine bF_ ?_ a7.out _)); exact a0.out) a8.out (by simp)); have n1_ := Aside0.mk (Kd.R_mono (Kd.R_keep (IsS70.apart (show IsS70 w0 _ g s0_0 t922 from by repeat (first | (with_reducible first | exact HI0.out | apply IsS70.set_1 | refine IsS70.far ?_ a5.out _ | refine IsS70.far ?_ a6.out _) | exact HI0.out)) (Kd.R_mono (rfar7 (g := a4) (Kd.R_types a1.out a2.out (by decide)) (fun _ hk => hk.2)) (fun _ h_ => h_.1)) (by decide)) hk (fun _ h => h.2)) (fun _ h => h.1)); have n2_ := Aside0.mk (KeepBut.blk hk (g' := a4) (o := .cells #[.int .i64 t913, .int .i64 t914, .int .i64 t915, .int .i64 t916, .int .i64 t917, .int .i64 t918, .slice bf t919.length bg] 34 (0, 0)) (by apply fill7; exact a2.out) a9.out (by simp)); have n3_ := Aside0.mk (KeepBut.trans (by repeat (first | (with_reducible first | exact HK.out | apply KeepBut.set_ | refine kF_ ?_ ab.out _ | refine kF_ ?_ ad.out _) | exact HK.out)) hk (.inl rfl)); have n4_ := Aside0.mk (hb); have n5_ := Aside0.mk (hi); clear a0 a1 a2 HK HB HI0; have a0 := n0_; have a1 := n1_; have a2 := n2_; have HK := n3_; have HB := n4_; have HI0 := n5_; clear n0_ n1_ n2_ n3_ n4_ n5_; (try clear hb); (try clear hb2); (try clear hk); (try clear hi)) | ((with_reducible refine gate_dst (N := 41) rfl ?_); refine Kd.R_lit (Kd.int .i64) _ 2 ?hg (N := 41) ?hd (xs := ([(-1), 65536, 5] : List Int)) (inner := [.int .i64 (-1), .int .i64 65536, .int .i64 5]) (ok := fun _ => True) (okp := fun _ => True) ?hr ?hp (fun _ hk => hk) trivial (Below.refl _ _) (Nat.le_refl _) (by simp) ?_; (case hd => rfl); (case hg => rfl); (case hr => first | (go_simp; done) | (go_simp; rfl)); (case hp => exact (Reps.one (show Kd.M (Kd.int .i64) _ _ _ (-1) [.int .i64 (-1)] from rfl) (Reps.one (show Kd.M (Kd.int .i64) _ _ _ 65536 [.int .i64 65536] from rfl) (Reps.one (show Kd.M (Kd.int .i64) _ _ _ 5 [.int .i64 5] from rfl) (Reps.none _ _))))); intro v952 w99 ho100 hb hg_ hnew_; clear hg_ hnew_; (first | rw [← aq.out] at ho100 | (simp only [Int.reduceToNat] at ho100; rw [← aq.out] at ho100)); have n0_ := Aside0.mk (Kd.R_below a1.out hb); have n1_ := Aside0.mk (Kd.R_lower ho100 (keep_size (w := w) (g := g) (row := none) HK.out)); have n2_ := Aside0.mk (IsS70.below HI0.out hb); have n3_ := Aside0.mk (bB_ a0.out hb); have n4_ := Aside0.mk (bB_ a2.out hb); have n5_ := Aside0.mk (KeepBut.trans HK.out (KeepBut.of_below hb g none) (.inl rfl)); have n6_ := Aside0.mk (lP_ HB.out hb); clear a1 HI0 a0 a2 HK HB; have a1 := n0_; have ak := n1_; have HI0 := n2_; have a0 := n3_; have a2 := n4_; have HK := n5_; have HB := n6_; clear n0_ n1_ n2_ n3_ n4_ n5_ n6_ hb ho100; obtain ⟨bi, bj, eo101⟩ := Kd.R_slice ak.out; subst eo101) | ((with_reducible refine gate_callee (f := 40) rfl ?_); refine goesA_ (some 42) rfl rfl Try.func40 (by kernel_rfl) rfl #[.pointer (some ⟨g, 0, none⟩), .slice bi y951.length bj] rfl ?_; (with_reducible refine (spec_l1Pick.calls g s0_0 t925 _ _ y951 t954 t955 w0 _ ?side1 ?side2 ?side3 ?side4 ?side5 c5.out).mono ?_); (case side1 => exact HI0.out); (case side2 => exact HB.out); (case side3 => repeat (first | exact (Kd.R_reads' ak.out).2.2 | (with_reducible refine Kd.C_alloc ?_ _) | (with_reducible refine Kd.C_drewN ?_ _) | (with_reducible refine Kd.C_drew ?_))); (case side4 => exact (Kd.R_reads' ak.out).2.1); (case side5 => exact far_slice (IsS70.own_ne HI0.out ak.out (by decide))); rintro e w102 ⟨rfl, hi, hb, hk⟩; refine ⟨_, rfl, ?_⟩; have n0_ := Aside0.mk (KeepBut.blk hk a0.out a8.out (by simp)); have n1_ := Aside0.mk (Kd.R_mono (Kd.R_keep (IsS70.apart (show IsS70 w0 _ g s0_0 t925 from HI0.out) a1.out (by decide)) hk (fun _ h => h.2)) (fun _ h => h.1)); have n2_ := Aside0.mk (KeepBut.blk hk a2.out a9.out (by simp)); have n4_ := Aside0.mk (KeepBut.trans HK.out hk (.inl rfl)); have n5_ := Aside0.mk (hb); have n6_ := Aside0.mk (hi); clear a0 a1 a2 HK HB HI0; have a0 := n0_; have a1 := n1_; have a2 := n2_; have HK := n4_; have HB := n5_; have HI0 := n6_; clear n0_ n1_ n2_ n4_ n5_ n6_; (try clear hb); (try clear hb2); (try clear hk); (try clear hi); obtain ⟨_, _, _, _, _, _, _, _, _, _, _, _, _, _⟩ := bc7 a2.out; have c6 := a8.out; have c7 := a5.out; obtain ⟨_, _, _, _, _, _, _, _, _, _, _, _, _, _⟩ := bc7 a0.out))
       refine bodyPost_ret (results_cell_row rfl _ _ a3 34 #[.int .i64 t913, .int .i64 t914, .int .i64 t915, .int .i64 t916, .int .i64 t917, .int .i64 t954, .slice bf t919.length bg] (0, 0) _ rfl (by (with_reducible repeat first | apply bN_ | apply bD_ | apply bA_); apply fill7; (with_reducible repeat first | apply bN_ | apply bD_ | apply bA_); refine bF_ ?_ a7.out _; (with_reducible repeat first | apply bN_ | apply bD_ | apply bA_); exact a0.out) Try.underlying34 rfl (by kernel_rfl)) rfl ?_
       exact ⟨_, by first | rfl | (simp [errW_none, errW_some] <;> rfl) | (simp [*, errW_none, errW_some] <;> rfl), by (with_reducible repeat first | apply rA_ | apply rN_ | apply rD_); exact Kd.R_mono (rfar7 (g := a3) (Kd.R_far (p := ⟨a4, 5, none⟩) (Kd.R_types (Kd.R_types a1.out a2.out (by decide)) a0.out (by decide)) (fun _ hk => hk.1.2) (.int .i64 t954)) (fun _ hk => hk.2)) (fun _ hk => trivial), by repeat (first | (with_reducible first | exact HI0.out | apply IsS70.alloc | apply IsS70.drewN | apply IsS70.drew | apply IsS70.set_1 | refine IsS70.far ?_ a5.out _ | refine IsS70.far ?_ a6.out _) | exact HI0.out), by repeat (first | (with_reducible first | exact HB.out | apply lA1_ | apply lN_ | apply lD_ | refine lS1_ ?_ (IsS70.ge HI0.out) | refine lS1_ ?_ ac.out | refine lS1_ ?_ ae.out) | exact HB.out), by repeat (first | (with_reducible first | exact HK.out | apply KeepBut.set_ | apply kN_ | apply kD_ | apply kA_ | refine kF_ ?_ ab.out _ | refine kF_ ?_ ad.out _) | exact HK.out)⟩
      ·rw [if_neg c89] at H
       have c89b0 : (t924 == 5) = false := beq_eq_false_iff_ne.mpr c89
       have c89b1 : (t924 != 5) = true := bne_iff_ne.mpr c89
       by_cases c106 : t924 = 6
       ·rw [if_pos c106] at H
        have c106b0 : (t924 == 6) = true := beq_iff_eq.mpr c106
        have c106b1 : (t924 != 6) = false := bne_eq_false_iff_eq.mpr c106
        clear c106
        replace H := Option.bind_eq_some_iff.mp H
        obtain ⟨⟨t956, t957⟩, ar, H⟩ := H
        try dsimp only at H
        have bh := Aside0.mk ar
        clear ar
        obtain ⟨ji108, hji108⟩ : ∃ j_ : Int, (wrap64 (200 + t956)) = j_ := ⟨_, rfl⟩
        replace H : (if 0 ≤ (ji108) then (if (ji108 : Int).toNat ≤ 281474976710656 then (some (t913, t914, t915, t916, t917, t918, (List.replicate (ji108 : Int).toNat 0), t957)) else (none)) else (none)) = some (r1, r2, r3, r4, r5, r6, r7, r8) := by first | (rw [hji108] at H; exact H) | (simp only [hji108] at H ⊢; exact H)
        (try rw [hji108] at A2)
        (try rw [hji108] at A3)
        (try rw [hji108] at bh)
        have hji108w : (IntKind.i64.wrap (200 + t956)) = ji108 := (i64_w _).trans hji108
        by_cases c109 : 0 ≤ (ji108)
        ·rw [if_pos c109] at H
         have c109b0 := eq_true c109
         have c109b1 : decide (0 ≤ (ji108)) = true := decide_eq_true c109
         clear c109
         by_cases c110 : (ji108 : Int).toNat ≤ 281474976710656
         ·rw [if_pos c110] at H
          have c110b0 := eq_true c110
          have c110b1 : decide ((ji108 : Int).toNat ≤ 281474976710656) = true := decide_eq_true c110
          clear c110
          obtain ⟨y958, hy958⟩ : ∃ y_ : List Int, y_ = (List.replicate (ji108 : Int).toNat 0) := ⟨_, rfl⟩
          replace H : (some (t913, t914, t915, t916, t917, t918, y958, t957)) = some (r1, r2, r3, r4, r5, r6, r7, r8) := by first | (rw [hy958]; with_reducible exact H) | (have H2_ := (Option.bind_some _ _).symm.trans H; rw [hy958]; with_reducible exact H2_) | (have H2_ := (Option.bind_some _ _).symm.trans H; with_reducible exact H2_) | with_reducible exact H | (rw [hy958]; exact H) | exact H
          have au := Aside0.mk hy958
          clear hy958
          simp only [Option.some.injEq, Prod.mk.injEq] at H
          obtain ⟨rfl, rfl, rfl, rfl, rfl, rfl, rfl, rfl⟩ := H
          go_enter Try.func68, Try.ntmps68
          go_wp2_with (first | ((with_reducible refine gate_dst (N := 2) rfl ?_); refine box_event ?hg (N := 2) ?hd (cs := zs6) (t := 34) ?hr ?_; (case hd => rfl); (case hg => rfl); (case hr => first | (go_simp; done) | (go_simp; rfl)); intro a3 hg w111 hbox hb; have n0_ := Aside0.mk (IsS70.below (by repeat (first | (with_reducible first | exact HI0.out | apply IsS70.alloc | apply IsS70.drewN | apply IsS70.drew | apply IsS70.set_1) | exact HI0.out)) hb); have n1_ := Aside0.mk (KeepBut.trans (by repeat (first | (with_reducible first | exact HK.out | apply KeepBut.set_ | apply kN_ | apply kD_ | apply kA_) | exact HK.out)) (KeepBut.of_below hb g none) (.inl rfl)); have n2_ := Aside0.mk (lP_ (by repeat (first | (with_reducible first | exact HB.out | apply lA1_ | apply lN_ | apply lD_ | refine lS1_ ?_ (IsS70.ge HI0.out)) | exact HB.out)) hb); have n3_ := Aside0.mk (hbox); have n4_ := Aside0.mk ((by rw [hg]; exact (keep_size (w := w) (g := g) (row := none) (by repeat (first | (with_reducible first | exact HK.out | apply KeepBut.set_ | apply kN_ | apply kD_ | apply kA_) | exact HK.out))) : w.heap.size ≤ a3)); have n5_ := Aside0.mk ((Nat.le_trans HW0.out (by rw [hg]; exact (keep_size (w := w) (g := g) (row := none) (by repeat (first | (with_reducible first | exact HK.out | apply KeepBut.set_ | apply kN_ | apply kD_ | apply kA_) | exact HK.out))) : w.heap.size ≤ a3) : w0.heap.size ≤ a3)); have n6_ := Aside0.mk ((by rw [hg]; exact Nat.ne_of_lt (IsS70.lt (show IsS70 w0 _ g s0_0 s0_1 from by repeat (first | (with_reducible first | exact HI0.out | apply IsS70.alloc | apply IsS70.drewN | apply IsS70.drew | apply IsS70.set_1) | exact HI0.out))) : g ≠ a3)); have n7_ := Aside0.mk n6_.out.symm; clear HI0 HK HB; have HI0 := n0_; have HK := n1_; have HB := n2_; have a0 := n3_; have ab := n4_; have ac := n5_; have a5 := n6_; have a8 := n7_; clear n0_ n1_ n2_ n3_ n4_ n5_ n6_ n7_ hb hbox hg) | ((with_reducible refine gate_callee (f := 75) rfl ?_); refine goesA_ (some 5) rfl rfl Try.func75 (by kernel_rfl) rfl #[.pointer (some ⟨g, 0, none⟩)] rfl ?_; (with_reducible refine (spec_l2Packet.calls k g s0_0 s0_1 t913 t914 t915 t916 t917 t918 t919 t922 w0 _ ?side1 ?side2 A2.out).mono ?_); (case side1 => exact HI0.out); (case side2 => exact HB.out); rintro e w112 ⟨v920, rfl, ho0, hi, hb, hk⟩; refine ⟨_, rfl, ?_⟩; have n0_ := Aside0.mk (KeepBut.blk hk a0.out a8.out (by simp)); have n1_ := Aside0.mk (Kd.R_lower ho0 (keep_size (w := w) (g := g) (row := none) HK.out)); have n2_ := Aside0.mk (KeepBut.trans HK.out hk (.inl rfl)); have n3_ := Aside0.mk (hb); have n4_ := Aside0.mk (hi); clear a0 HK HB HI0; have a0 := n0_; have a1 := n1_; have HK := n2_; have HB := n3_; have HI0 := n4_; clear n0_ n1_ n2_ n3_ n4_; (try clear hb); (try clear hb2); (try clear hk); (try clear hi); (try clear ho0)) | ((with_reducible refine gate_dst (N := 3) rfl ?_); refine box_event ?hg (N := 3) ?hd (cs := zs6) (t := 34) ?hr ?_; (case hd => rfl); (case hg => rfl); (case hr => first | (go_simp; done) | (go_simp; rfl)); intro a4 hg w113 hbox hb; have n0_ := Aside0.mk (Kd.R_below a1.out hb); have n1_ := Aside0.mk (IsS70.below HI0.out hb); have n2_ := Aside0.mk (bB_ a0.out hb); have n3_ := Aside0.mk (KeepBut.trans HK.out (KeepBut.of_below hb g none) (.inl rfl)); have n4_ := Aside0.mk (lP_ HB.out hb); have n5_ := Aside0.mk (hbox); have n6_ := Aside0.mk ((by rw [hg]; exact (keep_size (w := w) (g := g) (row := none) HK.out) : w.heap.size ≤ a4)); have n7_ := Aside0.mk ((Nat.le_trans HW0.out (by rw [hg]; exact (keep_size (w := w) (g := g) (row := none) HK.out) : w.heap.size ≤ a4) : w0.heap.size ≤ a4)); have n8_ := Aside0.mk ((by rw [hg]; exact Nat.ne_of_lt (blk_lt a0.out) : a3 ≠ a4)); have n9_ := Aside0.mk n8_.out.symm; have n10_ := Aside0.mk ((by rw [hg]; exact Nat.ne_of_lt (IsS70.lt (show IsS70 w0 _ g s0_0 t922 from HI0.out)) : g ≠ a4)); have n11_ := Aside0.mk n10_.out.symm; clear a1 HI0 a0 HK HB; have a1 := n0_; have HI0 := n1_; have a0 := n2_; have HK := n3_; have HB := n4_; have a2 := n5_; have ad := n6_; have ae := n7_; have a7 := n8_; have aa := n9_; have a6 := n10_; have a9 := n11_; clear n0_ n1_ n2_ n3_ n4_ n5_ n6_ n7_ n8_ n9_ n10_ n11_ hb hbox hg; have c8 := aa.out; have c9 := a7.out; have ca := a9.out; have cb := a6.out; obtain ⟨_, _, _, _, _, _, _, _, _, _, _, _, _, _⟩ := bc7 a2.out; obtain ⟨bk, bl, eo117⟩ := Kd.R_slice a1.out; subst eo117) | ((with_reducible refine gate_callee (f := 38) rfl ?_); refine goesA_ (some 7) rfl rfl Try.func38 (by kernel_rfl) rfl #[.pointer (some ⟨g, 0, none⟩), .int .i64 20] rfl ?_; (with_reducible refine (spec_l1Next.calls g s0_0 t922 20 t924 t925 w0 _ ?side1 ?side2 A3.out).mono ?_); (case side1 => repeat (first | (with_reducible first | exact HI0.out | apply IsS70.set_1 | refine IsS70.far ?_ a5.out _ | refine IsS70.far ?_ a6.out _) | exact HI0.out)); (case side2 => repeat (first | (with_reducible first | exact HB.out | refine lS1_ ?_ (IsS70.ge HI0.out) | refine lS1_ ?_ ac.out | refine lS1_ ?_ ae.out) | exact HB.out)); rintro e w118 ⟨rfl, hi, hb, hk⟩; refine ⟨_, rfl, ?_⟩; have n0_ := Aside0.mk (KeepBut.blk hk (g' := a3) (o := .cells zs6 34 (0, 0)) (by (iterate 7 (refine bF_ ?_ a7.out _)); exact a0.out) a8.out (by simp)); have n1_ := Aside0.mk (Kd.R_mono (Kd.R_keep (IsS70.apart (show IsS70 w0 _ g s0_0 t922 from by repeat (first | (with_reducible first | exact HI0.out | apply IsS70.set_1 | refine IsS70.far ?_ a5.out _ | refine IsS70.far ?_ a6.out _) | exact HI0.out)) (Kd.R_mono (rfar7 (g := a4) (Kd.R_types a1.out a2.out (by decide)) (fun _ hk => hk.2)) (fun _ h_ => h_.1)) (by decide)) hk (fun _ h => h.2)) (fun _ h => h.1)); have n2_ := Aside0.mk (KeepBut.blk hk (g' := a4) (o := .cells #[.int .i64 t913, .int .i64 t914, .int .i64 t915, .int .i64 t916, .int .i64 t917, .int .i64 t918, .slice bk t919.length bl] 34 (0, 0)) (by apply fill7; exact a2.out) a9.out (by simp)); have n3_ := Aside0.mk (KeepBut.trans (by repeat (first | (with_reducible first | exact HK.out | apply KeepBut.set_ | refine kF_ ?_ ab.out _ | refine kF_ ?_ ad.out _) | exact HK.out)) hk (.inl rfl)); have n4_ := Aside0.mk (hb); have n5_ := Aside0.mk (hi); clear a0 a1 a2 HK HB HI0; have a0 := n0_; have a1 := n1_; have a2 := n2_; have HK := n3_; have HB := n4_; have HI0 := n5_; clear n0_ n1_ n2_ n3_ n4_ n5_; (try clear hb); (try clear hb2); (try clear hk); (try clear hi)) | ((with_reducible refine gate_callee (f := 38) rfl ?_); refine goesA_ (some 47) rfl rfl Try.func38 (by kernel_rfl) rfl #[.pointer (some ⟨g, 0, none⟩), .int .i64 2] rfl ?_; (with_reducible refine (spec_l1Next.calls g s0_0 t925 2 t956 t957 w0 _ ?side1 ?side2 bh.out).mono ?_); (case side1 => exact HI0.out); (case side2 => exact HB.out); rintro e w119 ⟨rfl, hi, hb, hk⟩; refine ⟨_, rfl, ?_⟩; have n0_ := Aside0.mk (KeepBut.blk hk a0.out a8.out (by simp)); have n1_ := Aside0.mk (Kd.R_mono (Kd.R_keep (IsS70.apart (show IsS70 w0 _ g s0_0 t925 from HI0.out) a1.out (by decide)) hk (fun _ h => h.2)) (fun _ h => h.1)); have n2_ := Aside0.mk (KeepBut.blk hk a2.out a9.out (by simp)); have n3_ := Aside0.mk (KeepBut.trans HK.out hk (.inl rfl)); have n4_ := Aside0.mk (hb); have n5_ := Aside0.mk (hi); clear a0 a1 a2 HK HB HI0; have a0 := n0_; have a1 := n1_; have a2 := n2_; have HK := n3_; have HB := n4_; have HI0 := n5_; clear n0_ n1_ n2_ n3_ n4_ n5_; (try clear hb); (try clear hb2); (try clear hk); (try clear hi)) | ((with_reducible refine gate_dst (N := 49) rfl ?_); refine Kd.R_make (Kd.int .u8) _ 5 rfl (N := 49) rfl 22 _ _ rfl ji108 rfl rfl Try.underlying22 (.int .u8 0) 1 info5 rfl (by decide) (by omega) 0 (ok := fun _ => True) (okp := fun _ => True) rfl (fun _ hk => hk) trivial (of_decide_eq_true (by first | (with_reducible assumption) | assumption)) (Nat.le_trans (Nat.mul_le_mul_right _ (of_decide_eq_true (by first | (with_reducible assumption) | assumption) : ji108.toNat ≤ 281474976710656)) (by omega)) (Below.refl _ _) (Nat.le_refl _) ?_; intro v959 w120 ho121 hb hg_ hnew_; clear hg_ hnew_; (first | rw [← au.out] at ho121 | (simp only [Int.reduceToNat] at ho121; rw [← au.out] at ho121)); have n1_ := Aside0.mk (Kd.R_lower (Kd.R_new' ho121 (Kd.R_lt a1.out)) (keep_size (w := w) (g := g) (row := none) HK.out)); have n2_ := Aside0.mk (IsS70.below HI0.out hb); have n3_ := Aside0.mk (bB_ a0.out hb); have n4_ := Aside0.mk (bB_ a2.out hb); have n5_ := Aside0.mk (KeepBut.trans HK.out (KeepBut.of_below hb g none) (.inl rfl)); have n6_ := Aside0.mk (lP_ HB.out hb); clear HI0 a0 a2 HK HB; have av := n1_; have HI0 := n2_; have a0 := n3_; have a2 := n4_; have HK := n5_; have HB := n6_; clear n1_ n2_ n3_ n4_ n5_ n6_ hb ho121; obtain ⟨aw, ax, eo122⟩ := Kd.R_slice av.out; subst eo122; obtain ⟨_, _, _, _, _, _, _, _, _, _, _, _, _, _⟩ := bc7 a2.out; have cc := a8.out; have cd := a5.out; obtain ⟨_, _, _, _, _, _, _, _, _, _, _, _, _, _⟩ := bc7 a0.out))
          refine bodyPost_ret (results_cell_row rfl _ _ a3 34 #[.int .i64 t913, .int .i64 t914, .int .i64 t915, .int .i64 t916, .int .i64 t917, .int .i64 t918, .slice aw y958.length ax] (0, 0) _ rfl (by (with_reducible repeat first | apply bN_ | apply bD_ | apply bA_); apply fill7; (with_reducible repeat first | apply bN_ | apply bD_ | apply bA_); refine bF_ ?_ a7.out _; (with_reducible repeat first | apply bN_ | apply bD_ | apply bA_); exact a0.out) Try.underlying34 rfl (by kernel_rfl)) rfl ?_
          exact ⟨_, by first | rfl | (simp [errW_none, errW_some] <;> rfl) | (simp only [← hji108]; first | rfl | (simp [errW_none, errW_some] <;> rfl)) | (simp [*, errW_none, errW_some] <;> rfl), by (with_reducible repeat first | apply rA_ | apply rN_ | apply rD_); exact Kd.R_mono (rfar7 (g := a3) (Kd.R_far (p := ⟨a4, 6, none⟩) (Kd.R_types (Kd.R_types av.out a2.out (by decide)) a0.out (by decide)) (fun _ hk => hk.1.2) (.slice aw y958.length ax)) (fun _ hk => hk.2)) (fun _ hk => trivial), by repeat (first | (with_reducible first | exact HI0.out | apply IsS70.alloc | apply IsS70.drewN | apply IsS70.drew | apply IsS70.set_1 | refine IsS70.far ?_ a5.out _ | refine IsS70.far ?_ a6.out _) | exact HI0.out), by repeat (first | (with_reducible first | exact HB.out | apply lA1_ | apply lN_ | apply lD_ | refine lS1_ ?_ (IsS70.ge HI0.out) | refine lS1_ ?_ ac.out | refine lS1_ ?_ ae.out) | exact HB.out), by repeat (first | (with_reducible first | exact HK.out | apply KeepBut.set_ | apply kN_ | apply kD_ | apply kA_ | refine kF_ ?_ ab.out _ | refine kF_ ?_ ad.out _) | exact HK.out)⟩
         ·rw [if_neg c110] at H
          exact absurd H (by simp)
        ·rw [if_neg c109] at H
         exact absurd H (by simp)
       ·rw [if_neg c106] at H
        have c106b0 : (t924 == 6) = false := beq_eq_false_iff_ne.mpr c106
        have c106b1 : (t924 != 6) = true := bne_iff_ne.mpr c106
        simp only [Option.some.injEq, Prod.mk.injEq] at H
        obtain ⟨rfl, rfl, rfl, rfl, rfl, rfl, rfl, rfl⟩ := H
        go_enter Try.func68, Try.ntmps68
        go_wp2_with (first | ((with_reducible refine gate_dst (N := 2) rfl ?_); refine box_event ?hg (N := 2) ?hd (cs := zs6) (t := 34) ?hr ?_; (case hd => rfl); (case hg => rfl); (case hr => first | (go_simp; done) | (go_simp; rfl)); intro a3 hg w126 hbox hb; have n0_ := Aside0.mk (IsS70.below (by repeat (first | (with_reducible first | exact HI0.out | apply IsS70.alloc | apply IsS70.drewN | apply IsS70.drew | apply IsS70.set_1) | exact HI0.out)) hb); have n1_ := Aside0.mk (KeepBut.trans (by repeat (first | (with_reducible first | exact HK.out | apply KeepBut.set_ | apply kN_ | apply kD_ | apply kA_) | exact HK.out)) (KeepBut.of_below hb g none) (.inl rfl)); have n2_ := Aside0.mk (lP_ (by repeat (first | (with_reducible first | exact HB.out | apply lA1_ | apply lN_ | apply lD_ | refine lS1_ ?_ (IsS70.ge HI0.out)) | exact HB.out)) hb); have n3_ := Aside0.mk (hbox); have n4_ := Aside0.mk ((by rw [hg]; exact (keep_size (w := w) (g := g) (row := none) (by repeat (first | (with_reducible first | exact HK.out | apply KeepBut.set_ | apply kN_ | apply kD_ | apply kA_) | exact HK.out))) : w.heap.size ≤ a3)); have n5_ := Aside0.mk ((Nat.le_trans HW0.out (by rw [hg]; exact (keep_size (w := w) (g := g) (row := none) (by repeat (first | (with_reducible first | exact HK.out | apply KeepBut.set_ | apply kN_ | apply kD_ | apply kA_) | exact HK.out))) : w.heap.size ≤ a3) : w0.heap.size ≤ a3)); have n6_ := Aside0.mk ((by rw [hg]; exact Nat.ne_of_lt (IsS70.lt (show IsS70 w0 _ g s0_0 s0_1 from by repeat (first | (with_reducible first | exact HI0.out | apply IsS70.alloc | apply IsS70.drewN | apply IsS70.drew | apply IsS70.set_1) | exact HI0.out))) : g ≠ a3)); have n7_ := Aside0.mk n6_.out.symm; clear HI0 HK HB; have HI0 := n0_; have HK := n1_; have HB := n2_; have a0 := n3_; have ab := n4_; have ac := n5_; have a5 := n6_; have a8 := n7_; clear n0_ n1_ n2_ n3_ n4_ n5_ n6_ n7_ hb hbox hg) | ((with_reducible refine gate_callee (f := 75) rfl ?_); refine goesA_ (some 5) rfl rfl Try.func75 (by kernel_rfl) rfl #[.pointer (some ⟨g, 0, none⟩)] rfl ?_; (with_reducible refine (spec_l2Packet.calls k g s0_0 s0_1 t913 t914 t915 t916 t917 t918 t919 t922 w0 _ ?side1 ?side2 A2.out).mono ?_); (case side1 => exact HI0.out); (case side2 => exact HB.out); rintro e w127 ⟨v920, rfl, ho0, hi, hb, hk⟩; refine ⟨_, rfl, ?_⟩; have n0_ := Aside0.mk (KeepBut.blk hk a0.out a8.out (by simp)); have n1_ := Aside0.mk (Kd.R_lower ho0 (keep_size (w := w) (g := g) (row := none) HK.out)); have n2_ := Aside0.mk (KeepBut.trans HK.out hk (.inl rfl)); have n3_ := Aside0.mk (hb); have n4_ := Aside0.mk (hi); clear a0 HK HB HI0; have a0 := n0_; have a1 := n1_; have HK := n2_; have HB := n3_; have HI0 := n4_; clear n0_ n1_ n2_ n3_ n4_; (try clear hb); (try clear hb2); (try clear hk); (try clear hi); (try clear ho0)) | ((with_reducible refine gate_dst (N := 3) rfl ?_); refine box_event ?hg (N := 3) ?hd (cs := zs6) (t := 34) ?hr ?_; (case hd => rfl); (case hg => rfl); (case hr => first | (go_simp; done) | (go_simp; rfl)); intro a4 hg w128 hbox hb; have n0_ := Aside0.mk (Kd.R_below a1.out hb); have n1_ := Aside0.mk (IsS70.below HI0.out hb); have n2_ := Aside0.mk (bB_ a0.out hb); have n3_ := Aside0.mk (KeepBut.trans HK.out (KeepBut.of_below hb g none) (.inl rfl)); have n4_ := Aside0.mk (lP_ HB.out hb); have n5_ := Aside0.mk (hbox); have n6_ := Aside0.mk ((by rw [hg]; exact (keep_size (w := w) (g := g) (row := none) HK.out) : w.heap.size ≤ a4)); have n7_ := Aside0.mk ((Nat.le_trans HW0.out (by rw [hg]; exact (keep_size (w := w) (g := g) (row := none) HK.out) : w.heap.size ≤ a4) : w0.heap.size ≤ a4)); have n8_ := Aside0.mk ((by rw [hg]; exact Nat.ne_of_lt (blk_lt a0.out) : a3 ≠ a4)); have n9_ := Aside0.mk n8_.out.symm; have n10_ := Aside0.mk ((by rw [hg]; exact Nat.ne_of_lt (IsS70.lt (show IsS70 w0 _ g s0_0 t922 from HI0.out)) : g ≠ a4)); have n11_ := Aside0.mk n10_.out.symm; clear a1 HI0 a0 HK HB; have a1 := n0_; have HI0 := n1_; have a0 := n2_; have HK := n3_; have HB := n4_; have a2 := n5_; have ad := n6_; have ae := n7_; have a7 := n8_; have aa := n9_; have a6 := n10_; have a9 := n11_; clear n0_ n1_ n2_ n3_ n4_ n5_ n6_ n7_ n8_ n9_ n10_ n11_ hb hbox hg; have ce := aa.out; have cf := a7.out; have cg := a9.out; have ch := a6.out; obtain ⟨_, _, _, _, _, _, _, _, _, _, _, _, _, _⟩ := bc7 a2.out; obtain ⟨ay, az, eo132⟩ := Kd.R_slice a1.out; subst eo132) | ((with_reducible refine gate_callee (f := 38) rfl ?_); refine goesA_ (some 7) rfl rfl Try.func38 (by kernel_rfl) rfl #[.pointer (some ⟨g, 0, none⟩), .int .i64 20] rfl ?_; (with_reducible refine (spec_l1Next.calls g s0_0 t922 20 t924 t925 w0 _ ?side1 ?side2 A3.out).mono ?_); (case side1 => repeat (first | (with_reducible first | exact HI0.out | apply IsS70.set_1 | refine IsS70.far ?_ a5.out _ | refine IsS70.far ?_ a6.out _) | exact HI0.out)); (case side2 => repeat (first | (with_reducible first | exact HB.out | refine lS1_ ?_ (IsS70.ge HI0.out) | refine lS1_ ?_ ac.out | refine lS1_ ?_ ae.out) | exact HB.out)); rintro e w133 ⟨rfl, hi, hb, hk⟩; refine ⟨_, rfl, ?_⟩; have n0_ := Aside0.mk (KeepBut.blk hk (g' := a3) (o := .cells zs6 34 (0, 0)) (by (iterate 7 (refine bF_ ?_ a7.out _)); exact a0.out) a8.out (by simp)); have n1_ := Aside0.mk (Kd.R_mono (Kd.R_keep (IsS70.apart (show IsS70 w0 _ g s0_0 t922 from by repeat (first | (with_reducible first | exact HI0.out | apply IsS70.set_1 | refine IsS70.far ?_ a5.out _ | refine IsS70.far ?_ a6.out _) | exact HI0.out)) (Kd.R_mono (rfar7 (g := a4) (Kd.R_types a1.out a2.out (by decide)) (fun _ hk => hk.2)) (fun _ h_ => h_.1)) (by decide)) hk (fun _ h => h.2)) (fun _ h => h.1)); have n2_ := Aside0.mk (KeepBut.blk hk (g' := a4) (o := .cells #[.int .i64 t913, .int .i64 t914, .int .i64 t915, .int .i64 t916, .int .i64 t917, .int .i64 t918, .slice ay t919.length az] 34 (0, 0)) (by apply fill7; exact a2.out) a9.out (by simp)); have n3_ := Aside0.mk (KeepBut.trans (by repeat (first | (with_reducible first | exact HK.out | apply KeepBut.set_ | refine kF_ ?_ ab.out _ | refine kF_ ?_ ad.out _) | exact HK.out)) hk (.inl rfl)); have n4_ := Aside0.mk (hb); have n5_ := Aside0.mk (hi); clear a0 a1 a2 HK HB HI0; have a0 := n0_; have a1 := n1_; have a2 := n2_; have HK := n3_; have HB := n4_; have HI0 := n5_; clear n0_ n1_ n2_ n3_ n4_ n5_; (try clear hb); (try clear hb2); (try clear hk); (try clear hi); obtain ⟨_, _, _, _, _, _, _, _, _, _, _, _, _, _⟩ := bc7 a2.out; have ci := a8.out; have cj := a5.out; obtain ⟨_, _, _, _, _, _, _, _, _, _, _, _, _, _⟩ := bc7 a0.out))
        refine bodyPost_ret (results_cell_row rfl _ _ a3 34 #[.int .i64 t913, .int .i64 t914, .int .i64 t915, .int .i64 t916, .int .i64 t917, .int .i64 t918, .slice ay t919.length az] (0, 0) _ rfl (by (with_reducible repeat first | apply bN_ | apply bD_ | apply bA_); apply fill7; (with_reducible repeat first | apply bN_ | apply bD_ | apply bA_); exact a0.out) Try.underlying34 rfl (by kernel_rfl)) rfl ?_
        exact ⟨_, by first | rfl | (simp [errW_none, errW_some] <;> rfl) | (simp [*, errW_none, errW_some] <;> rfl), by (with_reducible repeat first | apply rA_ | apply rN_ | apply rD_); exact Kd.R_mono (rfar7 (g := a3) (Kd.R_types a1.out a0.out (by decide)) (fun _ hk => hk.2)) (fun _ hk => trivial), by repeat (first | (with_reducible first | exact HI0.out | apply IsS70.alloc | apply IsS70.drewN | apply IsS70.drew | apply IsS70.set_1 | refine IsS70.far ?_ a5.out _ | refine IsS70.far ?_ a6.out _) | exact HI0.out), by repeat (first | (with_reducible first | exact HB.out | apply lA1_ | apply lN_ | apply lD_ | refine lS1_ ?_ (IsS70.ge HI0.out) | refine lS1_ ?_ ac.out | refine lS1_ ?_ ae.out) | exact HB.out), by repeat (first | (with_reducible first | exact HK.out | apply KeepBut.set_ | apply kN_ | apply kD_ | apply kA_ | refine kF_ ?_ ab.out _ | refine kF_ ?_ ad.out _) | exact HK.out)⟩
def spec_DrawBuildPacket.f (k : Nat) (l0 : List Int) : Option (Int × Int × Int × Int × Int × Int × List Int) := (spec_l1Source.f l0).bind fun bt962 => ((spec_l2Bent.f k bt962.1 bt962.2).bind fun bt965 => (some (bt965.1, bt965.2.1, bt965.2.2.1, bt965.2.2.2.1, bt965.2.2.2.2.1, bt965.2.2.2.2.2.1, bt965.2.2.2.2.2.2.1)))
set_option maxHeartbeats 8000000 in
set_option maxRecDepth 100000 in
theorem spec_DrawBuildPacket.calls (k : Nat) (A0 : Option Addr) (c0 : Nat) (l0 : List Int) (r1 : Int) (r2 : Int) (r3 : Int) (r4 : Int) (r5 : Int) (r6 : Int) (r7 : List Int) (w : World) (hr0 : Kd.C (Kd.int .u8) w A0 l0.length l0) (hc0 : l0.length ≤ c0) (h : spec_DrawBuildPacket.f k l0 = some (r1, r2, r3, r4, r5, r6, r7)) :
  Calls Try.prog 33 #[.slice A0 l0.length c0] w fun e w' => ∃ v6_ : Value, e = .returned (.agg #[.int .i64 r1, .int .i64 r2, .int .i64 r3, .int .i64 r4, .int .i64 r5, .int .i64 r6, v6_]) ∧ Kd.R (Kd.int .u8) 5 w' w.heap.size (fun _ => True) v6_ r7 ∧ Below w.heap.size w w' := by
 have hu34 := Try.underlying34
 have HR0 := Aside0.mk hr0
 have HC0 := Aside0.mk hc0
 clear hr0 hc0
 have HB := Aside0.mk (Below.refl w.heap.size w)
 have H : ((spec_l1Source.f l0).bind fun bt962 => ((spec_l2Bent.f k bt962.1 bt962.2).bind fun bt965 => (some (bt965.1, bt965.2.1, bt965.2.2.1, bt965.2.2.2.1, bt965.2.2.2.2.1, bt965.2.2.2.2.2.1, bt965.2.2.2.2.2.2.1)))) = some (r1, r2, r3, r4, r5, r6, r7) := h
 clear h
 replace H := Option.bind_eq_some_iff.mp H
 obtain ⟨⟨t962, t963⟩, A20, H⟩ := H
 try dsimp only at H
 have A2 := Aside0.mk A20
 clear A20
 replace H := Option.bind_eq_some_iff.mp H
 obtain ⟨⟨t965, t966, t967, t968, t969, t970, t971, t974⟩, A30, H⟩ := H
 try dsimp only at H
 have A3 := Aside0.mk A30
 clear A30
 simp only [Option.some.injEq, Prod.mk.injEq] at H
 obtain ⟨rfl, rfl, rfl, rfl, rfl, rfl, rfl⟩ := H
 go_enter Try.func33, Try.ntmps33
 go_wp2_with (first | ((with_reducible refine gate_dst (N := 2) rfl ?_); refine box_event ?hg (N := 2) ?hd (cs := zs6) (t := 34) ?hr ?_; (case hd => rfl); (case hg => rfl); (case hr => first | (go_simp; done) | (go_simp; rfl)); intro gb961 hg w4 hbox hb; have n0_ := Aside0.mk (lP_ HB.out hb); have n1_ := Aside0.mk (hbox); have n3_ := Aside0.mk ((by rw [hg]; exact (below_size HB.out) : w.heap.size ≤ gb961)); clear HB; have HB := n0_; have BK961 := n1_; have GE961 := n3_; clear n0_ n1_ n3_ hb hbox hg) | ((with_reducible refine gate_callee (f := 37) rfl ?_); refine goesA_ (some 4) rfl rfl Try.func37 (by kernel_rfl) rfl #[.slice A0 l0.length c0] rfl ?_; (with_reducible refine (spec_l1Source.calls _ _ l0 t962 t963 w _ ?side1 ?side2 ?side3 A2.out).mono ?_); (case side1 => exact HB.out); (case side2 => exact HR0.out); (case side3 => exact HC0.out); rintro e w5 ⟨g964, rfl, hi, hb, hb2⟩; refine ⟨_, rfl, ?_⟩; have n0_ := Aside0.mk (bB_ BK961.out hb2); have n1_ := Aside0.mk (hb); have n2_ := Aside0.mk (hi); have n3_ := Aside0.mk (IsS70.ne_blk hi (bB_ BK961.out hb2) (by decide)); have n4_ := Aside0.mk (Ne.symm (IsS70.ne_blk hi (bB_ BK961.out hb2) (by decide))); clear BK961 HB; have BK961 := n0_; have HB := n1_; have HI964 := n2_; have NB964_961 := n3_; have NB961_964 := n4_; clear n0_ n1_ n2_ n3_ n4_; (try clear hb); (try clear hb2); (try clear hk); (try clear hi)) | ((with_reducible refine gate_callee (f := 68) rfl ?_); refine goesA_ (some 5) rfl rfl Try.func68 (by kernel_rfl) rfl #[.pointer (some ⟨g964, 0, none⟩)] rfl ?_; (with_reducible refine (spec_l2Bent.calls k g964 t962 t963 t965 t966 t967 t968 t969 t970 t971 t974 w _ ?side1 ?side2 A3.out).mono ?_); (case side1 => exact HI964.out); (case side2 => exact HB.out); rintro e w6 ⟨v972, rfl, ho0, hi, hb, hk⟩; refine ⟨_, rfl, ?_⟩; have n0_ := Aside0.mk (KeepBut.blk hk BK961.out NB961_964.out (by simp)); have n1_ := Aside0.mk (Kd.R_lower ho0 (below_size HB.out)); have n2_ := Aside0.mk (hb); have n3_ := Aside0.mk (hi); clear BK961 HB HI964; have BK961 := n0_; have HO973 := n1_; have HB := n2_; have HI964 := n3_; clear n0_ n1_ n2_ n3_; (try clear hb); (try clear hb2); (try clear hk); (try clear hi); (try clear ho0); have hnb7 := NB961_964.out; have hnc7 := NB964_961.out; obtain ⟨_, _, _, _, _, _, _, _, _, _, _, _, _, _⟩ := bc7 BK961.out; obtain ⟨Ao9, co9, eo9⟩ := Kd.R_slice HO973.out; subst eo9))
 refine bodyPost_ret (results_cell_row rfl _ _ gb961 34 #[.int .i64 t965, .int .i64 t966, .int .i64 t967, .int .i64 t968, .int .i64 t969, .int .i64 t970, .slice Ao9 t971.length co9] (0, 0) _ rfl (by (with_reducible repeat first | apply bN_ | apply bD_ | apply bA_); apply fill7; (with_reducible repeat first | apply bN_ | apply bD_ | apply bA_); exact BK961.out) Try.underlying34 rfl (by kernel_rfl)) rfl ?_
 exact ⟨_, by first | rfl | (simp [errW_none, errW_some] <;> rfl) | (simp [*, errW_none, errW_some] <;> rfl), by (with_reducible repeat first | apply rA_ | apply rN_ | apply rD_); exact Kd.R_mono (rfar7 (g := gb961) (Kd.R_types HO973.out BK961.out (by decide)) (fun _ hk => hk.2)) (fun _ hk => trivial), by repeat (first | (with_reducible first | exact HB.out | apply lA1_ | apply lN_ | apply lD_ | refine lS1_ ?_ (IsS70.ge HI964.out) | refine lS1_ ?_ GE961.out) | exact HB.out)⟩
def spec_l2Address.f (a0 : Int) : Option (Bool) := (spec_l1In.f a0 0 4294967295).bind fun t975 => (some t975)
set_option maxHeartbeats 8000000 in
set_option maxRecDepth 100000 in
theorem spec_l2Address.calls (a0 : Int) (r : Bool) (w : World) (h : spec_l2Address.f a0 = some r) :
  Calls Try.prog 69 #[.int .i64 a0] w fun e w' => e = .returned (.bool r) ∧ Drawn0 w w' := by
 have H : ((spec_l1In.f a0 0 4294967295).bind fun t975 => (some t975)) = some r := h
 clear h
 replace H := Option.bind_eq_some_iff.mp H
 obtain ⟨t975, A20, H⟩ := H
 try dsimp only at H
 have A2 := Aside0.mk A20
 clear A20
 obtain rfl := Option.some.inj H
 go_enter Try.func69, Try.ntmps69
 go_wp2_with (first | ((with_reducible refine gate_callee (f := 45) rfl ?_); refine goesA_ (some 4) rfl rfl Try.func45 (by kernel_rfl) rfl #[.int .i64 a0, .int .i64 0, .int .i64 4294967295] rfl ?_; (with_reducible refine (spec_l1In.calls a0 0 4294967295 t975 _ A2.out).mono ?_); rintro e w' ⟨rfl, ⟨nd, rfl⟩⟩; refine ⟨_, rfl, ?_⟩))
 go_ret
 exact ⟨by first | rfl | (simp; done) | (simp [*]; done), by repeat (first | exact Drawn0.refl _ | apply Drawn0.step)⟩
def spec_l2Port.f (a0 : Int) : Option (Bool) := (spec_l1In.f a0 0 65535).bind fun t976 => (some t976)
set_option maxHeartbeats 8000000 in
set_option maxRecDepth 100000 in
theorem spec_l2Port.calls (a0 : Int) (r : Bool) (w : World) (h : spec_l2Port.f a0 = some r) :
  Calls Try.prog 70 #[.int .i64 a0] w fun e w' => e = .returned (.bool r) ∧ Drawn0 w w' := by
 have H : ((spec_l1In.f a0 0 65535).bind fun t976 => (some t976)) = some r := h
 clear h
 replace H := Option.bind_eq_some_iff.mp H
 obtain ⟨t976, A20, H⟩ := H
 try dsimp only at H
 have A2 := Aside0.mk A20
 clear A20
 obtain rfl := Option.some.inj H
 go_enter Try.func70, Try.ntmps70
 go_wp2_with (first | ((with_reducible refine gate_callee (f := 45) rfl ?_); refine goesA_ (some 4) rfl rfl Try.func45 (by kernel_rfl) rfl #[.int .i64 a0, .int .i64 0, .int .i64 65535] rfl ?_; (with_reducible refine (spec_l1In.calls a0 0 65535 t976 _ A2.out).mono ?_); rintro e w' ⟨rfl, ⟨nd, rfl⟩⟩; refine ⟨_, rfl, ?_⟩))
 go_ret
 exact ⟨by first | rfl | (simp; done) | (simp [*]; done), by repeat (first | exact Drawn0.refl _ | apply Drawn0.step)⟩
mutual
def spec_PacketFault.j0 : Nat → Bool → Int → Int → Int → Int → Int → Int → List Int → Option (Int)
 | 0, _, _, _, _, _, _, _, _ => none
 | k + 1, x36, x978000, x978001, x978002, x978003, x978004, x978005, x978006 => if x36 = true then (some 3) else ((spec_HasPorts.f x978002).bind fun t984 => (if t984 = true then (spec_PacketFault.j1 k false x978000 x978001 x978002 x978003 x978004 x978005 x978006) else (if x978004 = 0 then (spec_PacketFault.j1 k (x978005 != 0) x978000 x978001 x978002 x978003 x978004 x978005 x978006) else (spec_PacketFault.j1 k true x978000 x978001 x978002 x978003 x978004 x978005 x978006))))
def spec_PacketFault.j1 : Nat → Bool → Int → Int → Int → Int → Int → Int → List Int → Option (Int)
 | 0, _, _, _, _, _, _, _, _ => none
 | k + 1, x50, x978000, x978001, x978002, x978003, x978004, x978005, x978006 => if x50 = true then (some 1) else (if (x978006.length : Int) > 200 then (some 2) else (some 0))
end
def spec_PacketFault.f (k : Nat) (a0_0 : Int) (a0_1 : Int) (a0_2 : Int) (a0_3 : Int) (a0_4 : Int) (a0_5 : Int) (l0_6 : List Int) : Option (Int) := (spec_l2Address.f a0_0).bind fun t978 => (if t978 = true then ((spec_l2Address.f a0_1).bind fun t979 => (if t979 = true then ((spec_l1In.f a0_2 1 255).bind fun t980 => (if t980 = true then ((spec_l1In.f a0_3 1 255).bind fun t981 => (if t981 = true then ((spec_l2Port.f a0_4).bind fun t982 => (if t982 = true then ((spec_l2Port.f a0_5).bind fun t983 => (spec_PacketFault.j0 k (!t983) a0_0 a0_1 a0_2 a0_3 a0_4 a0_5 l0_6)) else (spec_PacketFault.j0 k true a0_0 a0_1 a0_2 a0_3 a0_4 a0_5 l0_6))) else (spec_PacketFault.j0 k true a0_0 a0_1 a0_2 a0_3 a0_4 a0_5 l0_6))) else (spec_PacketFault.j0 k true a0_0 a0_1 a0_2 a0_3 a0_4 a0_5 l0_6))) else (spec_PacketFault.j0 k true a0_0 a0_1 a0_2 a0_3 a0_4 a0_5 l0_6))) else (spec_PacketFault.j0 k true a0_0 a0_1 a0_2 a0_3 a0_4 a0_5 l0_6))
set_option maxHeartbeats 8000000 in
set_option maxRecDepth 100000 in
theorem spec_PacketFault.calls (k : Nat) (a0_0 : Int) (a0_1 : Int) (a0_2 : Int) (a0_3 : Int) (a0_4 : Int) (a0_5 : Int) (A0_6 : Option Addr) (c0_6 : Nat) (l0_6 : List Int) (r : Int) (w : World) (hr0_6 : Kd.C (Kd.int .u8) w A0_6 l0_6.length l0_6) (hc0_6 : l0_6.length ≤ c0_6) (h : spec_PacketFault.f k a0_0 a0_1 a0_2 a0_3 a0_4 a0_5 l0_6 = some r) :
  Calls Try.prog 34 #[.agg #[.int .i64 a0_0, .int .i64 a0_1, .int .i64 a0_2, .int .i64 a0_3, .int .i64 a0_4, .int .i64 a0_5, .slice A0_6 l0_6.length c0_6]] w fun e w' => e = .returned (.int .i64 r) ∧ Below w.heap.size w w' := by
 have hu34 := Try.underlying34
 have HR0_6 := Aside0.mk hr0_6
 have HC0_6 := Aside0.mk hc0_6
 clear hr0_6 hc0_6
 have HB := Aside0.mk (Below.refl w.heap.size w)
 have H : ((spec_l2Address.f a0_0).bind fun t978 => (if t978 = true then ((spec_l2Address.f a0_1).bind fun t979 => (if t979 = true then ((spec_l1In.f a0_2 1 255).bind fun t980 => (if t980 = true then ((spec_l1In.f a0_3 1 255).bind fun t981 => (if t981 = true then ((spec_l2Port.f a0_4).bind fun t982 => (if t982 = true then ((spec_l2Port.f a0_5).bind fun t983 => (spec_PacketFault.j0 k (!t983) a0_0 a0_1 a0_2 a0_3 a0_4 a0_5 l0_6)) else (spec_PacketFault.j0 k true a0_0 a0_1 a0_2 a0_3 a0_4 a0_5 l0_6))) else (spec_PacketFault.j0 k true a0_0 a0_1 a0_2 a0_3 a0_4 a0_5 l0_6))) else (spec_PacketFault.j0 k true a0_0 a0_1 a0_2 a0_3 a0_4 a0_5 l0_6))) else (spec_PacketFault.j0 k true a0_0 a0_1 a0_2 a0_3 a0_4 a0_5 l0_6))) else (spec_PacketFault.j0 k true a0_0 a0_1 a0_2 a0_3 a0_4 a0_5 l0_6))) = some r := h
 clear h
 have a4 := Aside0.mk H
 clear H
 go_enter Try.func34, Try.ntmps34
 go_upto_region 1 with (first | ((with_reducible refine gate_dst (N := 1) rfl ?_); refine box_event ?hg (N := 1) ?hd (cs := #[.int .i64 a0_0, .int .i64 a0_1, .int .i64 a0_2, .int .i64 a0_3, .int .i64 a0_4, .int .i64 a0_5, .slice A0_6 l0_6.length c0_6]) (t := 34) ?hr ?_; (case hd => rfl); (case hg => rfl); (case hr => first | (go_simp; done) | (go_simp; rfl)); intro a2 hg w3 hbox hb; have n0_ := Aside0.mk (lP_ (by repeat (first | (with_reducible first | exact HB.out | apply lA1_ | apply lN_ | apply lD_) | exact HB.out)) hb); have n1_ := Aside0.mk (hbox); have n2_ := Aside0.mk ((by rw [hg]; exact (below_size (by repeat (first | (with_reducible first | exact HB.out | apply lA1_ | apply lN_ | apply lD_) | exact HB.out))) : w.heap.size ≤ a2)); have n3_ := Aside0.mk ((by rw [hg]; exact (below_size (by repeat (first | (with_reducible first | exact HB.out | apply lA1_ | apply lN_ | apply lD_) | exact HB.out))) : w.heap.size ≤ a2)); clear HB; have HB := n0_; have a0 := n1_; have ag := n2_; have a1 := n3_; clear n0_ n1_ n2_ n3_ hb hbox hg))
 (try simp only [Act.put, lA_, lZ_, lS_])
 go_cut [36] (fun v36 wc => ∃ (kq : Nat) (x36_1 : Bool), v36 = .bool x36_1 ∧ Aside0 (spec_PacketFault.j0 kq x36_1 a0_0 a0_1 a0_2 a0_3 a0_4 a0_5 l0_6 = some r) ∧ Aside0 (kq ≤ k) ∧ Aside0 (wc.heap[a2]? = some (.cells #[.int .i64 a0_0, .int .i64 a0_1, .int .i64 a0_2, .int .i64 a0_3, .int .i64 a0_4, .int .i64 a0_5, (.slice A0_6 l0_6.length c0_6)] 34 (0, 0))) ∧ Aside0 (Below w.heap.size w wc))
 case first =>
  have H := a4.out
  clear a4
  replace H := Option.bind_eq_some_iff.mp H
  obtain ⟨t978, ab, H⟩ := H
  try dsimp only at H
  have A4 := Aside0.mk ab
  clear ab
  by_cases c5 : t978 = true
  ·subst c5
   rw [if_pos rfl] at H
   replace H := Option.bind_eq_some_iff.mp H
   obtain ⟨t979, ac, H⟩ := H
   try dsimp only at H
   have A6 := Aside0.mk ac
   clear ac
   by_cases c7 : t979 = true
   ·subst c7
    rw [if_pos rfl] at H
    replace H := Option.bind_eq_some_iff.mp H
    obtain ⟨t980, ad, H⟩ := H
    try dsimp only at H
    have A8 := Aside0.mk ad
    clear ad
    by_cases c9 : t980 = true
    ·subst c9
     rw [if_pos rfl] at H
     replace H := Option.bind_eq_some_iff.mp H
     obtain ⟨t981, a5, H⟩ := H
     try dsimp only at H
     have a6 := Aside0.mk a5
     clear a5
     by_cases c11 : t981 = true
     ·subst c11
      rw [if_pos rfl] at H
      replace H := Option.bind_eq_some_iff.mp H
      obtain ⟨t982, a7, H⟩ := H
      try dsimp only at H
      have ae := Aside0.mk a7
      clear a7
      by_cases c13 : t982 = true
      ·subst c13
       rw [if_pos rfl] at H
       replace H := Option.bind_eq_some_iff.mp H
       obtain ⟨t983, a8, H⟩ := H
       try dsimp only at H
       have af := Aside0.mk a8
       clear a8
       have H' := Aside0.mk H
       clear H
       obtain ⟨_, _, _, _, _, _, _, _, _, _, _, _, _, _⟩ := bc7 a0.out
       go_wp2_with (first | ((with_reducible refine gate_callee (f := 69) rfl ?_); refine goesA_ (some 5) rfl rfl Try.func69 (by kernel_rfl) rfl #[.int .i64 a0_0] rfl ?_; (with_reducible refine (spec_l2Address.calls a0_0 true _ A4.out).mono ?_); rintro e w' ⟨rfl, ⟨nd, rfl⟩⟩; refine ⟨_, rfl, ?_⟩) | (go_at_call 69; (with_reducible refine (spec_l2Address.calls a0_1 true _ A6.out).mono ?_); rintro e w' ⟨rfl, ⟨nd, rfl⟩⟩) | (go_at_call 45; (with_reducible refine (spec_l1In.calls a0_2 1 255 true _ A8.out).mono ?_); rintro e w' ⟨rfl, ⟨nd, rfl⟩⟩) | (go_at_call 45; (with_reducible refine (spec_l1In.calls a0_3 1 255 true _ a6.out).mono ?_); rintro e w' ⟨rfl, ⟨nd, rfl⟩⟩) | (go_at_call 70; (with_reducible refine (spec_l2Port.calls a0_4 true _ ae.out).mono ?_); rintro e w' ⟨rfl, ⟨nd, rfl⟩⟩) | (go_at_call 70; (with_reducible refine (spec_l2Port.calls a0_5 t983 _ af.out).mono ?_); rintro e w' ⟨rfl, ⟨nd, rfl⟩⟩))
       go_meet
       case rel => exact ⟨_, (!t983), (by first | rfl | (simp; done) | (simp [*]; done)), H', ⟨by first | omega | exact Nat.le_refl _⟩, ⟨by (with_reducible repeat first | apply bN_ | apply bD_ | apply bA_); exact a0.out⟩, ⟨by repeat (first | (with_reducible first | exact HB.out | apply lA1_ | apply lN_ | apply lD_ | refine lS1_ ?_ a1.out) | exact HB.out)⟩⟩
      ·replace c13 := Bool.eq_false_iff.mpr c13
       subst c13
       rw [if_neg (show ¬ (false = true) by decide)] at H
       have H' := Aside0.mk H
       clear H
       obtain ⟨_, _, _, _, _, _, _, _, _, _, _, _, _, _⟩ := bc7 a0.out
       go_wp2_with (first | ((with_reducible refine gate_callee (f := 69) rfl ?_); refine goesA_ (some 5) rfl rfl Try.func69 (by kernel_rfl) rfl #[.int .i64 a0_0] rfl ?_; (with_reducible refine (spec_l2Address.calls a0_0 true _ A4.out).mono ?_); rintro e w' ⟨rfl, ⟨nd, rfl⟩⟩; refine ⟨_, rfl, ?_⟩) | (go_at_call 69; (with_reducible refine (spec_l2Address.calls a0_1 true _ A6.out).mono ?_); rintro e w' ⟨rfl, ⟨nd, rfl⟩⟩) | (go_at_call 45; (with_reducible refine (spec_l1In.calls a0_2 1 255 true _ A8.out).mono ?_); rintro e w' ⟨rfl, ⟨nd, rfl⟩⟩) | (go_at_call 45; (with_reducible refine (spec_l1In.calls a0_3 1 255 true _ a6.out).mono ?_); rintro e w' ⟨rfl, ⟨nd, rfl⟩⟩) | (go_at_call 70; (with_reducible refine (spec_l2Port.calls a0_4 false _ ae.out).mono ?_); rintro e w' ⟨rfl, ⟨nd, rfl⟩⟩))
       go_meet
       case rel => exact ⟨_, (true), (by first | rfl | (simp; done) | (simp [*]; done)), H', ⟨by first | omega | exact Nat.le_refl _⟩, ⟨by (with_reducible repeat first | apply bN_ | apply bD_ | apply bA_); exact a0.out⟩, ⟨by repeat (first | (with_reducible first | exact HB.out | apply lA1_ | apply lN_ | apply lD_ | refine lS1_ ?_ a1.out) | exact HB.out)⟩⟩
     ·replace c11 := Bool.eq_false_iff.mpr c11
      subst c11
      rw [if_neg (show ¬ (false = true) by decide)] at H
      have H' := Aside0.mk H
      clear H
      obtain ⟨_, _, _, _, _, _, _, _, _, _, _, _, _, _⟩ := bc7 a0.out
      go_wp2_with (first | ((with_reducible refine gate_callee (f := 69) rfl ?_); refine goesA_ (some 5) rfl rfl Try.func69 (by kernel_rfl) rfl #[.int .i64 a0_0] rfl ?_; (with_reducible refine (spec_l2Address.calls a0_0 true _ A4.out).mono ?_); rintro e w' ⟨rfl, ⟨nd, rfl⟩⟩; refine ⟨_, rfl, ?_⟩) | (go_at_call 69; (with_reducible refine (spec_l2Address.calls a0_1 true _ A6.out).mono ?_); rintro e w' ⟨rfl, ⟨nd, rfl⟩⟩) | (go_at_call 45; (with_reducible refine (spec_l1In.calls a0_2 1 255 true _ A8.out).mono ?_); rintro e w' ⟨rfl, ⟨nd, rfl⟩⟩) | (go_at_call 45; (with_reducible refine (spec_l1In.calls a0_3 1 255 false _ a6.out).mono ?_); rintro e w' ⟨rfl, ⟨nd, rfl⟩⟩))
      go_meet
      case rel => exact ⟨_, (true), (by first | rfl | (simp; done) | (simp [*]; done)), H', ⟨by first | omega | exact Nat.le_refl _⟩, ⟨by (with_reducible repeat first | apply bN_ | apply bD_ | apply bA_); exact a0.out⟩, ⟨by repeat (first | (with_reducible first | exact HB.out | apply lA1_ | apply lN_ | apply lD_ | refine lS1_ ?_ a1.out) | exact HB.out)⟩⟩
    ·replace c9 := Bool.eq_false_iff.mpr c9
     subst c9
     rw [if_neg (show ¬ (false = true) by decide)] at H
     have H' := Aside0.mk H
     clear H
     obtain ⟨_, _, _, _, _, _, _, _, _, _, _, _, _, _⟩ := bc7 a0.out
     go_wp2_with (first | ((with_reducible refine gate_callee (f := 69) rfl ?_); refine goesA_ (some 5) rfl rfl Try.func69 (by kernel_rfl) rfl #[.int .i64 a0_0] rfl ?_; (with_reducible refine (spec_l2Address.calls a0_0 true _ A4.out).mono ?_); rintro e w' ⟨rfl, ⟨nd, rfl⟩⟩; refine ⟨_, rfl, ?_⟩) | (go_at_call 69; (with_reducible refine (spec_l2Address.calls a0_1 true _ A6.out).mono ?_); rintro e w' ⟨rfl, ⟨nd, rfl⟩⟩) | (go_at_call 45; (with_reducible refine (spec_l1In.calls a0_2 1 255 false _ A8.out).mono ?_); rintro e w' ⟨rfl, ⟨nd, rfl⟩⟩))
     go_meet
     case rel => exact ⟨_, (true), (by first | rfl | (simp; done) | (simp [*]; done)), H', ⟨by first | omega | exact Nat.le_refl _⟩, ⟨by (with_reducible repeat first | apply bN_ | apply bD_ | apply bA_); exact a0.out⟩, ⟨by repeat (first | (with_reducible first | exact HB.out | apply lA1_ | apply lN_ | apply lD_ | refine lS1_ ?_ a1.out) | exact HB.out)⟩⟩
   ·replace c7 := Bool.eq_false_iff.mpr c7
    subst c7
    rw [if_neg (show ¬ (false = true) by decide)] at H
    have H' := Aside0.mk H
    clear H
    obtain ⟨_, _, _, _, _, _, _, _, _, _, _, _, _, _⟩ := bc7 a0.out
    go_wp2_with (first | ((with_reducible refine gate_callee (f := 69) rfl ?_); refine goesA_ (some 5) rfl rfl Try.func69 (by kernel_rfl) rfl #[.int .i64 a0_0] rfl ?_; (with_reducible refine (spec_l2Address.calls a0_0 true _ A4.out).mono ?_); rintro e w' ⟨rfl, ⟨nd, rfl⟩⟩; refine ⟨_, rfl, ?_⟩) | (go_at_call 69; (with_reducible refine (spec_l2Address.calls a0_1 false _ A6.out).mono ?_); rintro e w' ⟨rfl, ⟨nd, rfl⟩⟩))
    go_meet
    case rel => exact ⟨_, (true), (by first | rfl | (simp; done) | (simp [*]; done)), H', ⟨by first | omega | exact Nat.le_refl _⟩, ⟨by (with_reducible repeat first | apply bN_ | apply bD_ | apply bA_); exact a0.out⟩, ⟨by repeat (first | (with_reducible first | exact HB.out | apply lA1_ | apply lN_ | apply lD_ | refine lS1_ ?_ a1.out) | exact HB.out)⟩⟩
  ·replace c5 := Bool.eq_false_iff.mpr c5
   subst c5
   rw [if_neg (show ¬ (false = true) by decide)] at H
   have H' := Aside0.mk H
   clear H
   obtain ⟨_, _, _, _, _, _, _, _, _, _, _, _, _, _⟩ := bc7 a0.out
   go_wp2_with (first | ((with_reducible refine gate_callee (f := 69) rfl ?_); refine goesA_ (some 5) rfl rfl Try.func69 (by kernel_rfl) rfl #[.int .i64 a0_0] rfl ?_; (with_reducible refine (spec_l2Address.calls a0_0 false _ A4.out).mono ?_); rintro e w' ⟨rfl, ⟨nd, rfl⟩⟩; refine ⟨_, rfl, ?_⟩))
   go_meet
   case rel => exact ⟨_, (true), (by first | rfl | (simp; done) | (simp [*]; done)), H', ⟨by first | omega | exact Nat.le_refl _⟩, ⟨by (with_reducible repeat first | apply bN_ | apply bD_ | apply bA_); exact a0.out⟩, ⟨by repeat (first | (with_reducible first | exact HB.out | apply lA1_ | apply lN_ | apply lD_ | refine lS1_ ?_ a1.out) | exact HB.out)⟩⟩
 case rest =>
  clear a4
  try clear c1
  try clear p2
  try clear c3
  try clear c5
  try clear c6
  try clear c7
  try clear c9
  try clear c11
  try clear c13
  try clear hcz15_0
  try clear hcz15_1
  try clear hcz15_2
  try clear hcz15_3
  try clear hcz15_4
  try clear hcz15_5
  try clear hcz15_6
  try clear hcz16_0
  try clear hcz16_1
  try clear hcz16_2
  try clear hcz16_3
  try clear hcz16_4
  try clear hcz16_5
  try clear hcz16_6
  try clear hcz17_0
  try clear hcz17_1
  try clear hcz17_2
  try clear hcz17_3
  try clear hcz17_4
  try clear hcz17_5
  try clear hcz17_6
  try clear hcz18_0
  try clear hcz18_1
  try clear hcz18_2
  try clear hcz18_3
  try clear hcz18_4
  try clear hcz18_5
  try clear hcz18_6
  try clear hcz19_0
  try clear hcz19_1
  try clear hcz19_2
  try clear hcz19_3
  try clear hcz19_4
  try clear hcz19_5
  try clear hcz19_6
  try clear hcz20_0
  try clear hcz20_1
  try clear hcz20_2
  try clear hcz20_3
  try clear hcz20_4
  try clear hcz20_5
  try clear hcz20_6
  try clear hfz15_0
  try clear hfz15_1
  try clear hfz15_2
  try clear hfz15_3
  try clear hfz15_4
  try clear hfz15_5
  try clear hfz15_6
  try clear hfz16_0
  try clear hfz16_1
  try clear hfz16_2
  try clear hfz16_3
  try clear hfz16_4
  try clear hfz16_5
  try clear hfz16_6
  try clear hfz17_0
  try clear hfz17_1
  try clear hfz17_2
  try clear hfz17_3
  try clear hfz17_4
  try clear hfz17_5
  try clear hfz17_6
  try clear hfz18_0
  try clear hfz18_1
  try clear hfz18_2
  try clear hfz18_3
  try clear hfz18_4
  try clear hfz18_5
  try clear hfz18_6
  try clear hfz19_0
  try clear hfz19_1
  try clear hfz19_2
  try clear hfz19_3
  try clear hfz19_4
  try clear hfz19_5
  try clear hfz19_6
  try clear hfz20_0
  try clear hfz20_1
  try clear hfz20_2
  try clear hfz20_3
  try clear hfz20_4
  try clear hfz20_5
  try clear hfz20_6
  obtain ⟨kq, x36_1, rfl, HA, HJ1, a0, HB⟩ := hcut
  cases kq with
  | zero => exact absurd HA.out (by simp [spec_PacketFault.j0])
  | succ kj1 =>
   have H := HA.out
   clear HA
   simp only [spec_PacketFault.j0] at H
   by_cases c21 : x36_1 = true
   ·subst c21
    rw [if_pos rfl] at H
    obtain rfl := Option.some.inj H
    go_wp2
    go_ret
    exact ⟨by first | rfl | (simp [errW_none, errW_some] <;> rfl) | (simp [*, errW_none, errW_some] <;> rfl), by repeat (first | (with_reducible first | exact HB.out | apply lA1_ | apply lN_ | apply lD_ | refine lS1_ ?_ a1.out) | exact HB.out)⟩
   ·replace c21 := Bool.eq_false_iff.mpr c21
    subst c21
    rw [if_neg (show ¬ (false = true) by decide)] at H
    have a3 := Aside0.mk H
    clear H
    go_upto_region 3 with (fail)
    go_cut [50] (fun v50 wc => ∃ (kq : Nat) (x50_21 : Bool), v50 = .bool x50_21 ∧ Aside0 (spec_PacketFault.j1 kq x50_21 a0_0 a0_1 a0_2 a0_3 a0_4 a0_5 l0_6 = some r) ∧ Aside0 (kq ≤ kj1) ∧ Aside0 (wc.heap[a2]? = some (.cells #[.int .i64 a0_0, .int .i64 a0_1, .int .i64 a0_2, .int .i64 a0_3, .int .i64 a0_4, .int .i64 a0_5, (.slice A0_6 l0_6.length c0_6)] 34 (0, 0))) ∧ Aside0 (Below w.heap.size w wc))
    case first =>
     have H := a3.out
     clear a3
     replace H := Option.bind_eq_some_iff.mp H
     obtain ⟨t984, a9, H⟩ := H
     try dsimp only at H
     have aa := Aside0.mk a9
     clear a9
     by_cases c24 : t984 = true
     ·subst c24
      rw [if_pos rfl] at H
      have H' := Aside0.mk H
      clear H
      obtain ⟨_, _, _, _, _, _, _, _, _, _, _, _, _, _⟩ := bc7 a0.out
      go_wp2_with (first | ((with_reducible refine gate_callee (f := 55) rfl ?_); refine goesA_ (some 39) rfl rfl Try.func55 (by kernel_rfl) rfl #[.int .i64 a0_2] rfl ?_; (with_reducible refine (spec_HasPorts.calls a0_2 true _ aa.out).mono ?_); rintro e w' ⟨rfl, ⟨nd, rfl⟩⟩; refine ⟨_, rfl, ?_⟩))
      go_meet
      case rel => exact ⟨_, (false), (by first | rfl | (simp; done) | (simp [*]; done)), H', ⟨by have := HJ1.out; first | omega | exact Nat.le_refl _⟩, ⟨by (with_reducible repeat first | apply bN_ | apply bD_ | apply bA_); exact a0.out⟩, ⟨by repeat (first | (with_reducible first | exact HB.out | apply lA1_ | apply lN_ | apply lD_ | refine lS1_ ?_ a1.out) | exact HB.out)⟩⟩
     ·replace c24 := Bool.eq_false_iff.mpr c24
      subst c24
      rw [if_neg (show ¬ (false = true) by decide)] at H
      by_cases c26 : a0_4 = 0
      ·rw [if_pos c26] at H
       have c26b0 : (a0_4 == 0) = true := beq_iff_eq.mpr c26
       have c26b1 : (a0_4 != 0) = false := bne_eq_false_iff_eq.mpr c26
       clear c26
       (first | rw [c26b0] | (simp only [i64_w, i32_w]; rw [c26b0]) | skip)
       have H' := Aside0.mk H
       clear H
       obtain ⟨_, _, _, _, _, _, _, _, _, _, _, _, _, _⟩ := bc7 a0.out
       go_wp2_with (first | ((with_reducible refine gate_callee (f := 55) rfl ?_); refine goesA_ (some 39) rfl rfl Try.func55 (by kernel_rfl) rfl #[.int .i64 a0_2] rfl ?_; (with_reducible refine (spec_HasPorts.calls a0_2 false _ aa.out).mono ?_); rintro e w' ⟨rfl, ⟨nd, rfl⟩⟩; refine ⟨_, rfl, ?_⟩))
       go_meet
       case rel => exact ⟨_, ((a0_5 != 0)), (by first | rfl | (simp; done) | (simp [*]; done)), H', ⟨by have := HJ1.out; first | omega | exact Nat.le_refl _⟩, ⟨by (with_reducible repeat first | apply bN_ | apply bD_ | apply bA_); exact a0.out⟩, ⟨by repeat (first | (with_reducible first | exact HB.out | apply lA1_ | apply lN_ | apply lD_ | refine lS1_ ?_ a1.out) | exact HB.out)⟩⟩
      ·rw [if_neg c26] at H
       have c26b0 : (a0_4 == 0) = false := beq_eq_false_iff_ne.mpr c26
       have c26b1 : (a0_4 != 0) = true := bne_iff_ne.mpr c26
       (first | rw [c26b0] | (simp only [i64_w, i32_w]; rw [c26b0]) | skip)
       have H' := Aside0.mk H
       clear H
       obtain ⟨_, _, _, _, _, _, _, _, _, _, _, _, _, _⟩ := bc7 a0.out
       go_wp2_with (first | ((with_reducible refine gate_callee (f := 55) rfl ?_); refine goesA_ (some 39) rfl rfl Try.func55 (by kernel_rfl) rfl #[.int .i64 a0_2] rfl ?_; (with_reducible refine (spec_HasPorts.calls a0_2 false _ aa.out).mono ?_); rintro e w' ⟨rfl, ⟨nd, rfl⟩⟩; refine ⟨_, rfl, ?_⟩))
       go_meet
       case rel => exact ⟨_, (true), (by first | rfl | (simp; done) | (simp [*]; done)), H', ⟨by have := HJ1.out; first | omega | exact Nat.le_refl _⟩, ⟨by (with_reducible repeat first | apply bN_ | apply bD_ | apply bA_); exact a0.out⟩, ⟨by repeat (first | (with_reducible first | exact HB.out | apply lA1_ | apply lN_ | apply lD_ | refine lS1_ ?_ a1.out) | exact HB.out)⟩⟩
    case rest =>
     clear a3
     try clear c1
     try clear c2
     try clear p2
     try clear c3
     try clear c5
     try clear c6
     try clear c7
     try clear c9
     try clear c11
     try clear c13
     try clear c21
     try clear c24
     try clear c26
     try clear c26b0
     try clear c26b1
     try clear hcz15_0
     try clear hcz15_1
     try clear hcz15_2
     try clear hcz15_3
     try clear hcz15_4
     try clear hcz15_5
     try clear hcz15_6
     try clear hcz16_0
     try clear hcz16_1
     try clear hcz16_2
     try clear hcz16_3
     try clear hcz16_4
     try clear hcz16_5
     try clear hcz16_6
     try clear hcz17_0
     try clear hcz17_1
     try clear hcz17_2
     try clear hcz17_3
     try clear hcz17_4
     try clear hcz17_5
     try clear hcz17_6
     try clear hcz18_0
     try clear hcz18_1
     try clear hcz18_2
     try clear hcz18_3
     try clear hcz18_4
     try clear hcz18_5
     try clear hcz18_6
     try clear hcz19_0
     try clear hcz19_1
     try clear hcz19_2
     try clear hcz19_3
     try clear hcz19_4
     try clear hcz19_5
     try clear hcz19_6
     try clear hcz20_0
     try clear hcz20_1
     try clear hcz20_2
     try clear hcz20_3
     try clear hcz20_4
     try clear hcz20_5
     try clear hcz20_6
     try clear hcz25_0
     try clear hcz25_1
     try clear hcz25_2
     try clear hcz25_3
     try clear hcz25_4
     try clear hcz25_5
     try clear hcz25_6
     try clear hcz27_0
     try clear hcz27_1
     try clear hcz27_2
     try clear hcz27_3
     try clear hcz27_4
     try clear hcz27_5
     try clear hcz27_6
     try clear hcz28_0
     try clear hcz28_1
     try clear hcz28_2
     try clear hcz28_3
     try clear hcz28_4
     try clear hcz28_5
     try clear hcz28_6
     try clear hfz15_0
     try clear hfz15_1
     try clear hfz15_2
     try clear hfz15_3
     try clear hfz15_4
     try clear hfz15_5
     try clear hfz15_6
     try clear hfz16_0
     try clear hfz16_1
     try clear hfz16_2
     try clear hfz16_3
     try clear hfz16_4
     try clear hfz16_5
     try clear hfz16_6
     try clear hfz17_0
     try clear hfz17_1
     try clear hfz17_2
     try clear hfz17_3
     try clear hfz17_4
     try clear hfz17_5
     try clear hfz17_6
     try clear hfz18_0
     try clear hfz18_1
     try clear hfz18_2
     try clear hfz18_3
     try clear hfz18_4
     try clear hfz18_5
     try clear hfz18_6
     try clear hfz19_0
     try clear hfz19_1
     try clear hfz19_2
     try clear hfz19_3
     try clear hfz19_4
     try clear hfz19_5
     try clear hfz19_6
     try clear hfz20_0
     try clear hfz20_1
     try clear hfz20_2
     try clear hfz20_3
     try clear hfz20_4
     try clear hfz20_5
     try clear hfz20_6
     try clear hfz25_0
     try clear hfz25_1
     try clear hfz25_2
     try clear hfz25_3
     try clear hfz25_4
     try clear hfz25_5
     try clear hfz25_6
     try clear hfz27_0
     try clear hfz27_1
     try clear hfz27_2
     try clear hfz27_3
     try clear hfz27_4
     try clear hfz27_5
     try clear hfz27_6
     try clear hfz28_0
     try clear hfz28_1
     try clear hfz28_2
     try clear hfz28_3
     try clear hfz28_4
     try clear hfz28_5
     try clear hfz28_6
     try clear p2
     obtain ⟨kq, x50_21, rfl, HA, HJ21, a0, HB⟩ := hcut
     cases kq with
     | zero => exact absurd HA.out (by simp [spec_PacketFault.j1])
     | succ kj21 =>
      have H := HA.out
      clear HA
      simp only [spec_PacketFault.j1] at H
      by_cases c29 : x50_21 = true
      ·subst c29
       rw [if_pos rfl] at H
       obtain rfl := Option.some.inj H
       go_wp2
       go_ret
       exact ⟨by first | rfl | (simp [errW_none, errW_some] <;> rfl) | (simp [*, errW_none, errW_some] <;> rfl), by repeat (first | (with_reducible first | exact HB.out | apply lA1_ | apply lN_ | apply lD_ | refine lS1_ ?_ a1.out) | exact HB.out)⟩
      ·replace c29 := Bool.eq_false_iff.mpr c29
       subst c29
       rw [if_neg (show ¬ (false = true) by decide)] at H
       by_cases c30 : (l0_6.length : Int) > 200
       ·rw [if_pos c30] at H
        have c30b0 : decide (200 < (l0_6.length : Int)) = true := decide_eq_true c30
        have c30b1 : decide (200 < l0_6.length) = true := decide_eq_true (by omega)
        clear c30
        obtain rfl := Option.some.inj H
        obtain ⟨_, _, _, _, _, _, _, _, _, _, _, _, _, _⟩ := bc7 a0.out
        go_wp2
        go_ret
        exact ⟨by first | rfl | (simp [errW_none, errW_some] <;> rfl) | (simp [*, errW_none, errW_some] <;> rfl), by repeat (first | (with_reducible first | exact HB.out | apply lA1_ | apply lN_ | apply lD_ | refine lS1_ ?_ a1.out) | exact HB.out)⟩
       ·rw [if_neg c30] at H
        have c30b0 : decide (200 < (l0_6.length : Int)) = false := decide_eq_false c30
        have c30b1 : decide (200 < l0_6.length) = false := decide_eq_false (by omega)
        clear c30
        obtain rfl := Option.some.inj H
        obtain ⟨_, _, _, _, _, _, _, _, _, _, _, _, _, _⟩ := bc7 a0.out
        go_wp2
        go_ret
        exact ⟨by first | rfl | (simp [errW_none, errW_some] <;> rfl) | (simp [*, errW_none, errW_some] <;> rfl), by repeat (first | (with_reducible first | exact HB.out | apply lA1_ | apply lN_ | apply lD_ | refine lS1_ ?_ a1.out) | exact HB.out)⟩
def impl_reverse.f (a0_0 : Int) (a0_1 : Int) (a0_2 : Int) (a0_3 : Int) (a0_4 : Int) (a0_5 : Int) (l0_6 : List Int) : Option (Int × Int × Int × Int × Int × Int × List Int) := (slices_Clone_byte_byte.f l0_6).bind fun t987 => (some (a0_1, a0_0, a0_2, a0_3, a0_5, a0_4, t987))
set_option maxHeartbeats 8000000 in
set_option maxRecDepth 100000 in
theorem impl_reverse.calls (a0_0 : Int) (a0_1 : Int) (a0_2 : Int) (a0_3 : Int) (a0_4 : Int) (a0_5 : Int) (A0_6 : Option Addr) (c0_6 : Nat) (l0_6 : List Int) (r1 : Int) (r2 : Int) (r3 : Int) (r4 : Int) (r5 : Int) (r6 : Int) (r7 : List Int) (w : World) (hr0_6 : Kd.C (Kd.int .u8) w A0_6 l0_6.length l0_6) (hc0_6 : l0_6.length ≤ c0_6) (h : impl_reverse.f a0_0 a0_1 a0_2 a0_3 a0_4 a0_5 l0_6 = some (r1, r2, r3, r4, r5, r6, r7)) :
  Calls Try.prog 71 #[.agg #[.int .i64 a0_0, .int .i64 a0_1, .int .i64 a0_2, .int .i64 a0_3, .int .i64 a0_4, .int .i64 a0_5, .slice A0_6 l0_6.length c0_6]] w fun e w' => ∃ v6_ : Value, e = .returned (.agg #[.int .i64 r1, .int .i64 r2, .int .i64 r3, .int .i64 r4, .int .i64 r5, .int .i64 r6, v6_]) ∧ Kd.R (Kd.int .u8) 5 w' w.heap.size (fun _ => True) v6_ r7 ∧ Below w.heap.size w w' := by
 have hu34 := Try.underlying34
 have HR0_6 := Aside0.mk hr0_6
 have HC0_6 := Aside0.mk hc0_6
 clear hr0_6 hc0_6
 have HB := Aside0.mk (Below.refl w.heap.size w)
 have H : ((slices_Clone_byte_byte.f l0_6).bind fun t987 => (some (a0_1, a0_0, a0_2, a0_3, a0_5, a0_4, t987))) = some (r1, r2, r3, r4, r5, r6, r7) := h
 clear h
 replace H := Option.bind_eq_some_iff.mp H
 obtain ⟨t987, a9, H⟩ := H
 try dsimp only at H
 have A2 := Aside0.mk a9
 clear a9
 simp only [Option.some.injEq, Prod.mk.injEq] at H
 obtain ⟨rfl, rfl, rfl, rfl, rfl, rfl, rfl⟩ := H
 go_enter Try.func71, Try.ntmps71
 go_wp2_with (first | ((with_reducible refine gate_dst (N := 1) rfl ?_); refine box_event ?hg (N := 1) ?hd (cs := #[.int .i64 a0_0, .int .i64 a0_1, .int .i64 a0_2, .int .i64 a0_3, .int .i64 a0_4, .int .i64 a0_5, .slice A0_6 l0_6.length c0_6]) (t := 34) ?hr ?_; (case hd => rfl); (case hg => rfl); (case hr => first | (go_simp; done) | (go_simp; rfl)); intro a4 hg w3 hbox hb; have n0_ := Aside0.mk (lP_ HB.out hb); have n1_ := Aside0.mk (hbox); have n3_ := Aside0.mk ((by rw [hg]; exact (below_size HB.out) : w.heap.size ≤ a4)); clear HB; have HB := n0_; have a0 := n1_; have a5 := n3_; clear n0_ n1_ n3_ hb hbox hg) | ((with_reducible refine gate_dst (N := 2) rfl ?_); refine box_event ?hg (N := 2) ?hd (cs := zs6) (t := 34) ?hr ?_; (case hd => rfl); (case hg => rfl); (case hr => first | (go_simp; done) | (go_simp; rfl)); intro a3 hg w4 hbox hb; have n0_ := Aside0.mk (bB_ a0.out hb); have n1_ := Aside0.mk (lP_ HB.out hb); have n2_ := Aside0.mk (hbox); have n4_ := Aside0.mk ((by rw [hg]; exact (below_size HB.out) : w.heap.size ≤ a3)); have n5_ := Aside0.mk ((by rw [hg]; exact Nat.ne_of_lt (blk_lt a0.out) : a4 ≠ a3)); have n6_ := Aside0.mk n5_.out.symm; clear a0 HB; have a0 := n0_; have HB := n1_; have a2 := n2_; have a6 := n4_; have a7 := n5_; have a1 := n6_; clear n0_ n1_ n2_ n4_ n5_ n6_ hb hbox hg; have ac := a7.out; have ad := a1.out; obtain ⟨_, _, _, _, _, _, _, _, _, _, _, _, _, _⟩ := bc7 a0.out) | ((with_reducible refine gate_callee (f := 43) rfl ?_); refine goesA_ (some 17) rfl rfl Try.func43 (by kernel_rfl) rfl #[.slice A0_6 l0_6.length c0_6] rfl ?_; (with_reducible refine (slices_Clone_byte_byte.calls _ _ l0_6 t987 _ ?side1 ?side2 A2.out).mono ?_); (case side1 => exact Kd.C_below HR0_6.out (by repeat (first | (with_reducible first | exact HB.out | refine lS1_ ?_ a5.out | refine lS1_ ?_ a6.out) | exact HB.out))); (case side2 => exact HC0_6.out); rintro e w7 ⟨v988, rfl, ho0, hb⟩; refine ⟨_, rfl, ?_⟩; have n0_ := Aside0.mk (Kd.R_lower ho0 (below_size (by repeat (first | (with_reducible first | exact HB.out | refine lS1_ ?_ a5.out | refine lS1_ ?_ a6.out) | exact HB.out)))); have n1_ := Aside0.mk (bB_ (g := a4) (o := .cells #[.int .i64 a0_1, .int .i64 a0_0, .int .i64 a0_2, .int .i64 a0_3, .int .i64 a0_5, .int .i64 a0_4, .slice A0_6 l0_6.length c0_6] 34 (0, 0)) (by refine blk_put (cs := #[.int .i64 a0_1, .int .i64 a0_0, .int .i64 a0_2, .int .i64 a0_3, .int .i64 a0_5, .int .i64 a0_5, .slice A0_6 l0_6.length c0_6]) ?_ 5 _ rfl; refine blk_put (cs := #[.int .i64 a0_1, .int .i64 a0_0, .int .i64 a0_2, .int .i64 a0_3, .int .i64 a0_4, .int .i64 a0_5, .slice A0_6 l0_6.length c0_6]) ?_ 4 _ rfl; refine blk_put (cs := #[.int .i64 a0_1, .int .i64 a0_1, .int .i64 a0_2, .int .i64 a0_3, .int .i64 a0_4, .int .i64 a0_5, .slice A0_6 l0_6.length c0_6]) ?_ 1 _ rfl; refine blk_put (cs := #[.int .i64 a0_0, .int .i64 a0_1, .int .i64 a0_2, .int .i64 a0_3, .int .i64 a0_4, .int .i64 a0_5, .slice A0_6 l0_6.length c0_6]) ?_ 0 _ rfl; exact a0.out) hb); have n2_ := Aside0.mk (bB_ (g := a3) (o := .cells zs6 34 (0, 0)) (by (iterate 4 (refine bF_ ?_ a1.out _)); exact a2.out) hb); have n3_ := Aside0.mk (lP_ (by repeat (first | (with_reducible first | exact HB.out | refine lS1_ ?_ a5.out | refine lS1_ ?_ a6.out) | exact HB.out)) hb); clear a0 a2 HB; have a8 := n0_; have a0 := n1_; have a2 := n2_; have HB := n3_; clear n0_ n1_ n2_ n3_; (try clear hb); (try clear hb2); (try clear hk); (try clear hi); (try clear ho0); obtain ⟨aa, ab, eo8⟩ := Kd.R_slice a8.out; subst eo8; obtain ⟨_, _, _, _, _, _, _, _, _, _, _, _, _, _⟩ := bc7 a0.out; obtain ⟨_, _, _, _, _, _, _, _, _, _, _, _, _, _⟩ := bc7 a2.out))
 refine bodyPost_ret (results_cell_row rfl _ _ a3 34 #[.int .i64 a0_1, .int .i64 a0_0, .int .i64 a0_2, .int .i64 a0_3, .int .i64 a0_5, .int .i64 a0_4, .slice aa t987.length ab] (0, 0) _ rfl (by (with_reducible repeat first | apply bN_ | apply bD_ | apply bA_); apply fill7; (with_reducible repeat first | apply bN_ | apply bD_ | apply bA_); refine bF_ ?_ a1.out _; (with_reducible repeat first | apply bN_ | apply bD_ | apply bA_); exact a2.out) Try.underlying34 rfl (by kernel_rfl)) rfl ?_
 exact ⟨_, by first | rfl | (simp [errW_none, errW_some] <;> rfl) | (simp [*, errW_none, errW_some] <;> rfl), by (with_reducible repeat first | apply rA_ | apply rN_ | apply rD_); exact Kd.R_mono (rfar7 (g := a3) (Kd.R_far (p := ⟨a4, 6, none⟩) (Kd.R_types (Kd.R_types a8.out a0.out (by decide)) a2.out (by decide)) (fun _ hk => hk.1.2) (.slice aa t987.length ab)) (fun _ hk => hk.2)) (fun _ hk => trivial), by repeat (first | (with_reducible first | exact HB.out | apply lA1_ | apply lN_ | apply lD_ | refine lS1_ ?_ a5.out | refine lS1_ ?_ a6.out) | exact HB.out)⟩
def impl_ReverseWay.f (k : Nat) (a0_0 : Int) (a0_1 : Int) (a0_2 : Int) (a0_3 : Int) (a0_4 : Int) (a0_5 : Int) (l0_6 : List Int) : Option (Int × Int × Int × Int × Int × Int × Int × List Int) := (impl_PacketFault.f k a0_0 a0_1 a0_2 a0_3 a0_4 a0_5 l0_6).bind fun t992 => (if t992 = 0 then ((impl_reverse.f a0_0 a0_1 a0_2 a0_3 a0_4 a0_5 l0_6).bind fun bt993 => (some (0, bt993.1, bt993.2.1, bt993.2.2.1, bt993.2.2.2.1, bt993.2.2.2.2.1, bt993.2.2.2.2.2.1, bt993.2.2.2.2.2.2))) else (some (t992, 0, 0, 0, 0, 0, 0, ([] : List Int))))
set_option maxHeartbeats 8000000 in
set_option maxRecDepth 100000 in
theorem impl_ReverseWay.calls (k : Nat) (a0_0 : Int) (a0_1 : Int) (a0_2 : Int) (a0_3 : Int) (a0_4 : Int) (a0_5 : Int) (A0_6 : Option Addr) (c0_6 : Nat) (l0_6 : List Int) (r1 : Int) (r2 : Int) (r3 : Int) (r4 : Int) (r5 : Int) (r6 : Int) (r7 : Int) (r8 : List Int) (w : World) (hr0_6 : Kd.C (Kd.int .u8) w A0_6 l0_6.length l0_6) (hc0_6 : l0_6.length ≤ c0_6) (h : impl_ReverseWay.f k a0_0 a0_1 a0_2 a0_3 a0_4 a0_5 l0_6 = some (r1, r2, r3, r4, r5, r6, r7, r8)) :
  Calls Try.prog 35 #[.agg #[.int .i64 a0_0, .int .i64 a0_1, .int .i64 a0_2, .int .i64 a0_3, .int .i64 a0_4, .int .i64 a0_5, .slice A0_6 l0_6.length c0_6]] w fun e w' => ∃ v7_ : Value, e = .returned (.agg #[.int .i64 r1, .int .i64 r2, .int .i64 r3, .int .i64 r4, .int .i64 r5, .int .i64 r6, .int .i64 r7, v7_]) ∧ Kd.R (Kd.int .u8) 5 w' w.heap.size (fun _ => True) v7_ r8 ∧ Below w.heap.size w w' := by
 have hu34 := Try.underlying34
 have hu36 := Try.underlying36
 have HR0_6 := Aside0.mk hr0_6
 have HC0_6 := Aside0.mk hc0_6
 clear hr0_6 hc0_6
 have HB := Aside0.mk (Below.refl w.heap.size w)
 have H : ((impl_PacketFault.f k a0_0 a0_1 a0_2 a0_3 a0_4 a0_5 l0_6).bind fun t992 => (if t992 = 0 then ((impl_reverse.f a0_0 a0_1 a0_2 a0_3 a0_4 a0_5 l0_6).bind fun bt993 => (some (0, bt993.1, bt993.2.1, bt993.2.2.1, bt993.2.2.2.1, bt993.2.2.2.2.1, bt993.2.2.2.2.2.1, bt993.2.2.2.2.2.2))) else (some (t992, 0, 0, 0, 0, 0, 0, ([] : List Int))))) = some (r1, r2, r3, r4, r5, r6, r7, r8) := h
 clear h
 replace H := Option.bind_eq_some_iff.mp H
 obtain ⟨t992, a9, H⟩ := H
 try dsimp only at H
 have A2 := Aside0.mk a9
 clear a9
 by_cases c3 : t992 = 0
 ·rw [if_pos c3] at H
  have c3b0 : (t992 == 0) = true := beq_iff_eq.mpr c3
  have c3b1 : (t992 != 0) = false := bne_eq_false_iff_eq.mpr c3
  clear c3
  replace H := Option.bind_eq_some_iff.mp H
  obtain ⟨⟨t993, t994, t995, t996, t997, t998, t999⟩, aa, H⟩ := H
  try dsimp only at H
  have A4 := Aside0.mk aa
  clear aa
  simp only [Option.some.injEq, Prod.mk.injEq] at H
  obtain ⟨rfl, rfl, rfl, rfl, rfl, rfl, rfl, rfl⟩ := H
  go_enter Try.func35, Try.ntmps35
  go_wp2_with (first | ((with_reducible refine gate_dst (N := 1) rfl ?_); refine box_event ?hg (N := 1) ?hd (cs := #[.int .i64 a0_0, .int .i64 a0_1, .int .i64 a0_2, .int .i64 a0_3, .int .i64 a0_4, .int .i64 a0_5, .slice A0_6 l0_6.length c0_6]) (t := 34) ?hr ?_; (case hd => rfl); (case hg => rfl); (case hr => first | (go_simp; done) | (go_simp; rfl)); intro a5 hg w5 hbox hb; have n0_ := Aside0.mk (lP_ HB.out hb); have n1_ := Aside0.mk (hbox); have n3_ := Aside0.mk ((by rw [hg]; exact (below_size HB.out) : w.heap.size ≤ a5)); clear HB; have HB := n0_; have a0 := n1_; have a6 := n3_; clear n0_ n1_ n3_ hb hbox hg) | ((with_reducible refine gate_dst (N := 2) rfl ?_); refine box_event ?hg (N := 2) ?hd (cs := zs7) (t := 36) ?hr ?_; (case hd => rfl); (case hg => rfl); (case hr => first | (go_simp; done) | (go_simp; rfl)); intro a2 hg w6 hbox hb; have n0_ := Aside0.mk (bB_ a0.out hb); have n1_ := Aside0.mk (lP_ HB.out hb); have n2_ := Aside0.mk (hbox); have n4_ := Aside0.mk ((by rw [hg]; exact (below_size HB.out) : w.heap.size ≤ a2)); have n5_ := Aside0.mk ((by rw [hg]; exact Nat.ne_of_lt (blk_lt a0.out) : a5 ≠ a2)); have n6_ := Aside0.mk n5_.out.symm; clear a0 HB; have a0 := n0_; have HB := n1_; have a1 := n2_; have a7 := n4_; have a3 := n5_; have a4 := n6_; clear n0_ n1_ n2_ n4_ n5_ n6_ hb hbox hg; have af := a3.out; have ag := a4.out; obtain ⟨_, _, _, _, _, _, _, _, _, _, _, _, _, _⟩ := bc7 a0.out) | ((with_reducible refine gate_callee (f := 32) rfl ?_); refine goesA_ (some 5) rfl rfl Try.func32 (by kernel_rfl) rfl #[.agg #[.int .i64 a0_0, .int .i64 a0_1, .int .i64 a0_2, .int .i64 a0_3, .int .i64 a0_4, .int .i64 a0_5, .slice A0_6 l0_6.length c0_6]] rfl ?_; (with_reducible refine (impl_PacketFault.calls k a0_0 a0_1 a0_2 a0_3 a0_4 a0_5 _ _ l0_6 t992 _ ?side1 ?side2 A2.out).mono ?_); (case side1 => repeat (first | exact (Kd.C_below HR0_6.out HB.out) | (with_reducible refine Kd.C_alloc ?_ _) | (with_reducible refine Kd.C_drewN ?_ _) | (with_reducible refine Kd.C_drew ?_))); (case side2 => exact HC0_6.out); rintro e w9 ⟨rfl, hb⟩; refine ⟨_, rfl, ?_⟩; have n0_ := Aside0.mk (bB_ a0.out hb); have n1_ := Aside0.mk (bB_ a1.out hb); have n2_ := Aside0.mk (lP_ HB.out hb); clear a0 a1 HB; have a0 := n0_; have a1 := n1_; have HB := n2_; clear n0_ n1_ n2_; (try clear hb); (try clear hb2); (try clear hk); (try clear hi); obtain ⟨_, _, _, _, _, _, _, _, _, _, _, _, _, _⟩ := bc7 a0.out) | ((with_reducible refine gate_callee (f := 71) rfl ?_); refine goesA_ (some 11) rfl rfl Try.func71 (by kernel_rfl) rfl #[.agg #[.int .i64 a0_0, .int .i64 a0_1, .int .i64 a0_2, .int .i64 a0_3, .int .i64 a0_4, .int .i64 a0_5, .slice A0_6 l0_6.length c0_6]] rfl ?_; (with_reducible refine (impl_reverse.calls a0_0 a0_1 a0_2 a0_3 a0_4 a0_5 _ _ l0_6 t993 t994 t995 t996 t997 t998 t999 _ ?side1 ?side2 A4.out).mono ?_); (case side1 => repeat (first | exact (Kd.C_below HR0_6.out HB.out) | (with_reducible refine Kd.C_alloc ?_ _) | (with_reducible refine Kd.C_drewN ?_ _) | (with_reducible refine Kd.C_drew ?_))); (case side2 => exact HC0_6.out); rintro e w11 ⟨v1000, rfl, ho0, hb⟩; refine ⟨_, rfl, ?_⟩; have n0_ := Aside0.mk (Kd.R_lower ho0 (below_size HB.out)); have n2_ := Aside0.mk (bB_ a1.out hb); have n3_ := Aside0.mk (lP_ HB.out hb); clear a1 HB; have a8 := n0_; have a1 := n2_; have HB := n3_; clear n0_ n2_ n3_; (try clear hb); (try clear hb2); (try clear hk); (try clear hi); (try clear ho0); obtain ⟨ab, ac, eo12⟩ := Kd.R_slice a8.out; subst eo12; obtain ⟨_, _, _, _, _, _, _, _, _, _, _, _, _, _, _, _⟩ := bc8 a1.out))
  refine bodyPost_ret (results_cell_row rfl _ _ a2 36 #[.int .i64 0, .int .i64 t993, .int .i64 t994, .int .i64 t995, .int .i64 t996, .int .i64 t997, .int .i64 t998, .slice ab t999.length ac] (0, 0) _ rfl (by (with_reducible repeat first | apply bN_ | apply bD_ | apply bA_); apply fill8; (with_reducible repeat first | apply bN_ | apply bD_ | apply bA_); exact a1.out) Try.underlying36 rfl (by kernel_rfl)) rfl ?_
  exact ⟨_, by first | rfl | (simp [errW_none, errW_some] <;> rfl) | (simp [*, errW_none, errW_some] <;> rfl), by (with_reducible repeat first | apply rA_ | apply rN_ | apply rD_); exact Kd.R_mono (rfar8 (g := a2) (Kd.R_types a8.out a1.out (by decide)) (fun _ hk => hk.2)) (fun _ hk => trivial), by repeat (first | (with_reducible first | exact HB.out | apply lA1_ | apply lN_ | apply lD_ | refine lS1_ ?_ a6.out | refine lS1_ ?_ a7.out) | exact HB.out)⟩
 ·rw [if_neg c3] at H
  have c3b0 : (t992 == 0) = false := beq_eq_false_iff_ne.mpr c3
  have c3b1 : (t992 != 0) = true := bne_iff_ne.mpr c3
  simp only [Option.some.injEq, Prod.mk.injEq] at H
  obtain ⟨rfl, rfl, rfl, rfl, rfl, rfl, rfl, rfl⟩ := H
  go_enter Try.func35, Try.ntmps35
  go_wp2_with (first | ((with_reducible refine gate_dst (N := 1) rfl ?_); refine box_event ?hg (N := 1) ?hd (cs := #[.int .i64 a0_0, .int .i64 a0_1, .int .i64 a0_2, .int .i64 a0_3, .int .i64 a0_4, .int .i64 a0_5, .slice A0_6 l0_6.length c0_6]) (t := 34) ?hr ?_; (case hd => rfl); (case hg => rfl); (case hr => first | (go_simp; done) | (go_simp; rfl)); intro a5 hg w14 hbox hb; have n0_ := Aside0.mk (lP_ (by repeat (first | (with_reducible first | exact HB.out | apply lA1_ | apply lN_ | apply lD_) | exact HB.out)) hb); have n1_ := Aside0.mk (hbox); have n3_ := Aside0.mk ((by rw [hg]; exact (below_size (by repeat (first | (with_reducible first | exact HB.out | apply lA1_ | apply lN_ | apply lD_) | exact HB.out))) : w.heap.size ≤ a5)); clear HB; have HB := n0_; have a0 := n1_; have a6 := n3_; clear n0_ n1_ n3_ hb hbox hg) | ((with_reducible refine gate_dst (N := 2) rfl ?_); refine box_event ?hg (N := 2) ?hd (cs := zs7) (t := 36) ?hr ?_; (case hd => rfl); (case hg => rfl); (case hr => first | (go_simp; done) | (go_simp; rfl)); intro a2 hg w15 hbox hb; have n0_ := Aside0.mk (bB_ a0.out hb); have n1_ := Aside0.mk (lP_ HB.out hb); have n2_ := Aside0.mk (hbox); have n4_ := Aside0.mk ((by rw [hg]; exact (below_size HB.out) : w.heap.size ≤ a2)); have n5_ := Aside0.mk ((by rw [hg]; exact Nat.ne_of_lt (blk_lt a0.out) : a5 ≠ a2)); have n6_ := Aside0.mk n5_.out.symm; clear a0 HB; have a0 := n0_; have HB := n1_; have a1 := n2_; have a7 := n4_; have a3 := n5_; have a4 := n6_; clear n0_ n1_ n2_ n4_ n5_ n6_ hb hbox hg; have ad := a3.out; have ae := a4.out; obtain ⟨_, _, _, _, _, _, _, _, _, _, _, _, _, _⟩ := bc7 a0.out) | ((with_reducible refine gate_callee (f := 32) rfl ?_); refine goesA_ (some 5) rfl rfl Try.func32 (by kernel_rfl) rfl #[.agg #[.int .i64 a0_0, .int .i64 a0_1, .int .i64 a0_2, .int .i64 a0_3, .int .i64 a0_4, .int .i64 a0_5, .slice A0_6 l0_6.length c0_6]] rfl ?_; (with_reducible refine (impl_PacketFault.calls k a0_0 a0_1 a0_2 a0_3 a0_4 a0_5 _ _ l0_6 t992 _ ?side1 ?side2 A2.out).mono ?_); (case side1 => repeat (first | exact (Kd.C_below HR0_6.out HB.out) | (with_reducible refine Kd.C_alloc ?_ _) | (with_reducible refine Kd.C_drewN ?_ _) | (with_reducible refine Kd.C_drew ?_))); (case side2 => exact HC0_6.out); rintro e w18 ⟨rfl, hb⟩; refine ⟨_, rfl, ?_⟩; have n1_ := Aside0.mk (bB_ a1.out hb); have n2_ := Aside0.mk (lP_ HB.out hb); clear a1 HB; have a1 := n1_; have HB := n2_; clear n1_ n2_; (try clear hb); (try clear hb2); (try clear hk); (try clear hi); obtain ⟨_, _, _, _, _, _, _, _, _, _, _, _, _, _, _, _⟩ := bc8 a1.out))
  refine bodyPost_ret (results_cell_row rfl _ _ a2 36 #[.int .i64 t992, .int .i64 0, .int .i64 0, .int .i64 0, .int .i64 0, .int .i64 0, .int .i64 0, .slice none 0 0] (0, 0) _ rfl (by (with_reducible repeat first | apply bN_ | apply bD_ | apply bA_); apply fill8; (with_reducible repeat first | apply bN_ | apply bD_ | apply bA_); exact a1.out) Try.underlying36 rfl (by kernel_rfl)) rfl ?_
  exact ⟨_, by first | rfl | (simp [errW_none, errW_some] <;> rfl) | (simp [*, errW_none, errW_some] <;> rfl), by first | exact Kd.R_nil _ _ _ _ _ | exact Kd.N_nil _ _ _ _ _ | exact Kd.V_nil _ _ _ _ _ | exact Kd.Q_nil _ _ _ _ _ | exact Kd.S_nil _ _ _ _ _, by repeat (first | (with_reducible first | exact HB.out | apply lA1_ | apply lN_ | apply lD_ | refine lS1_ ?_ a6.out | refine lS1_ ?_ a7.out) | exact HB.out)⟩
end Go.Proofs.Ytidejdfbapjfiaa.G
