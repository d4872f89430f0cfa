/- Part 7 of the proof of FnPackets: what the functions on its road do, and the plain laws. -/
import Derived.Test.YtidejdfbapjfiaaCFnPackets6
namespace Go.Proofs.Ytidejdfbapjfiaa.G
open Go.RowKit Go.Proofs.YtidejdfbapjfiaaW.PrintWords Go.Proofs.YtidejdfbapjfiaaW.PrintLast Go.Proofs.YtidejdfbapjfiaaW.PrintMore
attribute [local go_sem] max2_int min2_int max_two min_two max_three min_three max_four min_four   -- for this text's walks alone
set_option linter.unusedVariables false
set_option linter.unusedSimpArgs false
mutual
def laws_FnPackets.j0 : Nat → List Int → Bool → Int → Int → Int → Int → Int → Int → Int → List Int → Option (Bool)
 | 0, _, _, _, _, _, _, _, _, _, _ => none
 | k + 1, x0, x26, x1017000, x1017001, x1017002, x1017003, x1017004, x1017005, x1017006, x1017007 => if x26 = true then (some false) else (if x1017000 = 0 then ((impl_BuildPacket.f k x1017001 x1017002 x1017003 x1017004 x1017005 x1017006 x1017007).bind fun bt1027 => ((impl_ParsePacket.f k bt1027.2).bind fun bt1031 => ((impl_PacketFault.f k x1017001 x1017002 x1017003 x1017004 x1017005 x1017006 x1017007).bind fun t1042 => (if t1042 = 0 then (if bt1031.1 = 0 then ((impl_SamePacket.f bt1031.2.1 bt1031.2.2.1 bt1031.2.2.2.1 bt1031.2.2.2.2.1 bt1031.2.2.2.2.2.1 bt1031.2.2.2.2.2.2.1 bt1031.2.2.2.2.2.2.2 x1017001 x1017002 x1017003 x1017004 x1017005 x1017006 x1017007).bind fun t1043 => (if t1043 = true then (laws_FnPackets.j1 k x0) else (some false))) else (some false)) else (some false))))) else (laws_FnPackets.j1 k x0))
def laws_FnPackets.j1 : Nat → List Int → Option (Bool)
 | 0, _ => none
 | k + 1, x0 => (spec_DrawBuildPacket.f k x0).bind fun bt1044 => ((impl_BuildPacket.f k bt1044.1 bt1044.2.1 bt1044.2.2.1 bt1044.2.2.2.1 bt1044.2.2.2.2.1 bt1044.2.2.2.2.2.1 bt1044.2.2.2.2.2.2).bind fun bt1054 => (if bt1054.1 = 0 then ((impl_ParsePacket.f k bt1054.2).bind fun bt1060 => ((impl_ReverseWay.f k bt1044.1 bt1044.2.1 bt1044.2.2.1 bt1044.2.2.2.1 bt1044.2.2.2.2.1 bt1044.2.2.2.2.2.1 bt1044.2.2.2.2.2.2).bind fun bt1071 => (if bt1060.1 = 0 then ((impl_SamePacket.f bt1060.2.1 bt1060.2.2.1 bt1060.2.2.2.1 bt1060.2.2.2.2.1 bt1060.2.2.2.2.2.1 bt1060.2.2.2.2.2.2.1 bt1060.2.2.2.2.2.2.2 bt1044.1 bt1044.2.1 bt1044.2.2.1 bt1044.2.2.2.1 bt1044.2.2.2.2.1 bt1044.2.2.2.2.2.1 bt1044.2.2.2.2.2.2).bind fun t1082 => (if t1082 = true then (if bt1071.1 = 0 then ((impl_ReverseWay.f k bt1071.2.1 bt1071.2.2.1 bt1071.2.2.2.1 bt1071.2.2.2.2.1 bt1071.2.2.2.2.2.1 bt1071.2.2.2.2.2.2.1 bt1071.2.2.2.2.2.2.2).bind fun bt1083 => ((impl_SamePacket.f bt1083.2.1 bt1083.2.2.1 bt1083.2.2.2.1 bt1083.2.2.2.2.1 bt1083.2.2.2.2.2.1 bt1083.2.2.2.2.2.2.1 bt1083.2.2.2.2.2.2.2 bt1044.1 bt1044.2.1 bt1044.2.2.1 bt1044.2.2.2.1 bt1044.2.2.2.2.1 bt1044.2.2.2.2.2.1 bt1044.2.2.2.2.2.2).bind fun t1093 => (if t1093 = true then (if (bt1054.2.length : Int) ≥ 20 then (if 20 ≤ (bt1054.2.length : Int) then ((impl_CheckWords.f k (bt1054.2.take 20)).bind fun t1098 => (some t1098)) else (none)) else (some false)) else (some false)))) else (some false)) else (some false))) else (some false)))) else ((spec_PacketFault.f k bt1044.1 bt1044.2.1 bt1044.2.2.1 bt1044.2.2.2.1 bt1044.2.2.2.2.1 bt1044.2.2.2.2.2.1 bt1044.2.2.2.2.2.2).bind fun t1059 => (some (t1059 == bt1054.1)))))
end
def laws_FnPackets.f (k : Nat) (l0 : List Int) : Option (Bool) := (laws_lwBig.f l0).bind fun t1002 => (if t1002 = true then (some true) else ((spec_DrawParsePacket.f k l0).bind fun t1003 => ((impl_ParsePacket.f k t1003).bind fun bt1006 => (if bt1006.1 = 0 then (laws_FnPackets.j0 k l0 false bt1006.1 bt1006.2.1 bt1006.2.2.1 bt1006.2.2.2.1 bt1006.2.2.2.2.1 bt1006.2.2.2.2.2.1 bt1006.2.2.2.2.2.2.1 bt1006.2.2.2.2.2.2.2) else ((spec_ParsePacket.f k t1003).bind fun bt1017 => (laws_FnPackets.j0 k l0 (bt1017.1 != bt1006.1) bt1006.1 bt1006.2.1 bt1006.2.2.1 bt1006.2.2.2.1 bt1006.2.2.2.2.1 bt1006.2.2.2.2.2.1 bt1006.2.2.2.2.2.2.1 bt1006.2.2.2.2.2.2.2))))))
def laws_FnPackets.T5 : Bool × List (List Nat × List Nat) := (true, [([], []), ([0], [0]), ([1], [1]), ([2], [2]), ([3], [3]), ([4, 3, 3], [3, 4]), ([5, 3], [3, 5]), ([3], [3]), ([7, 3], [3, 7]), ([6, 8, 3], [3, 6, 8]), ([3, 9], [3, 9])])
def laws_FnPackets.B5 : List Nat := [0, 1, 3, 7, 15, 31, 63, 15, 143, 511, 1023]
theorem laws_FnPackets.tab5 : rtab .any (opsOf Try.f7 5) = laws_FnPackets.T5 := by kernel_rfl
theorem laws_FnPackets.bits5 : waitsOk laws_FnPackets.T5.2 laws_FnPackets.B5 = true := by kernel_rfl
def laws_FnPackets.T17 : Bool × List (List Nat × List Nat) := (true, [([], []), ([0], [0]), ([1], [1]), ([2], [2]), ([3], [3]), ([4, 3], [3, 4]), ([3], [3]), ([5, 6, 3, 3], [3, 5, 6]), ([3, 7], [3, 7]), ([8, 7], [8]), ([9], [9]), ([10, 9], [9, 10]), ([11, 9], [9, 11]), ([9, 12], [9, 12]), ([13, 9], [13]), ([14], [14]), ([15, 14], [14, 15]), ([16, 14, 14], [14, 16]), ([17, 14], [14, 17]), ([14], [14]), ([18, 19, 17, 14], [14, 18, 19]), ([14, 20], [14, 20]), ([21, 20], [21]), ([22], [22]), ([23, 22], [22, 23]), ([24, 22], [22, 24]), ([25, 22], [22, 25]), ([22, 26], [22, 26]), ([27, 22], [27]), ([28], [28]), ([29, 28], [28, 29]), ([30, 28], [28, 30]), ([31, 28, 28], [28, 31]), ([28, 32], [28, 32]), ([33, 32, 0, 1, 2, 3, 4, 5, 6, 7, 8, 9, 10, 11, 12, 13, 14, 15, 16, 17, 18, 19, 20, 21, 22, 23, 24, 25, 26, 27, 28, 29, 30, 31, 32, 33], [33])])
def laws_FnPackets.B17 : List Nat := [0, 1, 3, 7, 15, 31, 15, 127, 255, 511, 1023, 2047, 4095, 8191, 16383, 32767, 65535, 131071, 262143, 32767, 1048575, 2097151, 4194303, 8388607, 16777215, 33554431, 67108863, 134217727, 268435455, 536870911, 1073741823, 2147483647, 4294967295, 8589934591, 17179869183]
theorem laws_FnPackets.tab17 : rtab .any (opsOf Try.f7 17) = laws_FnPackets.T17 := by kernel_rfl
theorem laws_FnPackets.bits17 : waitsOk laws_FnPackets.T17.2 laws_FnPackets.B17 = true := by kernel_rfl
set_option maxHeartbeats 8000000 in
set_option maxRecDepth 100000 in
theorem laws_FnPackets.calls (k : Nat) (A0 : Option Addr) (c0 : Nat) (l0 : List Int) (w : World) (hr0 : Kd.C (Kd.int .u8) w A0 l0.length l0) (hc0 : l0.length ≤ c0) (h : laws_FnPackets.f k l0 = some true) :
  Calls Try.prog 7 #[.slice A0 l0.length c0] w fun e w' => e = .returned (.bool true) ∧ Below w.heap.size w w' := by
 have hu36 := Try.underlying36
 have hu34 := Try.underlying34
 have hu29 := Try.underlying29
 have bv := Aside0.mk hr0
 have bw := Aside0.mk hc0
 clear hr0 hc0
 have HB := Aside0.mk (Below.refl w.heap.size w)
 have H : ((laws_lwBig.f l0).bind fun t1002 => (if t1002 = true then (some true) else ((spec_DrawParsePacket.f k l0).bind fun t1003 => ((impl_ParsePacket.f k t1003).bind fun bt1006 => (if bt1006.1 = 0 then (laws_FnPackets.j0 k l0 false bt1006.1 bt1006.2.1 bt1006.2.2.1 bt1006.2.2.2.1 bt1006.2.2.2.2.1 bt1006.2.2.2.2.2.1 bt1006.2.2.2.2.2.2.1 bt1006.2.2.2.2.2.2.2) else ((spec_ParsePacket.f k t1003).bind fun bt1017 => (laws_FnPackets.j0 k l0 (bt1017.1 != bt1006.1) bt1006.1 bt1006.2.1 bt1006.2.2.1 bt1006.2.2.2.1 bt1006.2.2.2.2.1 bt1006.2.2.2.2.2.1 bt1006.2.2.2.2.2.2.1 bt1006.2.2.2.2.2.2.2))))))) = some true := h
 clear h
 replace H := Option.bind_eq_some_iff.mp H
 obtain ⟨t1002, cv, H⟩ := H
 try dsimp only at H
 have A2 := Aside0.mk cv
 clear cv
 by_cases c3 : t1002 = true
 ·subst c3
  rw [if_pos rfl] at H
  clear H
  go_enter Try.func7, Try.ntmps7
  go_wp2_with (first | (refine upon_field_ (ty := 22) 1 Try.underlying29 Try.underlying22 rfl rfl rfl ?_) | (refine upon_field_ (ty := 2) 0 Try.underlying36 Try.underlying2 rfl rfl rfl ?_) | (refine upon_fieldA_ (ty := 34) 1 7 (ys := [_, _, _, _, _, _, _]) Try.underlying36 Try.underlying34 (show Try.prog.cellsOf 34 = 7 by kernel_rfl) rfl rfl ?_) | ((with_reducible refine gate_callee (f := 8) rfl ?_); refine goesA_ (some 11) rfl rfl Try.func8 (by kernel_rfl) rfl #[.slice A0 l0.length c0] rfl ?_; (with_reducible refine (laws_lwBig.calls _ _ l0 true _ ?side1 ?side2 A2.out).mono ?_); (case side1 => repeat (first | exact bv.out | (with_reducible refine Kd.C_alloc ?_ _) | (with_reducible refine Kd.C_drewN ?_ _) | (with_reducible refine Kd.C_drew ?_))); (case side2 => exact bw.out); rintro e w' ⟨rfl, ⟨nd, rfl⟩⟩; refine ⟨_, rfl, ?_⟩))
  go_ret
  exact ⟨by first | rfl | (rw [hr_.out]; first | done | rfl) | (simp [errW_none, errW_some] <;> rfl) | (simp [*, errW_none, errW_some] <;> rfl), by repeat (first | (with_reducible first | exact HB.out | apply lA1_ | apply lN_ | apply lD_) | exact HB.out)⟩
 ·replace c3 := Bool.eq_false_iff.mpr c3
  subst c3
  rw [if_neg (show ¬ (false = true) by decide)] at H
  replace H := Option.bind_eq_some_iff.mp H
  obtain ⟨t1003, cw, H⟩ := H
  try dsimp only at H
  have A4 := Aside0.mk cw
  clear cw
  replace H := Option.bind_eq_some_iff.mp H
  obtain ⟨⟨t1006, t1007, t1008, t1009, t1010, t1011, t1012, t1013⟩, c6, H⟩ := H
  try dsimp only at H
  have A5 := Aside0.mk c6
  clear c6
  have c9 := Aside0.mk H
  clear H
  go_enter Try.func7, Try.ntmps7
  go_upto_region 5 with (first | ((with_reducible refine gate_callee (f := 8) rfl ?_); refine goesA_ (some 11) rfl rfl Try.func8 (by kernel_rfl) rfl #[.slice A0 l0.length c0] rfl ?_; (with_reducible refine (laws_lwBig.calls _ _ l0 false _ ?side1 ?side2 A2.out).mono ?_); (case side1 => repeat (first | exact bv.out | (with_reducible refine Kd.C_alloc ?_ _) | (with_reducible refine Kd.C_drewN ?_ _) | (with_reducible refine Kd.C_drew ?_))); (case side2 => exact bw.out); rintro e w' ⟨rfl, ⟨nd, rfl⟩⟩; refine ⟨_, rfl, ?_⟩) | ((with_reducible refine gate_callee (f := 30) rfl ?_); refine goesA_ (some 13) rfl rfl Try.func30 (by kernel_rfl) rfl #[.slice A0 l0.length c0] rfl ?_; (with_reducible refine (spec_DrawParsePacket.calls k _ _ l0 t1003 _ ?side1 ?side2 A4.out).mono ?_); (case side1 => repeat (first | exact bv.out | (with_reducible refine Kd.C_alloc ?_ _) | (with_reducible refine Kd.C_drewN ?_ _) | (with_reducible refine Kd.C_drew ?_))); (case side2 => exact bw.out); rintro e w7 ⟨v1004, rfl, ho0, hb⟩; refine ⟨_, rfl, ?_⟩; have n0_ := Aside0.mk (Kd.R_lower ho0 (below_size (by repeat (first | (with_reducible first | exact HB.out | apply lA1_ | apply lN_ | apply lD_) | exact HB.out)))); have n1_ := Aside0.mk (lP_ (by repeat (first | (with_reducible first | exact HB.out | apply lA1_ | apply lN_ | apply lD_) | exact HB.out)) hb); clear HB; have ae := n0_; have HB := n1_; clear n0_ n1_; (try clear hb); (try clear hb2); (try clear hk); (try clear hi); (try clear ho0); obtain ⟨bt, bu, eo8⟩ := Kd.R_slice ae.out; subst eo8) | ((with_reducible refine gate_callee (f := 17) rfl ?_); refine goesA_ (some 15) rfl rfl Try.func17 (by kernel_rfl) rfl #[.slice bt t1003.length bu] rfl ?_; (with_reducible refine (impl_ParsePacket.calls k _ _ t1003 t1006 t1007 t1008 t1009 t1010 t1011 t1012 t1013 _ ?side1 ?side2 A5.out).mono ?_); (case side1 => repeat (first | exact (Kd.R_reads' ae.out).2.2 | (with_reducible refine Kd.C_alloc ?_ _) | (with_reducible refine Kd.C_drewN ?_ _) | (with_reducible refine Kd.C_drew ?_))); (case side2 => exact (Kd.R_reads' ae.out).2.1); rintro e w9 ⟨v1014, rfl, ho0, hb⟩; refine ⟨_, rfl, ?_⟩; have n0_ := Aside0.mk (Kd.R_elder' (by (with_reducible repeat first | apply rA_ | apply rN_ | apply rD_); exact ae.out) (Kd.R_base ho0) hb); have n1_ := Aside0.mk (Kd.R_lower (Kd.R_new' ho0 (Kd.R_lt (by (with_reducible repeat first | apply rA_ | apply rN_ | apply rD_); exact ae.out))) (below_size (by repeat (first | (with_reducible first | exact HB.out | apply lA1_ | apply lN_ | apply lD_) | exact HB.out)))); have n2_ := Aside0.mk (lP_ (by repeat (first | (with_reducible first | exact HB.out | apply lA1_ | apply lN_ | apply lD_) | exact HB.out)) hb); clear ae HB; have ae := n0_; have ai := n1_; have HB := n2_; clear n0_ n1_ n2_; (try clear hb); (try clear hb2); (try clear hk); (try clear hi); (try clear ho0)) | ((with_reducible refine gate_dst (N := 4) rfl ?_); (try (refine gate_guard (by rfl) ?_; dsimp only)); refine box_event ?hg (N := 4) ?hd (cs := zs7) (t := 36) ?hr ?_; (case hd => rfl); (case hg => rfl); (case hr => first | (go_simp; done) | (go_simp; rfl)); intro a2 hg w10 hbox hb; have n0_ := Aside0.mk (Kd.R_below (by (with_reducible repeat first | apply rA_ | apply rN_ | apply rD_); exact ae.out) hb); have n1_ := Aside0.mk (Kd.R_below (by (with_reducible repeat first | apply rA_ | apply rN_ | apply rD_); exact ai.out) hb); have n2_ := Aside0.mk (lP_ (by repeat (first | (with_reducible first | exact HB.out | apply lA1_ | apply lN_ | apply lD_) | exact HB.out)) hb); have n3_ := Aside0.mk (hbox); have n4_ := Aside0.mk ((by rw [hg]; exact (below_size (by repeat (first | (with_reducible first | exact HB.out | apply lA1_ | apply lN_ | apply lD_) | exact HB.out))) : w.heap.size ≤ a2)); have n5_ := Aside0.mk ((by rw [hg]; exact (below_size (by repeat (first | (with_reducible first | exact HB.out | apply lA1_ | apply lN_ | apply lD_) | exact HB.out))) : w.heap.size ≤ a2)); clear ae ai HB; have ae := n0_; have ai := n1_; have HB := n2_; have a1 := n3_; have d1 := n4_; have ag := n5_; clear n0_ n1_ n2_ n3_ n4_ n5_ hb hbox hg; obtain ⟨_, _, _, _, _, _, _, _, _, _, _, _, _, _, _, _⟩ := bc8 a1.out; obtain ⟨ad, ac, eo12⟩ := Kd.R_slice ai.out; subst eo12))
  (try simp only [Act.put, lA_, lZ_, lS_])
  go_cut [26] (fun v26 wc => ∃ (kq : Nat) (x26_5 : Bool), v26 = .bool x26_5 ∧ Aside0 (laws_FnPackets.j0 kq l0 x26_5 t1006 t1007 t1008 t1009 t1010 t1011 t1012 t1013 = some true) ∧ Aside0 (kq ≤ k) ∧ Aside0 (Kd.R (Kd.int .u8) 5 wc w.heap.size (fun _ => True) (.slice ad t1013.length ac) t1013) ∧ Aside0 (wc.heap[a2]? = some (.cells #[.int .i64 t1006, .int .i64 t1007, .int .i64 t1008, .int .i64 t1009, .int .i64 t1010, .int .i64 t1011, .int .i64 t1012, (.slice ad t1013.length ac)] 36 (0, 0))) ∧ Aside0 (Below w.heap.size w wc))
  case first =>
   have H := c9.out
   clear c9
   by_cases c13 : t1006 = 0
   ·rw [if_pos c13] at H
    have c13b0 : (t1006 == 0) = true := beq_iff_eq.mpr c13
    have c13b1 : (t1006 != 0) = false := bne_eq_false_iff_eq.mpr c13
    clear c13
    (first | rw [c13b0] | (simp only [i64_w, i32_w]; rw [c13b0]) | skip)
    have H' := Aside0.mk H
    clear H
    try go_wp2
    have n0_ : Aside0 (Kd.R (Kd.int .u8) 5 ((((((((w10.setCell ⟨a2, 0, none⟩ (.int .i64 t1006)).setCell ⟨a2, 1, none⟩ (.int .i64 t1007)).setCell ⟨a2, 2, none⟩ (.int .i64 t1008)).setCell ⟨a2, 3, none⟩ (.int .i64 t1009)).setCell ⟨a2, 4, none⟩ (.int .i64 t1010)).setCell ⟨a2, 5, none⟩ (.int .i64 t1011)).setCell ⟨a2, 6, none⟩ (.int .i64 t1012)).setCell ⟨a2, 7, none⟩ (.slice ad t1013.length ac)) w.heap.size (fun k_ => some k_ ≠ (.slice ad t1013.length ac : Value).ownBlock) (.slice bt t1003.length bu) t1003) := ⟨by (with_reducible repeat first | apply rA_ | apply rN_ | apply rD_); exact Kd.R_mono (rfar8 (g := a2) (Kd.R_types ae.out a1.out (by decide)) (fun _ hk => hk.2)) (fun _ hk => hk.1.2)⟩
    have n1_ : Aside0 (Kd.R (Kd.int .u8) 5 ((((((((w10.setCell ⟨a2, 0, none⟩ (.int .i64 t1006)).setCell ⟨a2, 1, none⟩ (.int .i64 t1007)).setCell ⟨a2, 2, none⟩ (.int .i64 t1008)).setCell ⟨a2, 3, none⟩ (.int .i64 t1009)).setCell ⟨a2, 4, none⟩ (.int .i64 t1010)).setCell ⟨a2, 5, none⟩ (.int .i64 t1011)).setCell ⟨a2, 6, none⟩ (.int .i64 t1012)).setCell ⟨a2, 7, none⟩ (.slice ad t1013.length ac)) w.heap.size (fun k_ => some k_ ≠ (.slice bt t1003.length bu : Value).ownBlock) (.slice ad t1013.length ac) t1013) := ⟨by (with_reducible repeat first | apply rA_ | apply rN_ | apply rD_); exact Kd.R_mono (rfar8 (g := a2) (Kd.R_types ai.out a1.out (by decide)) (fun _ hk => hk.2)) (fun _ hk => hk.1.2)⟩
    have n2_ : Aside0 (((((((((w10.setCell ⟨a2, 0, none⟩ (.int .i64 t1006)).setCell ⟨a2, 1, none⟩ (.int .i64 t1007)).setCell ⟨a2, 2, none⟩ (.int .i64 t1008)).setCell ⟨a2, 3, none⟩ (.int .i64 t1009)).setCell ⟨a2, 4, none⟩ (.int .i64 t1010)).setCell ⟨a2, 5, none⟩ (.int .i64 t1011)).setCell ⟨a2, 6, none⟩ (.int .i64 t1012)).setCell ⟨a2, 7, none⟩ (.slice ad t1013.length ac)).heap[a2]? = some (.cells #[.int .i64 t1006, .int .i64 t1007, .int .i64 t1008, .int .i64 t1009, .int .i64 t1010, .int .i64 t1011, .int .i64 t1012, .slice ad t1013.length ac] 36 (0, 0))) := ⟨by (with_reducible repeat first | apply bN_ | apply bD_ | apply bA_); apply fill8; (with_reducible repeat first | apply bN_ | apply bD_ | apply bA_); exact a1.out⟩
    have n3_ : Aside0 (Below w.heap.size w ((((((((w10.setCell ⟨a2, 0, none⟩ (.int .i64 t1006)).setCell ⟨a2, 1, none⟩ (.int .i64 t1007)).setCell ⟨a2, 2, none⟩ (.int .i64 t1008)).setCell ⟨a2, 3, none⟩ (.int .i64 t1009)).setCell ⟨a2, 4, none⟩ (.int .i64 t1010)).setCell ⟨a2, 5, none⟩ (.int .i64 t1011)).setCell ⟨a2, 6, none⟩ (.int .i64 t1012)).setCell ⟨a2, 7, none⟩ (.slice ad t1013.length ac))) := ⟨by repeat (first | (with_reducible first | exact HB.out | apply lA1_ | apply lN_ | apply lD_ | refine lS1_ ?_ ag.out) | exact HB.out)⟩
    (try clear ae)
    (try clear ai)
    (try clear a1)
    (try clear HB)
    generalize ((((((((w10.setCell ⟨a2, 0, none⟩ (.int .i64 t1006)).setCell ⟨a2, 1, none⟩ (.int .i64 t1007)).setCell ⟨a2, 2, none⟩ (.int .i64 t1008)).setCell ⟨a2, 3, none⟩ (.int .i64 t1009)).setCell ⟨a2, 4, none⟩ (.int .i64 t1010)).setCell ⟨a2, 5, none⟩ (.int .i64 t1011)).setCell ⟨a2, 6, none⟩ (.int .i64 t1012)).setCell ⟨a2, 7, none⟩ (.slice ad t1013.length ac)) = w14 at n0_ n1_ n2_ n3_ ⊢
    have ae := n0_
    have ai := n1_
    have a1 := n2_
    have HB := n3_
    clear n0_ n1_ n2_ n3_
    have n0_ := Aside0.mk (rD_ ae.out)
    have n1_ := Aside0.mk (rD_ ai.out)
    have n2_ := Aside0.mk (bD_ a1.out)
    have n3_ := Aside0.mk (lD_ HB.out)
    clear ae
    clear ai
    clear a1
    clear HB
    have ae := n0_
    have ai := n1_
    have a1 := n2_
    have HB := n3_
    clear n0_ n1_ n2_ n3_
    refine start_ (n := 11) (S := fun w' => w'.cell? ⟨a2, 0, none⟩ = some (.int .i64 t1006) ∧ w'.cell? ⟨a2, 1, none⟩ = some (.int .i64 t1007) ∧ w'.cell? ⟨a2, 2, none⟩ = some (.int .i64 t1008) ∧ w'.cell? ⟨a2, 3, none⟩ = some (.int .i64 t1009) ∧ w'.cell? ⟨a2, 4, none⟩ = some (.int .i64 t1010) ∧ w'.cell? ⟨a2, 5, none⟩ = some (.int .i64 t1011) ∧ w'.cell? ⟨a2, 6, none⟩ = some (.int .i64 t1012) ∧ w'.cell? ⟨a2, 7, none⟩ = some (.slice ad t1013.length ac)) (ds := []) #[false, false, false, false, false, false, false, false, false, false, false] (by kernel_rfl) rfl rfl ⟨(blk_cell a1.out 0).trans rfl, (blk_cell a1.out 1).trans rfl, (blk_cell a1.out 2).trans rfl, (blk_cell a1.out 3).trans rfl, (blk_cell a1.out 4).trans rfl, (blk_cell a1.out 5).trans rfl, (blk_cell a1.out 6).trans rfl, (blk_cell a1.out 7).trans rfl⟩ (fun hHeld => ?_); refine with_tabW laws_FnPackets.tab5 laws_FnPackets.bits5 (fun HT_ HW_ => ?_)
    generalize w14.drew = w15 at ae ai a1 HB hHeld ⊢
    refine pure_ (i := 0) (N := some 16) (v := ?_) (a' := ?_) #[true, false, false, false, false, false, false, false, false, false, false] rfl rfl (any_of HT_.out (by kernel_rfl)) (fun _ _ _ h => h) (Or.inl ⟨by rfl, ?_⟩) ?_ ?_
    rotate_left
    ·intro w'
     go_simp
     with_reducible rfl
    rotate_left
    ·simp only [Act.put, lA_, lZ_, lS_, i64_w, i32_w]
     rfl
    refine take_ (i := 1) (N := some 17) (v := ?_) (a' := ?_) #[true, true, false, false, false, false, false, false, false, false, false] rfl rfl (take_ofW HT_.out HW_.out (by kernel_rfl)) (fun _ _ _ h => h) (Or.inl ⟨by rfl, ?_⟩) hHeld ?_ ?_
    rotate_left
    ·rintro w' ⟨s0, s1, s2, s3, s4, s5, s6, s7⟩
     go_simp
     with_reducible rfl
    rotate_left
    ·simp only [Act.put, lA_, lZ_, lS_, i64_w, i32_w]
     rfl
    refine pure_ (i := 2) (N := some 18) (v := ?_) (a' := ?_) #[true, true, true, false, false, false, false, false, false, false, false] rfl rfl (any_of HT_.out (by kernel_rfl)) (fun _ _ _ h => h) (Or.inl ⟨by rfl, ?_⟩) ?_ ?_
    rotate_left
    ·intro w'
     go_simp
     with_reducible rfl
    rotate_left
    ·simp only [Act.put, lA_, lZ_, lS_, i64_w, i32_w]
     rfl
    refine pure_ (i := 3) (N := some 19) (v := ?_) (a' := ?_) #[true, true, true, true, false, false, false, false, false, false, false] rfl rfl (any_of HT_.out (by kernel_rfl)) (fun _ _ _ h => h) (Or.inl ⟨by rfl, ?_⟩) ?_ ?_
    rotate_left
    ·intro w'
     go_simp
     with_reducible rfl
    rotate_left
    ·simp only [Act.put, lA_, lZ_, lS_, i64_w, i32_w]
     rfl
    refine pure_ (i := 4) (N := some 20) (v := undef) (a' := ?_) #[true, true, true, true, true, false, false, false, false, false, false] rfl rfl (any_of HT_.out (by kernel_rfl)) (fun _ _ _ h => h) (Or.inr ⟨by rfl, rfl⟩) ?_ ?_
    rotate_left
    ·simp only [Act.put, lA_, lZ_, lS_, i64_w, i32_w]
     rfl
    refine pure_ (i := 5) (N := some 21) (v := undef) (a' := ?_) #[true, true, true, true, true, true, false, false, false, false, false] rfl rfl (any_of HT_.out (by kernel_rfl)) (fun _ _ _ h => h) (Or.inr ⟨by rfl, rfl⟩) ?_ ?_
    rotate_left
    ·simp only [Act.put, lA_, lZ_, lS_, i64_w, i32_w]
     rfl
    refine pure_ (i := 6) (N := some 22) (v := undef) (a' := ?_) #[true, true, true, true, true, true, true, false, false, false, false] rfl rfl (any_of HT_.out (by kernel_rfl)) (fun _ _ _ h => h) (Or.inr ⟨by rfl, rfl⟩) ?_ ?_
    rotate_left
    ·simp only [Act.put, lA_, lZ_, lS_, i64_w, i32_w]
     rfl
    refine pure_ (i := 7) (N := some 23) (v := undef) (a' := ?_) #[true, true, true, true, true, true, true, true, false, false, false] rfl rfl (any_of HT_.out (by kernel_rfl)) (fun _ _ _ h => h) (Or.inr ⟨by rfl, rfl⟩) ?_ ?_
    rotate_left
    ·simp only [Act.put, lA_, lZ_, lS_, i64_w, i32_w]
     rfl
    refine pure_ (i := 8) (N := some 24) (v := undef) (a' := ?_) #[true, true, true, true, true, true, true, true, true, false, false] rfl rfl (any_of HT_.out (by kernel_rfl)) (fun _ _ _ h => h) (Or.inr ⟨by rfl, rfl⟩) ?_ ?_
    rotate_left
    ·simp only [Act.put, lA_, lZ_, lS_, i64_w, i32_w]
     rfl
    refine pure_ (i := 9) (N := some 25) (v := undef) (a' := ?_) #[true, true, true, true, true, true, true, true, true, true, false] rfl rfl (any_of HT_.out (by kernel_rfl)) (fun _ _ _ h => h) (Or.inr ⟨by rfl, rfl⟩) ?_ ?_
    rotate_left
    ·simp only [Act.put, lA_, lZ_, lS_, i64_w, i32_w]
     rfl
    refine pure_ (i := 10) (N := some 26) (v := ?_) (a' := ?_) #[true, true, true, true, true, true, true, true, true, true, true] rfl rfl (any_of HT_.out (by kernel_rfl)) (fun _ _ _ h => h) (Or.inl ⟨by rfl, ?_⟩) ?_ ?_
    rotate_left
    ·intro w'
     go_simp
     with_reducible rfl
    rotate_left
    ·simp only [Act.put, lA_, lZ_, lS_, i64_w, i32_w]
     rfl
    refine done_ (done_of HT_.out (by kernel_rfl)) ?_
    try go_wp2
    go_meet
    case rel => exact ⟨_, (false), (by first | rfl | (simp; done) | (simp [*]; done)), H', ⟨by first | omega | exact Nat.le_refl _⟩, ⟨by (with_reducible repeat first | apply rA_ | apply rN_ | apply rD_); exact Kd.R_mono ai.out (fun _ hk => trivial)⟩, ⟨by (with_reducible repeat first | apply bN_ | apply bD_ | apply bA_); exact a1.out⟩, ⟨by repeat (first | (with_reducible first | exact HB.out | apply lA1_ | apply lN_ | apply lD_ | refine lS1_ ?_ ag.out) | exact HB.out)⟩⟩
   ·rw [if_neg c13] at H
    have c13b0 : (t1006 == 0) = false := beq_eq_false_iff_ne.mpr c13
    have c13b1 : (t1006 != 0) = true := bne_iff_ne.mpr c13
    (first | rw [c13b0] | (simp only [i64_w, i32_w]; rw [c13b0]) | skip)
    replace H := Option.bind_eq_some_iff.mp H
    obtain ⟨⟨t1017, t1018, t1019, t1020, t1021, t1022, t1023, t1024⟩, ca, H⟩ := H
    try dsimp only at H
    have d2 := Aside0.mk ca
    clear ca
    have H' := Aside0.mk H
    clear H
    try go_wp2
    have n0_ : Aside0 (Kd.R (Kd.int .u8) 5 ((((((((w10.setCell ⟨a2, 0, none⟩ (.int .i64 t1006)).setCell ⟨a2, 1, none⟩ (.int .i64 t1007)).setCell ⟨a2, 2, none⟩ (.int .i64 t1008)).setCell ⟨a2, 3, none⟩ (.int .i64 t1009)).setCell ⟨a2, 4, none⟩ (.int .i64 t1010)).setCell ⟨a2, 5, none⟩ (.int .i64 t1011)).setCell ⟨a2, 6, none⟩ (.int .i64 t1012)).setCell ⟨a2, 7, none⟩ (.slice ad t1013.length ac)) w.heap.size (fun k_ => some k_ ≠ (.slice ad t1013.length ac : Value).ownBlock) (.slice bt t1003.length bu) t1003) := ⟨by (with_reducible repeat first | apply rA_ | apply rN_ | apply rD_); exact Kd.R_mono (rfar8 (g := a2) (Kd.R_types ae.out a1.out (by decide)) (fun _ hk => hk.2)) (fun _ hk => hk.1.2)⟩
    have n1_ : Aside0 (Kd.R (Kd.int .u8) 5 ((((((((w10.setCell ⟨a2, 0, none⟩ (.int .i64 t1006)).setCell ⟨a2, 1, none⟩ (.int .i64 t1007)).setCell ⟨a2, 2, none⟩ (.int .i64 t1008)).setCell ⟨a2, 3, none⟩ (.int .i64 t1009)).setCell ⟨a2, 4, none⟩ (.int .i64 t1010)).setCell ⟨a2, 5, none⟩ (.int .i64 t1011)).setCell ⟨a2, 6, none⟩ (.int .i64 t1012)).setCell ⟨a2, 7, none⟩ (.slice ad t1013.length ac)) w.heap.size (fun k_ => some k_ ≠ (.slice bt t1003.length bu : Value).ownBlock) (.slice ad t1013.length ac) t1013) := ⟨by (with_reducible repeat first | apply rA_ | apply rN_ | apply rD_); exact Kd.R_mono (rfar8 (g := a2) (Kd.R_types ai.out a1.out (by decide)) (fun _ hk => hk.2)) (fun _ hk => hk.1.2)⟩
    have n2_ : Aside0 (((((((((w10.setCell ⟨a2, 0, none⟩ (.int .i64 t1006)).setCell ⟨a2, 1, none⟩ (.int .i64 t1007)).setCell ⟨a2, 2, none⟩ (.int .i64 t1008)).setCell ⟨a2, 3, none⟩ (.int .i64 t1009)).setCell ⟨a2, 4, none⟩ (.int .i64 t1010)).setCell ⟨a2, 5, none⟩ (.int .i64 t1011)).setCell ⟨a2, 6, none⟩ (.int .i64 t1012)).setCell ⟨a2, 7, none⟩ (.slice ad t1013.length ac)).heap[a2]? = some (.cells #[.int .i64 t1006, .int .i64 t1007, .int .i64 t1008, .int .i64 t1009, .int .i64 t1010, .int .i64 t1011, .int .i64 t1012, .slice ad t1013.length ac] 36 (0, 0))) := ⟨by (with_reducible repeat first | apply bN_ | apply bD_ | apply bA_); apply fill8; (with_reducible repeat first | apply bN_ | apply bD_ | apply bA_); exact a1.out⟩
    have n3_ : Aside0 (Below w.heap.size w ((((((((w10.setCell ⟨a2, 0, none⟩ (.int .i64 t1006)).setCell ⟨a2, 1, none⟩ (.int .i64 t1007)).setCell ⟨a2, 2, none⟩ (.int .i64 t1008)).setCell ⟨a2, 3, none⟩ (.int .i64 t1009)).setCell ⟨a2, 4, none⟩ (.int .i64 t1010)).setCell ⟨a2, 5, none⟩ (.int .i64 t1011)).setCell ⟨a2, 6, none⟩ (.int .i64 t1012)).setCell ⟨a2, 7, none⟩ (.slice ad t1013.length ac))) := ⟨by repeat (first | (with_reducible first | exact HB.out | apply lA1_ | apply lN_ | apply lD_ | refine lS1_ ?_ ag.out) | exact HB.out)⟩
    (try clear ae)
    (try clear ai)
    (try clear a1)
    (try clear HB)
    generalize ((((((((w10.setCell ⟨a2, 0, none⟩ (.int .i64 t1006)).setCell ⟨a2, 1, none⟩ (.int .i64 t1007)).setCell ⟨a2, 2, none⟩ (.int .i64 t1008)).setCell ⟨a2, 3, none⟩ (.int .i64 t1009)).setCell ⟨a2, 4, none⟩ (.int .i64 t1010)).setCell ⟨a2, 5, none⟩ (.int .i64 t1011)).setCell ⟨a2, 6, none⟩ (.int .i64 t1012)).setCell ⟨a2, 7, none⟩ (.slice ad t1013.length ac)) = w17 at n0_ n1_ n2_ n3_ ⊢
    have ae := n0_
    have ai := n1_
    have a1 := n2_
    have HB := n3_
    clear n0_ n1_ n2_ n3_
    have n0_ := Aside0.mk (rD_ ae.out)
    have n1_ := Aside0.mk (rD_ ai.out)
    have n2_ := Aside0.mk (bD_ a1.out)
    have n3_ := Aside0.mk (lD_ HB.out)
    clear ae
    clear ai
    clear a1
    clear HB
    have ae := n0_
    have ai := n1_
    have a1 := n2_
    have HB := n3_
    clear n0_ n1_ n2_ n3_
    refine start_ (n := 11) (S := fun w' => w'.cell? ⟨a2, 0, none⟩ = some (.int .i64 t1006) ∧ w'.cell? ⟨a2, 1, none⟩ = some (.int .i64 t1007) ∧ w'.cell? ⟨a2, 2, none⟩ = some (.int .i64 t1008) ∧ w'.cell? ⟨a2, 3, none⟩ = some (.int .i64 t1009) ∧ w'.cell? ⟨a2, 4, none⟩ = some (.int .i64 t1010) ∧ w'.cell? ⟨a2, 5, none⟩ = some (.int .i64 t1011) ∧ w'.cell? ⟨a2, 6, none⟩ = some (.int .i64 t1012) ∧ w'.cell? ⟨a2, 7, none⟩ = some (.slice ad t1013.length ac)) (ds := []) #[false, false, false, false, false, false, false, false, false, false, false] (by kernel_rfl) rfl rfl ⟨(blk_cell a1.out 0).trans rfl, (blk_cell a1.out 1).trans rfl, (blk_cell a1.out 2).trans rfl, (blk_cell a1.out 3).trans rfl, (blk_cell a1.out 4).trans rfl, (blk_cell a1.out 5).trans rfl, (blk_cell a1.out 6).trans rfl, (blk_cell a1.out 7).trans rfl⟩ (fun hHeld => ?_); refine with_tabW laws_FnPackets.tab5 laws_FnPackets.bits5 (fun HT_ HW_ => ?_)
    generalize w17.drew = w18 at ae ai a1 HB hHeld ⊢
    refine pure_ (i := 0) (N := some 16) (v := ?_) (a' := ?_) #[true, false, false, false, false, false, false, false, false, false, false] rfl rfl (any_of HT_.out (by kernel_rfl)) (fun _ _ _ h => h) (Or.inl ⟨by rfl, ?_⟩) ?_ ?_
    rotate_left
    ·intro w'
     go_simp
     with_reducible rfl
    rotate_left
    ·simp only [Act.put, lA_, lZ_, lS_, i64_w, i32_w]
     rfl
    refine take_ (i := 1) (N := some 17) (v := ?_) (a' := ?_) #[true, true, false, false, false, false, false, false, false, false, false] rfl rfl (take_ofW HT_.out HW_.out (by kernel_rfl)) (fun _ _ _ h => h) (Or.inl ⟨by rfl, ?_⟩) hHeld ?_ ?_
    rotate_left
    ·rintro w' ⟨s0, s1, s2, s3, s4, s5, s6, s7⟩
     go_simp
     with_reducible rfl
    rotate_left
    ·simp only [Act.put, lA_, lZ_, lS_, i64_w, i32_w]
     rfl
    refine pure_ (i := 2) (N := some 18) (v := ?_) (a' := ?_) #[true, true, true, false, false, false, false, false, false, false, false] rfl rfl (any_of HT_.out (by kernel_rfl)) (fun _ _ _ h => h) (Or.inl ⟨by rfl, ?_⟩) ?_ ?_
    rotate_left
    ·intro w'
     go_simp
     with_reducible rfl
    rotate_left
    ·simp only [Act.put, lA_, lZ_, lS_, i64_w, i32_w]
     rfl
    refine pure_ (i := 3) (N := some 19) (v := ?_) (a' := ?_) #[true, true, true, true, false, false, false, false, false, false, false] rfl rfl (any_of HT_.out (by kernel_rfl)) (fun _ _ _ h => h) (Or.inl ⟨by rfl, ?_⟩) ?_ ?_
    rotate_left
    ·intro w'
     go_simp
     with_reducible rfl
    rotate_left
    ·simp only [Act.put, lA_, lZ_, lS_, i64_w, i32_w]
     rfl
    refine pure_ (i := 4) (N := some 20) (v := ?_) (a' := ?_) #[true, true, true, true, true, false, false, false, false, false, false] rfl rfl (any_of HT_.out (by kernel_rfl)) (fun _ _ _ h => h) (Or.inl ⟨by rfl, ?_⟩) ?_ ?_
    rotate_left
    ·intro w'
     go_simp
     with_reducible rfl
    rotate_left
    ·simp only [Act.put, lA_, lZ_, lS_, i64_w, i32_w]
     rfl
    refine pure_ (i := 7) (N := some 23) (v := ?_) (a' := ?_) #[true, true, true, true, true, false, false, true, false, false, false] rfl rfl (any_of HT_.out (by kernel_rfl)) (fun _ _ _ h => h) (Or.inl ⟨by rfl, ?_⟩) ?_ ?_
    rotate_left
    ·intro w'
     go_simp
     with_reducible rfl
    rotate_left
    ·simp only [Act.put, lA_, lZ_, lS_, i64_w, i32_w]
     rfl
    refine take_ (i := 8) (N := some 24) (v := ?_) (a' := ?_) #[true, true, true, true, true, false, false, true, true, false, false] rfl rfl (take_ofW HT_.out HW_.out (by kernel_rfl)) (fun _ _ _ h => h) (Or.inl ⟨by rfl, ?_⟩) hHeld ?_ ?_
    rotate_left
    ·rintro w' ⟨s0, s1, s2, s3, s4, s5, s6, s7⟩
     go_simp
     with_reducible rfl
    rotate_left
    ·simp only [Act.put, lA_, lZ_, lS_, i64_w, i32_w]
     rfl
    refine one_ (i := 5) (N := some 21) #[true, true, true, true, true, true, false, true, true, false, false] rfl rfl (one_of HT_.out (by kernel_rfl)) (by decide) (fun K hK => ?_)
    refine goes_ Try.func15 (by kernel_rfl) rfl #[.slice bt t1003.length bu] (by rfl) rfl rfl (by (try simp only [List.map_toArray, List.map_cons, List.map_nil]); first | done | rfl | (simp only [List.length_drop, List.length_take]; rfl)) ?_
    with_reducible refine (spec_ParsePacket.calls k _ _ t1003 t1017 t1018 t1019 t1020 t1021 t1022 t1023 t1024 _ ?side1 ?side2 d2.out).mono ?_
    (case side1 => repeat (first | exact (Kd.R_reads' ae.out).2.2 | (with_reducible refine Kd.C_alloc ?_ _) | (with_reducible refine Kd.C_drewN ?_ _) | (with_reducible refine Kd.C_drew ?_)))
    (case side2 => exact (Kd.R_reads' ae.out).2.1)
    rintro e w19 ⟨v1025, rfl, ho0, hb⟩
    refine ⟨_, rfl, ?_⟩
    have n0_ := Aside0.mk (Kd.R_elder' (by (with_reducible repeat first | apply rA_ | apply rN_ | apply rD_); exact ae.out) (Kd.R_base ho0) hb)
    have n1_ := Aside0.mk (Kd.R_elder' (by (with_reducible repeat first | apply rA_ | apply rN_ | apply rD_); exact ai.out) (Kd.R_base ho0) hb)
    have n2_ := Aside0.mk (Kd.R_lower (Kd.R_new' (Kd.R_new' ho0 (Kd.R_lt (by (with_reducible repeat first | apply rA_ | apply rN_ | apply rD_); exact ae.out))) (Kd.R_lt (by (with_reducible repeat first | apply rA_ | apply rN_ | apply rD_); exact ai.out))) (below_size (by repeat (first | (with_reducible first | exact HB.out | apply lA1_ | apply lN_ | apply lD_ | refine lS1_ ?_ ag.out) | exact HB.out))))
    have n3_ := Aside0.mk (bB_ (g := a2) (o := .cells #[.int .i64 t1006, .int .i64 t1007, .int .i64 t1008, .int .i64 t1009, .int .i64 t1010, .int .i64 t1011, .int .i64 t1012, .slice ad t1013.length ac] 36 (0, 0)) (by (with_reducible repeat first | apply bN_ | apply bD_ | apply bA_); exact a1.out) hb)
    have n4_ := Aside0.mk (lP_ (by repeat (first | (with_reducible first | exact HB.out | apply lA1_ | apply lN_ | apply lD_ | refine lS1_ ?_ ag.out) | exact HB.out)) hb)
    clear ae
    clear ai
    clear a1
    clear HB
    have ae := n0_
    have ai := n1_
    have d3 := n2_
    have a1 := n3_
    have HB := n4_
    clear n0_ n1_ n2_ n3_ n4_
    (try clear hb)
    (try clear hb2)
    (try clear hk)
    (try clear hi)
    (try clear ho0)
    refine hK.out _ _ ⟨(blk_cell a1.out 0).trans rfl, (blk_cell a1.out 1).trans rfl, (blk_cell a1.out 2).trans rfl, (blk_cell a1.out 3).trans rfl, (blk_cell a1.out 4).trans rfl, (blk_cell a1.out 5).trans rfl, (blk_cell a1.out 6).trans rfl, (blk_cell a1.out 7).trans rfl⟩ (fun hHeld => ?_)
    clear hK K
    refine norm_ (a' := ?_) ?_ ?_
    rotate_left
    ·show Act.put _ (some 21) _ = _
     simp only [Act.put, lA_, lZ_, lS_, i64_w, i32_w]
     rfl
    refine pure_ (i := 6) (N := some 22) (v := ?_) (a' := ?_) #[true, true, true, true, true, true, true, true, true, false, false] rfl rfl (any_of HT_.out (by kernel_rfl)) (fun _ _ _ h => h) (Or.inl ⟨by rfl, ?_⟩) ?_ ?_
    rotate_left
    ·intro w'
     go_simp
     first | with_reducible rfl | (apply Eq.trans; apply rfield_ (ty := 2) 0 Try.underlying36 Try.underlying2; exact rfl; exact rfl; exact rfl; with_reducible rfl)
    rotate_left
    ·simp only [Act.put, lA_, lZ_, lS_, i64_w, i32_w]
     rfl
    refine pure_ (i := 9) (N := some 25) (v := ?_) (a' := ?_) #[true, true, true, true, true, true, true, true, true, true, false] rfl rfl (any_of HT_.out (by kernel_rfl)) (fun _ _ _ h => h) (Or.inl ⟨by rfl, ?_⟩) ?_ ?_
    rotate_left
    ·intro w'
     go_simp
     with_reducible rfl
    rotate_left
    ·simp only [Act.put, lA_, lZ_, lS_, i64_w, i32_w]
     rfl
    refine pure_ (i := 10) (N := some 26) (v := ?_) (a' := ?_) #[true, true, true, true, true, true, true, true, true, true, true] rfl rfl (any_of HT_.out (by kernel_rfl)) (fun _ _ _ h => h) (Or.inl ⟨by rfl, ?_⟩) ?_ ?_
    rotate_left
    ·intro w'
     go_simp
     with_reducible rfl
    rotate_left
    ·simp only [Act.put, lA_, lZ_, lS_, i64_w, i32_w]
     rfl
    refine done_ (done_of HT_.out (by kernel_rfl)) ?_
    try go_wp2
    go_meet
    case rel => exact ⟨_, ((t1017 != t1006)), (by first | rfl | (simp; done) | (simp [*]; done)), H', ⟨by first | omega | exact Nat.le_refl _⟩, ⟨by (with_reducible repeat first | apply rA_ | apply rN_ | apply rD_); exact Kd.R_mono ai.out (fun _ hk => trivial)⟩, ⟨by (with_reducible repeat first | apply bN_ | apply bD_ | apply bA_); exact a1.out⟩, ⟨by repeat (first | (with_reducible first | exact HB.out | apply lA1_ | apply lN_ | apply lD_ | refine lS1_ ?_ ag.out) | exact HB.out)⟩⟩
  case rest =>
   clear c9
   try clear c1
   try clear p2
   try clear c3
   try clear c7
   try clear c8
   try clear c13
   try clear c13b0
   try clear c13b1
   try clear c15
   try clear c17
   try clear hcz11_0
   try clear hcz11_1
   try clear hcz11_2
   try clear hcz11_3
   try clear hcz11_4
   try clear hcz11_5
   try clear hcz11_6
   try clear hcz11_7
   try clear hfz11_0
   try clear hfz11_1
   try clear hfz11_2
   try clear hfz11_3
   try clear hfz11_4
   try clear hfz11_5
   try clear hfz11_6
   try clear hfz11_7
   obtain ⟨kq, x26_5, rfl, HA, HJ5, a0, a1, HB⟩ := hcut
   cases kq with
   | zero => exact absurd HA.out (by simp [laws_FnPackets.j0])
   | succ kj5 =>
    have H := HA.out
    clear HA
    simp only [laws_FnPackets.j0] at H
    by_cases c20 : x26_5 = true
    ·subst c20
     rw [if_pos rfl] at H
     exact absurd (Option.some.inj H) (by decide)
    ·replace c20 := Bool.eq_false_iff.mpr c20
     subst c20
     rw [if_neg (show ¬ (false = true) by decide)] at H
     have c5 := Aside0.mk H
     clear H
     obtain ⟨_, _, _, _, _, _, _, _, _, _, _, _, _, _, _, _⟩ := bc8 a1.out
     go_upto_if 29 with (fail)
     go_cut [] (fun wc => ∃ (kq : Nat), Aside0 (laws_FnPackets.j1 kq l0 = some true) ∧ Aside0 (kq ≤ kj5) ∧ Aside0 (Kd.R (Kd.int .u8) 5 wc w.heap.size (fun _ => True) (.slice ad t1013.length ac) t1013) ∧ Aside0 (wc.heap[a2]? = some (.cells #[.int .i64 t1006, .int .i64 t1007, .int .i64 t1008, .int .i64 t1009, .int .i64 t1010, .int .i64 t1011, .int .i64 t1012, (.slice ad t1013.length ac)] 36 (0, 0))) ∧ Aside0 (Below w.heap.size w wc))
     case first =>
      have H := c5.out
      clear c5
      by_cases c23 : t1006 = 0
      ·rw [if_pos c23] at H
       have c23b0 : (t1006 == 0) = true := beq_iff_eq.mpr c23
       have c23b1 : (t1006 != 0) = false := bne_eq_false_iff_eq.mpr c23
       clear c23
       (first | rw [c23b0] | (simp only [i64_w, i32_w]; rw [c23b0]) | skip)
       replace H := Option.bind_eq_some_iff.mp H
       obtain ⟨⟨t1027, t1028⟩, cb, H⟩ := H
       try dsimp only at H
       have d4 := Aside0.mk cb
       clear cb
       replace H := Option.bind_eq_some_iff.mp H
       obtain ⟨⟨t1031, t1032, t1033, t1034, t1035, t1036, t1037, t1038⟩, cc, H⟩ := H
       try dsimp only at H
       have d5 := Aside0.mk cc
       clear cc
       replace H := Option.bind_eq_some_iff.mp H
       obtain ⟨t1042, cd, H⟩ := H
       try dsimp only at H
       have d6 := Aside0.mk cd
       clear cd
       by_cases c27 : t1042 = 0
       ·rw [if_pos c27] at H
        have c27b0 : (t1042 == 0) = true := beq_iff_eq.mpr c27
        have c27b1 : (t1042 != 0) = false := bne_eq_false_iff_eq.mpr c27
        clear c27
        by_cases c28 : t1031 = 0
        ·rw [if_pos c28] at H
         have c28b0 : (t1031 == 0) = true := beq_iff_eq.mpr c28
         have c28b1 : (t1031 != 0) = false := bne_eq_false_iff_eq.mpr c28
         clear c28
         replace H := Option.bind_eq_some_iff.mp H
         obtain ⟨t1043, ce, H⟩ := H
         try dsimp only at H
         have d7 := Aside0.mk ce
         clear ce
         by_cases c30 : t1043 = true
         ·subst c30
          rw [if_pos rfl] at H
          have H' := Aside0.mk H
          clear H
          obtain ⟨_, _, _, _, _, _, _, _, _, _, _, _, _, _, _, _⟩ := bc8 a1.out
          go_wp2_with (first | (refine upon_field_ (ty := 22) 1 Try.underlying29 Try.underlying22 rfl rfl rfl ?_) | (refine upon_field_ (ty := 2) 0 Try.underlying36 Try.underlying2 rfl rfl rfl ?_) | (refine upon_fieldA_ (ty := 34) 1 7 (ys := [_, _, _, _, _, _, _]) Try.underlying36 Try.underlying34 (show Try.prog.cellsOf 34 = 7 by kernel_rfl) rfl rfl ?_) | ((with_reducible refine gate_callee (f := 31) rfl ?_); refine goesA_ (some 32) rfl rfl Try.func31 (by kernel_rfl) rfl #[.agg #[.int .i64 t1007, .int .i64 t1008, .int .i64 t1009, .int .i64 t1010, .int .i64 t1011, .int .i64 t1012, .slice ad t1013.length ac]] rfl ?_; (with_reducible refine (impl_BuildPacket.calls kj5 t1007 t1008 t1009 t1010 t1011 t1012 _ _ t1013 t1027 t1028 _ ?side1 ?side2 d4.out).mono ?_); (case side1 => repeat (first | exact (Kd.R_reads' a0.out).2.2 | (with_reducible refine Kd.C_alloc ?_ _) | (with_reducible refine Kd.C_drewN ?_ _) | (with_reducible refine Kd.C_drew ?_))); (case side2 => exact (Kd.R_reads' a0.out).2.1); rintro e w32 ⟨v1029, rfl, ho0, hb⟩; refine ⟨_, rfl, ?_⟩; have n0_ := Aside0.mk (Kd.R_elder' a0.out (Kd.R_base ho0) hb); have n1_ := Aside0.mk (Kd.R_lower (Kd.R_new' ho0 (Kd.R_lt a0.out)) (below_size HB.out)); have n2_ := Aside0.mk (bB_ a1.out hb); have n3_ := Aside0.mk (lP_ HB.out hb); clear a0 a1 HB; have a0 := n0_; have al := n1_; have a1 := n2_; have HB := n3_; clear n0_ n1_ n2_ n3_; (try clear hb); (try clear hb2); (try clear hk); (try clear hi); (try clear ho0); obtain ⟨cf, cg, eo33⟩ := Kd.R_slice al.out; subst eo33) | ((with_reducible refine gate_callee (f := 17) rfl ?_); refine goesA_ (some 34) rfl rfl Try.func17 (by kernel_rfl) rfl #[.slice cf t1028.length cg] rfl ?_; (with_reducible refine (impl_ParsePacket.calls kj5 _ _ t1028 t1031 t1032 t1033 t1034 t1035 t1036 t1037 t1038 _ ?side1 ?side2 d5.out).mono ?_); (case side1 => repeat (first | exact (Kd.R_reads' al.out).2.2 | (with_reducible refine Kd.C_alloc ?_ _) | (with_reducible refine Kd.C_drewN ?_ _) | (with_reducible refine Kd.C_drew ?_))); (case side2 => exact (Kd.R_reads' al.out).2.1); rintro e w34 ⟨v1039, rfl, ho0, hb⟩; refine ⟨_, rfl, ?_⟩; have n0_ := Aside0.mk (Kd.R_elder' a0.out (Kd.R_base ho0) hb); have n1_ := Aside0.mk (Kd.R_elder' al.out (Kd.R_base ho0) hb); have n2_ := Aside0.mk (Kd.R_lower (Kd.R_new' (Kd.R_new' ho0 (Kd.R_lt a0.out)) (Kd.R_lt al.out)) (below_size HB.out)); have n3_ := Aside0.mk (bB_ a1.out hb); have n4_ := Aside0.mk (lP_ HB.out hb); clear a0 al a1 HB; have a0 := n0_; have al := n1_; have ar := n2_; have a1 := n3_; have HB := n4_; clear n0_ n1_ n2_ n3_ n4_; (try clear hb); (try clear hb2); (try clear hk); (try clear hi); (try clear ho0)) | ((with_reducible refine gate_dst (N := 5) rfl ?_); (try (refine gate_guard (by rfl) ?_; dsimp only)); refine box_event ?hg (N := 5) ?hd (cs := zs7) (t := 36) ?hr ?_; (case hd => rfl); (case hg => rfl); (case hr => first | (go_simp; done) | (go_simp; rfl)); intro b5 hg w35 hbox hb; have n0_ := Aside0.mk (Kd.R_below a0.out hb); have n1_ := Aside0.mk (Kd.R_below al.out hb); have n2_ := Aside0.mk (Kd.R_below ar.out hb); have n3_ := Aside0.mk (bB_ a1.out hb); have n4_ := Aside0.mk (lP_ HB.out hb); have n5_ := Aside0.mk (hbox); have n7_ := Aside0.mk ((by rw [hg]; exact (below_size HB.out) : w.heap.size ≤ b5)); have n8_ := Aside0.mk ((by rw [hg]; exact Nat.ne_of_lt (blk_lt a1.out) : a2 ≠ b5)); have n9_ := Aside0.mk n8_.out.symm; clear a0 al ar a1 HB; have a0 := n0_; have al := n1_; have ar := n2_; have a1 := n3_; have HB := n4_; have au := n5_; have bx := n7_; have bd := n8_; have bl := n9_; clear n0_ n1_ n2_ n3_ n4_ n5_ n7_ n8_ n9_ hb hbox hg; have di := bl.out; have dj := bd.out; obtain ⟨_, _, _, _, _, _, _, _, _, _, _, _, _, _, _, _⟩ := bc8 au.out; obtain ⟨ch, ci, eo38⟩ := Kd.R_slice ar.out; subst eo38; obtain ⟨_, _, _, _, _, _, _, _, _, _, _, _, _, _, _, _⟩ := bc8 a1.out) | ((with_reducible refine gate_callee (f := 32) rfl ?_); refine goesA_ (some 37) rfl rfl Try.func32 (by kernel_rfl) rfl #[.agg #[.int .i64 t1007, .int .i64 t1008, .int .i64 t1009, .int .i64 t1010, .int .i64 t1011, .int .i64 t1012, .slice ad t1013.length ac]] rfl ?_; (with_reducible refine (impl_PacketFault.calls kj5 t1007 t1008 t1009 t1010 t1011 t1012 _ _ t1013 t1042 _ ?side1 ?side2 d6.out).mono ?_); (case side1 => refine (Kd.R_reads' (e := 5) (base := w.heap.size) (ok := fun k_ => ((True ∧ some k_ ≠ (.slice cf t1028.length cg : Value).ownBlock) ∧ some k_ ≠ (.slice ch t1038.length ci : Value).ownBlock)) (n := t1013.length) (c := ac) ?_).2.2; exact (Kd.R_mono (rfar8 (g := b5) (Kd.R_types a0.out au.out (by decide)) (fun _ hk => hk.2)) (fun _ h_ => h_.1))); (case side2 => exact (Kd.R_reads' a0.out).2.1); rintro e w40 ⟨rfl, hb⟩; refine ⟨_, rfl, ?_⟩; have n0_ := Aside0.mk (Kd.R_below (Kd.R_mono (rfar8 (g := b5) (Kd.R_types a0.out au.out (by decide)) (fun _ hk => hk.2)) (fun _ h_ => h_.1)) hb); have n1_ := Aside0.mk (Kd.R_below (Kd.R_mono (rfar8 (g := b5) (Kd.R_types al.out au.out (by decide)) (fun _ hk => hk.2)) (fun _ h_ => h_.1)) hb); have n2_ := Aside0.mk (Kd.R_below (Kd.R_mono (rfar8 (g := b5) (Kd.R_types ar.out au.out (by decide)) (fun _ hk => hk.2)) (fun _ h_ => h_.1)) hb); have n3_ := Aside0.mk (bB_ (g := a2) (o := .cells #[.int .i64 t1006, .int .i64 t1007, .int .i64 t1008, .int .i64 t1009, .int .i64 t1010, .int .i64 t1011, .int .i64 t1012, .slice ad t1013.length ac] 36 (0, 0)) (by (iterate 8 (refine bF_ ?_ bd.out _)); exact a1.out) hb); have n4_ := Aside0.mk (bB_ (g := b5) (o := .cells #[.int .i64 t1031, .int .i64 t1032, .int .i64 t1033, .int .i64 t1034, .int .i64 t1035, .int .i64 t1036, .int .i64 t1037, .slice ch t1038.length ci] 36 (0, 0)) (by apply fill8; exact au.out) hb); have n5_ := Aside0.mk (lP_ (by repeat (first | (with_reducible first | exact HB.out | refine lS1_ ?_ ag.out | refine lS1_ ?_ bx.out) | exact HB.out)) hb); clear a0 al ar a1 au HB; have a0 := n0_; have al := n1_; have ar := n2_; have a1 := n3_; have au := n4_; have HB := n5_; clear n0_ n1_ n2_ n3_ n4_ n5_; (try clear hb); (try clear hb2); (try clear hk); (try clear hi); obtain ⟨_, _, _, _, _, _, _, _, _, _, _, _, _, _, _, _⟩ := bc8 au.out; obtain ⟨_, _, _, _, _, _, _, _, _, _, _, _, _, _, _, _⟩ := bc8 a1.out) | (go_at_call 29; (with_reducible refine (impl_SamePacket.calls t1032 t1033 t1034 t1035 t1036 t1037 _ _ t1038 t1007 t1008 t1009 t1010 t1011 t1012 _ _ t1013 true _ ?side1 ?side2 ?side3 ?side4 d7.out).mono ?_); (case side1 => repeat (first | exact (Kd.R_reads' ar.out).2.2 | (with_reducible refine Kd.C_alloc ?_ _) | (with_reducible refine Kd.C_drewN ?_ _) | (with_reducible refine Kd.C_drew ?_))); (case side2 => exact (Kd.R_reads' ar.out).2.1); (case side3 => repeat (first | exact (Kd.R_reads' a0.out).2.2 | (with_reducible refine Kd.C_alloc ?_ _) | (with_reducible refine Kd.C_drewN ?_ _) | (with_reducible refine Kd.C_drew ?_))); (case side4 => exact (Kd.R_reads' a0.out).2.1); rintro e w43 ⟨rfl, hb⟩; have n0_ := Aside0.mk (Kd.R_below a0.out hb); have n1_ := Aside0.mk (Kd.R_below al.out hb); have n2_ := Aside0.mk (Kd.R_below ar.out hb); have n3_ := Aside0.mk (bB_ a1.out hb); have n4_ := Aside0.mk (bB_ au.out hb); have n5_ := Aside0.mk (lP_ HB.out hb); clear a0 al ar a1 au HB; have a0 := n0_; have al := n1_; have ar := n2_; have a1 := n3_; have au := n4_; have HB := n5_; clear n0_ n1_ n2_ n3_ n4_ n5_; (try clear hb); (try clear hb2); (try clear hk); (try clear hi)))
          go_meet
          case rel => exact ⟨_, H', ⟨by have := HJ5.out; first | omega | exact Nat.le_refl _⟩, ⟨by (with_reducible repeat first | apply rA_ | apply rN_ | apply rD_); exact Kd.R_mono a0.out (fun _ hk => trivial)⟩, ⟨by (with_reducible repeat first | apply bN_ | apply bD_ | apply bA_); exact a1.out⟩, ⟨by repeat (first | (with_reducible first | exact HB.out | apply lA1_ | apply lN_ | apply lD_ | refine lS1_ ?_ ag.out | refine lS1_ ?_ bx.out) | exact HB.out)⟩⟩
         ·replace c30 := Bool.eq_false_iff.mpr c30
          subst c30
          rw [if_neg (show ¬ (false = true) by decide)] at H
          exact absurd (Option.some.inj H) (by decide)
        ·rw [if_neg c28] at H
         have c28b0 : (t1031 == 0) = false := beq_eq_false_iff_ne.mpr c28
         have c28b1 : (t1031 != 0) = true := bne_iff_ne.mpr c28
         exact absurd (Option.some.inj H) (by decide)
       ·rw [if_neg c27] at H
        have c27b0 : (t1042 == 0) = false := beq_eq_false_iff_ne.mpr c27
        have c27b1 : (t1042 != 0) = true := bne_iff_ne.mpr c27
        exact absurd (Option.some.inj H) (by decide)
      ·rw [if_neg c23] at H
       have c23b0 : (t1006 == 0) = false := beq_eq_false_iff_ne.mpr c23
       have c23b1 : (t1006 != 0) = true := bne_iff_ne.mpr c23
       (first | rw [c23b0] | (simp only [i64_w, i32_w]; rw [c23b0]) | skip)
       have H' := Aside0.mk H
       clear H
       go_wp2
       go_meet
       case rel => exact ⟨_, H', ⟨by have := HJ5.out; first | omega | exact Nat.le_refl _⟩, ⟨by (with_reducible repeat first | apply rA_ | apply rN_ | apply rD_); exact a0.out⟩, ⟨by (with_reducible repeat first | apply bN_ | apply bD_ | apply bA_); exact a1.out⟩, ⟨by repeat (first | (with_reducible first | exact HB.out | apply lA1_ | apply lN_ | apply lD_ | refine lS1_ ?_ ag.out) | exact HB.out)⟩⟩
     case rest =>
      clear c5
      try clear c1
      try clear c2
      try clear p2
      try clear c3
      try clear c7
      try clear c8
      try clear c13
      try clear c13b0
      try clear c13b1
      try clear c15
      try clear c17
      try clear c20
      try clear c23
      try clear c23b0
      try clear c23b1
      try clear c27
      try clear c27b0
      try clear c27b1
      try clear c28
      try clear c28b0
      try clear c28b1
      try clear c30
      try clear c31
      try clear c32
      try clear c36
      try clear hcz11_0
      try clear hcz11_1
      try clear hcz11_2
      try clear hcz11_3
      try clear hcz11_4
      try clear hcz11_5
      try clear hcz11_6
      try clear hcz11_7
      try clear hcz22_0
      try clear hcz22_1
      try clear hcz22_2
      try clear hcz22_3
      try clear hcz22_4
      try clear hcz22_5
      try clear hcz22_6
      try clear hcz22_7
      try clear hcz31_0
      try clear hcz31_1
      try clear hcz31_2
      try clear hcz31_3
      try clear hcz31_4
      try clear hcz31_5
      try clear hcz31_6
      try clear hcz31_7
      try clear hcz37_0
      try clear hcz37_1
      try clear hcz37_2
      try clear hcz37_3
      try clear hcz37_4
      try clear hcz37_5
      try clear hcz37_6
      try clear hcz37_7
      try clear hcz39_0
      try clear hcz39_1
      try clear hcz39_2
      try clear hcz39_3
      try clear hcz39_4
      try clear hcz39_5
      try clear hcz39_6
      try clear hcz39_7
      try clear hcz41_0
      try clear hcz41_1
      try clear hcz41_2
      try clear hcz41_3
      try clear hcz41_4
      try clear hcz41_5
      try clear hcz41_6
      try clear hcz41_7
      try clear hcz42_0
      try clear hcz42_1
      try clear hcz42_2
      try clear hcz42_3
      try clear hcz42_4
      try clear hcz42_5
      try clear hcz42_6
      try clear hcz42_7
      try clear hfz11_0
      try clear hfz11_1
      try clear hfz11_2
      try clear hfz11_3
      try clear hfz11_4
      try clear hfz11_5
      try clear hfz11_6
      try clear hfz11_7
      try clear hfz22_0
      try clear hfz22_1
      try clear hfz22_2
      try clear hfz22_3
      try clear hfz22_4
      try clear hfz22_5
      try clear hfz22_6
      try clear hfz22_7
      try clear hfz31_0
      try clear hfz31_1
      try clear hfz31_2
      try clear hfz31_3
      try clear hfz31_4
      try clear hfz31_5
      try clear hfz31_6
      try clear hfz31_7
      try clear hfz37_0
      try clear hfz37_1
      try clear hfz37_2
      try clear hfz37_3
      try clear hfz37_4
      try clear hfz37_5
      try clear hfz37_6
      try clear hfz37_7
      try clear hfz39_0
      try clear hfz39_1
      try clear hfz39_2
      try clear hfz39_3
      try clear hfz39_4
      try clear hfz39_5
      try clear hfz39_6
      try clear hfz39_7
      try clear hfz41_0
      try clear hfz41_1
      try clear hfz41_2
      try clear hfz41_3
      try clear hfz41_4
      try clear hfz41_5
      try clear hfz41_6
      try clear hfz41_7
      try clear hfz42_0
      try clear hfz42_1
      try clear hfz42_2
      try clear hfz42_3
      try clear hfz42_4
      try clear hfz42_5
      try clear hfz42_6
      try clear hfz42_7
      try clear p2
      obtain ⟨kq, HA, HJ20, a0, a1, HB⟩ := hcut
      cases kq with
      | zero => exact absurd HA.out (by simp [laws_FnPackets.j1])
      | succ kj20 =>
       have H := HA.out
       clear HA
       simp only [laws_FnPackets.j1] at H
       replace H := Option.bind_eq_some_iff.mp H
       obtain ⟨⟨t1044, t1045, t1046, t1047, t1048, t1049, t1050⟩, cj, H⟩ := H
       try dsimp only at H
       have cx := Aside0.mk cj
       clear cj
       replace H := Option.bind_eq_some_iff.mp H
       obtain ⟨⟨t1054, t1055⟩, ck, H⟩ := H
       try dsimp only at H
       have cy := Aside0.mk ck
       clear ck
       by_cases c46 : t1054 = 0
       ·rw [if_pos c46] at H
        have c46b0 : (t1054 == 0) = true := beq_iff_eq.mpr c46
        have c46b1 : (t1054 != 0) = false := bne_eq_false_iff_eq.mpr c46
        clear c46
        replace H := Option.bind_eq_some_iff.mp H
        obtain ⟨⟨t1060, t1061, t1062, t1063, t1064, t1065, t1066, t1067⟩, cl, H⟩ := H
        try dsimp only at H
        have d8 := Aside0.mk cl
        clear cl
        replace H := Option.bind_eq_some_iff.mp H
        obtain ⟨⟨t1071, t1072, t1073, t1074, t1075, t1076, t1077, t1078⟩, cm, H⟩ := H
        try dsimp only at H
        have d9 := Aside0.mk cm
        clear cm
        by_cases c49 : t1060 = 0
        ·rw [if_pos c49] at H
         have c49b0 : (t1060 == 0) = true := beq_iff_eq.mpr c49
         have c49b1 : (t1060 != 0) = false := bne_eq_false_iff_eq.mpr c49
         clear c49
         replace H := Option.bind_eq_some_iff.mp H
         obtain ⟨t1082, cn, H⟩ := H
         try dsimp only at H
         have c6 := Aside0.mk cn
         clear cn
         by_cases c51 : t1082 = true
         ·subst c51
          rw [if_pos rfl] at H
          by_cases c52 : t1071 = 0
          ·rw [if_pos c52] at H
           have c52b0 : (t1071 == 0) = true := beq_iff_eq.mpr c52
           have c52b1 : (t1071 != 0) = false := bne_eq_false_iff_eq.mpr c52
           clear c52
           replace H := Option.bind_eq_some_iff.mp H
           obtain ⟨⟨t1083, t1084, t1085, t1086, t1087, t1088, t1089, t1090⟩, co, H⟩ := H
           try dsimp only at H
           have da := Aside0.mk co
           clear co
           replace H := Option.bind_eq_some_iff.mp H
           obtain ⟨t1093, cp, H⟩ := H
           try dsimp only at H
           have db := Aside0.mk cp
           clear cp
           by_cases c55 : t1093 = true
           ·subst c55
            rw [if_pos rfl] at H
            by_cases c56 : (t1055.length : Int) ≥ 20
            ·rw [if_pos c56] at H
             have c56b0 : decide (20 ≤ (t1055.length : Int)) = true := decide_eq_true c56
             have c56b1 : decide (20 ≤ t1055.length) = true := decide_eq_true (by omega)
             clear c56
             by_cases c57 : 20 ≤ (t1055.length : Int)
             ·rw [if_pos c57] at H
              have c57b0 := eq_true c57
              have c57b1 : decide (20 ≤ (t1055.length : Int)) = true := decide_eq_true c57
              clear c57
              obtain ⟨y1094, hy1094⟩ : ∃ y_ : List Int, y_ = (t1055.take 20) := ⟨_, rfl⟩
              replace H : ((impl_CheckWords.f kj20 y1094).bind fun t1098 => (some t1098)) = some true := by first | (rw [hy1094]; with_reducible exact H) | (have H2_ := (Option.bind_some _ _).symm.trans H; rw [hy1094]; with_reducible exact H2_) | (have H2_ := (Option.bind_some _ _).symm.trans H; with_reducible exact H2_) | with_reducible exact H | (rw [hy1094]; exact H) | exact H
              have bz := Aside0.mk hy1094
              clear hy1094
              replace H := Option.bind_eq_some_iff.mp H
              obtain ⟨t1098, cq, H⟩ := H
              try dsimp only at H
              have dc := Aside0.mk cq
              clear cq
              have hr_ := Aside0.mk (Option.some.inj H)
              clear H
              try go_wp2_with (first | (refine upon_field_ (ty := 22) 1 Try.underlying29 Try.underlying22 rfl rfl rfl ?_) | (refine upon_field_ (ty := 2) 0 Try.underlying36 Try.underlying2 rfl rfl rfl ?_) | (refine upon_fieldA_ (ty := 34) 1 7 (ys := [_, _, _, _, _, _, _]) Try.underlying36 Try.underlying34 (show Try.prog.cellsOf 34 = 7 by kernel_rfl) rfl rfl ?_) | ((with_reducible refine gate_callee (f := 33) rfl ?_); refine goesA_ (some 53) rfl rfl Try.func33 (by kernel_rfl) rfl #[.slice A0 l0.length c0] rfl ?_; (with_reducible refine (spec_DrawBuildPacket.calls kj20 _ _ l0 t1044 t1045 t1046 t1047 t1048 t1049 t1050 _ ?side1 ?side2 cx.out).mono ?_); (case side1 => repeat (first | exact (Kd.C_below bv.out HB.out) | (with_reducible refine Kd.C_alloc ?_ _) | (with_reducible refine Kd.C_drewN ?_ _) | (with_reducible refine Kd.C_drew ?_))); (case side2 => exact bw.out); rintro e w59 ⟨v1051, rfl, ho0, hb⟩; refine ⟨_, rfl, ?_⟩; have n0_ := Aside0.mk (Kd.R_elder' a0.out (Kd.R_base ho0) hb); have n1_ := Aside0.mk (Kd.R_lower (Kd.R_new' ho0 (Kd.R_lt a0.out)) (below_size HB.out)); have n2_ := Aside0.mk (bB_ a1.out hb); have n3_ := Aside0.mk (lP_ HB.out hb); clear a0 a1 HB; have a0 := n0_; have a5 := n1_; have a1 := n2_; have HB := n3_; clear n0_ n1_ n2_ n3_; (try clear hb); (try clear hb2); (try clear hk); (try clear hi); (try clear ho0)) | ((with_reducible refine gate_dst (N := 6) rfl ?_); (try (refine gate_guard (by rfl) ?_; dsimp only)); refine box_event ?hg (N := 6) ?hd (cs := zs6) (t := 34) ?hr ?_; (case hd => rfl); (case hg => rfl); (case hr => first | (go_simp; done) | (go_simp; rfl)); intro ab hg w60 hbox hb; have n0_ := Aside0.mk (Kd.R_below a0.out hb); have n1_ := Aside0.mk (Kd.R_below a5.out hb); have n2_ := Aside0.mk (bB_ a1.out hb); have n3_ := Aside0.mk (lP_ HB.out hb); have n4_ := Aside0.mk (hbox); have n6_ := Aside0.mk ((by rw [hg]; exact (below_size HB.out) : w.heap.size ≤ ab)); have n7_ := Aside0.mk ((by rw [hg]; exact Nat.ne_of_lt (blk_lt a1.out) : a2 ≠ ab)); have n8_ := Aside0.mk n7_.out.symm; clear a0 a5 a1 HB; have a0 := n0_; have a5 := n1_; have a1 := n2_; have HB := n3_; have a4 := n4_; have ak := n6_; have az := n7_; have b6 := n8_; clear n0_ n1_ n2_ n3_ n4_ n6_ n7_ n8_ hb hbox hg; have dk := b6.out; have dl := az.out; obtain ⟨_, _, _, _, _, _, _, _, _, _, _, _, _, _⟩ := bc7 a4.out; obtain ⟨av, ap, eo63⟩ := Kd.R_slice a5.out; subst eo63) | ((with_reducible refine gate_callee (f := 31) rfl ?_); refine goesA_ (some 55) rfl rfl Try.func31 (by kernel_rfl) rfl #[.agg #[.int .i64 t1044, .int .i64 t1045, .int .i64 t1046, .int .i64 t1047, .int .i64 t1048, .int .i64 t1049, .slice av t1050.length ap]] rfl ?_; (with_reducible refine (impl_BuildPacket.calls kj20 t1044 t1045 t1046 t1047 t1048 t1049 _ _ t1050 t1054 t1055 _ ?side1 ?side2 cy.out).mono ?_); (case side1 => refine (Kd.R_reads' (e := 5) (base := w.heap.size) (ok := fun k_ => (True ∧ some k_ ≠ (.slice ad t1013.length ac : Value).ownBlock)) (n := t1050.length) (c := ap) ?_).2.2; exact (Kd.R_mono (rfar7 (g := ab) (Kd.R_types a5.out a4.out (by decide)) (fun _ hk => hk.2)) (fun _ h_ => h_.1))); (case side2 => exact (Kd.R_reads' a5.out).2.1); rintro e w64 ⟨v1056, rfl, ho0, hb⟩; refine ⟨_, rfl, ?_⟩; have n0_ := Aside0.mk (Kd.R_elder' (Kd.R_mono (rfar7 (g := ab) (Kd.R_types a0.out a4.out (by decide)) (fun _ hk => hk.2)) (fun _ h_ => h_.1)) (Kd.R_base ho0) hb); have n1_ := Aside0.mk (Kd.R_elder' (Kd.R_mono (rfar7 (g := ab) (Kd.R_types a5.out a4.out (by decide)) (fun _ hk => hk.2)) (fun _ h_ => h_.1)) (Kd.R_base ho0) hb); have n2_ := Aside0.mk (Kd.R_lower (Kd.R_new' (Kd.R_new' ho0 (Kd.R_lt (Kd.R_mono (rfar7 (g := ab) (Kd.R_types a0.out a4.out (by decide)) (fun _ hk => hk.2)) (fun _ h_ => h_.1)))) (Kd.R_lt (Kd.R_mono (rfar7 (g := ab) (Kd.R_types a5.out a4.out (by decide)) (fun _ hk => hk.2)) (fun _ h_ => h_.1)))) (below_size (by repeat (first | (with_reducible first | exact HB.out | refine lS1_ ?_ ag.out | refine lS1_ ?_ ak.out) | exact HB.out)))); have n3_ := Aside0.mk (bB_ (g := a2) (o := .cells #[.int .i64 t1006, .int .i64 t1007, .int .i64 t1008, .int .i64 t1009, .int .i64 t1010, .int .i64 t1011, .int .i64 t1012, .slice ad t1013.length ac] 36 (0, 0)) (by (iterate 7 (refine bF_ ?_ az.out _)); exact a1.out) hb); have n4_ := Aside0.mk (bB_ (g := ab) (o := .cells #[.int .i64 t1044, .int .i64 t1045, .int .i64 t1046, .int .i64 t1047, .int .i64 t1048, .int .i64 t1049, .slice av t1050.length ap] 34 (0, 0)) (by apply fill7; exact a4.out) hb); have n5_ := Aside0.mk (lP_ (by repeat (first | (with_reducible first | exact HB.out | refine lS1_ ?_ ag.out | refine lS1_ ?_ ak.out) | exact HB.out)) hb); clear a0 a5 a1 a4 HB; have a0 := n0_; have a5 := n1_; have a9 := n2_; have a1 := n3_; have a4 := n4_; have HB := n5_; clear n0_ n1_ n2_ n3_ n4_ n5_; (try clear hb); (try clear hb2); (try clear hk); (try clear hi); (try clear ho0)) | ((with_reducible refine gate_dst (N := 7) rfl ?_); (try (refine gate_guard (by rfl) ?_; dsimp only)); refine box_event ?hg (N := 7) ?hd (cs := #[.int .i64 0, .slice none 0 0]) (t := 29) ?hr ?_; (case hd => rfl); (case hg => rfl); (case hr => first | (go_simp; done) | (go_simp; rfl)); intro aa hg w65 hbox hb; have n0_ := Aside0.mk (Kd.R_below a0.out hb); have n1_ := Aside0.mk (Kd.R_below a5.out hb); have n2_ := Aside0.mk (Kd.R_below a9.out hb); have n3_ := Aside0.mk (bB_ a1.out hb); have n4_ := Aside0.mk (bB_ a4.out hb); have n5_ := Aside0.mk (lP_ HB.out hb); have n6_ := Aside0.mk (hbox); have n8_ := Aside0.mk ((by rw [hg]; exact (below_size HB.out) : w.heap.size ≤ aa)); have n9_ := Aside0.mk ((by rw [hg]; exact Nat.ne_of_lt (blk_lt a1.out) : a2 ≠ aa)); have n10_ := Aside0.mk n9_.out.symm; have n11_ := Aside0.mk ((by rw [hg]; exact Nat.ne_of_lt (blk_lt a4.out) : ab ≠ aa)); have n12_ := Aside0.mk n11_.out.symm; clear a0 a5 a9 a1 a4 HB; have a0 := n0_; have a5 := n1_; have a9 := n2_; have a1 := n3_; have a4 := n4_; have HB := n5_; have a7 := n6_; have ao := n8_; have b0 := n9_; have b7 := n10_; have b1 := n11_; have b8 := n12_; clear n0_ n1_ n2_ n3_ n4_ n5_ n6_ n8_ n9_ n10_ n11_ n12_ hb hbox hg; have dm := b7.out; have dn := b0.out; have dp := b8.out; have dq := b1.out; obtain ⟨_, _, _, _⟩ := bc2 a7.out; obtain ⟨ay, aq, eo69⟩ := Kd.R_slice a9.out; subst eo69) | ((with_reducible refine gate_callee (f := 17) rfl ?_); refine goesA_ (some 66) rfl rfl Try.func17 (by kernel_rfl) rfl #[.slice ay t1055.length aq] rfl ?_; (with_reducible refine (impl_ParsePacket.calls kj20 _ _ t1055 t1060 t1061 t1062 t1063 t1064 t1065 t1066 t1067 _ ?side1 ?side2 d8.out).mono ?_); (case side1 => refine (Kd.R_reads' (e := 5) (base := w.heap.size) (ok := fun k_ => ((True ∧ some k_ ≠ (.slice ad t1013.length ac : Value).ownBlock) ∧ some k_ ≠ (.slice av t1050.length ap : Value).ownBlock)) (n := t1055.length) (c := aq) ?_).2.2; exact (Kd.R_mono (rfar2 (g := aa) (Kd.R_types a9.out a7.out (by decide)) (fun _ hk => hk.2)) (fun _ h_ => h_.1))); (case side2 => exact (Kd.R_reads' a9.out).2.1); rintro e w70 ⟨v1068, rfl, ho0, hb⟩; refine ⟨_, rfl, ?_⟩; have n0_ := Aside0.mk (Kd.R_elder' (Kd.R_mono (rfar2 (g := aa) (Kd.R_types a0.out a7.out (by decide)) (fun _ hk => hk.2)) (fun _ h_ => h_.1)) (Kd.R_base ho0) hb); have n1_ := Aside0.mk (Kd.R_elder' (Kd.R_mono (rfar2 (g := aa) (Kd.R_types a5.out a7.out (by decide)) (fun _ hk => hk.2)) (fun _ h_ => h_.1)) (Kd.R_base ho0) hb); have n2_ := Aside0.mk (Kd.R_elder' (Kd.R_mono (rfar2 (g := aa) (Kd.R_types a9.out a7.out (by decide)) (fun _ hk => hk.2)) (fun _ h_ => h_.1)) (Kd.R_base ho0) hb); have n3_ := Aside0.mk (Kd.R_lower (Kd.R_new' (Kd.R_new' (Kd.R_new' ho0 (Kd.R_lt (Kd.R_mono (rfar2 (g := aa) (Kd.R_types a0.out a7.out (by decide)) (fun _ hk => hk.2)) (fun _ h_ => h_.1)))) (Kd.R_lt (Kd.R_mono (rfar2 (g := aa) (Kd.R_types a5.out a7.out (by decide)) (fun _ hk => hk.2)) (fun _ h_ => h_.1)))) (Kd.R_lt (Kd.R_mono (rfar2 (g := aa) (Kd.R_types a9.out a7.out (by decide)) (fun _ hk => hk.2)) (fun _ h_ => h_.1)))) (below_size (by repeat (first | (with_reducible first | exact HB.out | refine lS1_ ?_ ag.out | refine lS1_ ?_ ak.out | refine lS1_ ?_ ao.out) | exact HB.out)))); have n4_ := Aside0.mk (bB_ (g := a2) (o := .cells #[.int .i64 t1006, .int .i64 t1007, .int .i64 t1008, .int .i64 t1009, .int .i64 t1010, .int .i64 t1011, .int .i64 t1012, .slice ad t1013.length ac] 36 (0, 0)) (by (iterate 2 (refine bF_ ?_ b0.out _)); exact a1.out) hb); have n5_ := Aside0.mk (bB_ (g := ab) (o := .cells #[.int .i64 t1044, .int .i64 t1045, .int .i64 t1046, .int .i64 t1047, .int .i64 t1048, .int .i64 t1049, .slice av t1050.length ap] 34 (0, 0)) (by (iterate 2 (refine bF_ ?_ b1.out _)); exact a4.out) hb); have n6_ := Aside0.mk (bB_ (g := aa) (o := .cells #[.int .i64 t1054, .slice ay t1055.length aq] 29 (0, 0)) (by apply fill2; exact a7.out) hb); have n7_ := Aside0.mk (lP_ (by repeat (first | (with_reducible first | exact HB.out | refine lS1_ ?_ ag.out | refine lS1_ ?_ ak.out | refine lS1_ ?_ ao.out) | exact HB.out)) hb); clear a0 a5 a9 a1 a4 a7 HB; have a0 := n0_; have a5 := n1_; have a9 := n2_; have af := n3_; have a1 := n4_; have a4 := n5_; have a7 := n6_; have HB := n7_; clear n0_ n1_ n2_ n3_ n4_ n5_ n6_ n7_; (try clear hb); (try clear hb2); (try clear hk); (try clear hi); (try clear ho0)) | ((with_reducible refine gate_dst (N := 8) rfl ?_); (try (refine gate_guard (by rfl) ?_; dsimp only)); refine box_event ?hg (N := 8) ?hd (cs := zs7) (t := 36) ?hr ?_; (case hd => rfl); (case hg => rfl); (case hr => first | (go_simp; done) | (go_simp; rfl)); intro ah hg w71 hbox hb; have n0_ := Aside0.mk (Kd.R_below a0.out hb); have n1_ := Aside0.mk (Kd.R_below a5.out hb); have n2_ := Aside0.mk (Kd.R_below a9.out hb); have n3_ := Aside0.mk (Kd.R_below af.out hb); have n4_ := Aside0.mk (bB_ a1.out hb); have n5_ := Aside0.mk (bB_ a4.out hb); have n6_ := Aside0.mk (bB_ a7.out hb); have n7_ := Aside0.mk (lP_ HB.out hb); have n8_ := Aside0.mk (hbox); have n10_ := Aside0.mk ((by rw [hg]; exact (below_size HB.out) : w.heap.size ≤ ah)); have n11_ := Aside0.mk ((by rw [hg]; exact Nat.ne_of_lt (blk_lt a1.out) : a2 ≠ ah)); have n12_ := Aside0.mk n11_.out.symm; have n13_ := Aside0.mk ((by rw [hg]; exact Nat.ne_of_lt (blk_lt a4.out) : ab ≠ ah)); have n14_ := Aside0.mk n13_.out.symm; have n15_ := Aside0.mk ((by rw [hg]; exact Nat.ne_of_lt (blk_lt a7.out) : aa ≠ ah)); have n16_ := Aside0.mk n15_.out.symm; clear a0 a5 a9 af a1 a4 a7 HB; have a0 := n0_; have a5 := n1_; have a9 := n2_; have af := n3_; have a1 := n4_; have a4 := n5_; have a7 := n6_; have HB := n7_; have a6 := n8_; have b4 := n10_; have be := n11_; have bm := n12_; have bf := n13_; have bn := n14_; have bg := n15_; have bo := n16_; clear n0_ n1_ n2_ n3_ n4_ n5_ n6_ n7_ n8_ n10_ n11_ n12_ n13_ n14_ n15_ n16_ hb hbox hg; have dr := bm.out; have dt := be.out; have du := bn.out; have dv := bf.out; have dw := bo.out; have dx := bg.out; obtain ⟨_, _, _, _, _, _, _, _, _, _, _, _, _, _, _, _⟩ := bc8 a6.out; obtain ⟨b2, b3, eo76⟩ := Kd.R_slice af.out; subst eo76; obtain ⟨_, _, _, _, _, _, _, _, _, _, _, _, _, _⟩ := bc7 a4.out) | ((with_reducible refine gate_callee (f := 35) rfl ?_); refine goesA_ (some 68) rfl rfl Try.func35 (by kernel_rfl) rfl #[.agg #[.int .i64 t1044, .int .i64 t1045, .int .i64 t1046, .int .i64 t1047, .int .i64 t1048, .int .i64 t1049, .slice av t1050.length ap]] rfl ?_; (with_reducible refine (impl_ReverseWay.calls kj20 t1044 t1045 t1046 t1047 t1048 t1049 _ _ t1050 t1071 t1072 t1073 t1074 t1075 t1076 t1077 t1078 _ ?side1 ?side2 d9.out).mono ?_); (case side1 => refine (Kd.R_reads' (e := 5) (base := w.heap.size) (ok := fun k_ => (((True ∧ some k_ ≠ (.slice ad t1013.length ac : Value).ownBlock) ∧ some k_ ≠ (.slice ay t1055.length aq : Value).ownBlock) ∧ some k_ ≠ (.slice b2 t1067.length b3 : Value).ownBlock)) (n := t1050.length) (c := ap) ?_).2.2; exact (Kd.R_mono (rfar8 (g := ah) (Kd.R_types a5.out a6.out (by decide)) (fun _ hk => hk.2)) (fun _ h_ => h_.1))); (case side2 => exact (Kd.R_reads' a5.out).2.1); rintro e w78 ⟨v1079, rfl, ho0, hb⟩; refine ⟨_, rfl, ?_⟩; have n0_ := Aside0.mk (Kd.R_elder' (Kd.R_mono (rfar8 (g := ah) (Kd.R_types a0.out a6.out (by decide)) (fun _ hk => hk.2)) (fun _ h_ => h_.1)) (Kd.R_base ho0) hb); have n1_ := Aside0.mk (Kd.R_elder' (Kd.R_mono (rfar8 (g := ah) (Kd.R_types a5.out a6.out (by decide)) (fun _ hk => hk.2)) (fun _ h_ => h_.1)) (Kd.R_base ho0) hb); have n2_ := Aside0.mk (Kd.R_elder' (Kd.R_mono (rfar8 (g := ah) (Kd.R_types a9.out a6.out (by decide)) (fun _ hk => hk.2)) (fun _ h_ => h_.1)) (Kd.R_base ho0) hb); have n3_ := Aside0.mk (Kd.R_elder' (Kd.R_mono (rfar8 (g := ah) (Kd.R_types af.out a6.out (by decide)) (fun _ hk => hk.2)) (fun _ h_ => h_.1)) (Kd.R_base ho0) hb); have n4_ := Aside0.mk (Kd.R_lower (Kd.R_new' (Kd.R_new' (Kd.R_new' (Kd.R_new' ho0 (Kd.R_lt (Kd.R_mono (rfar8 (g := ah) (Kd.R_types a0.out a6.out (by decide)) (fun _ hk => hk.2)) (fun _ h_ => h_.1)))) (Kd.R_lt (Kd.R_mono (rfar8 (g := ah) (Kd.R_types a5.out a6.out (by decide)) (fun _ hk => hk.2)) (fun _ h_ => h_.1)))) (Kd.R_lt (Kd.R_mono (rfar8 (g := ah) (Kd.R_types a9.out a6.out (by decide)) (fun _ hk => hk.2)) (fun _ h_ => h_.1)))) (Kd.R_lt (Kd.R_mono (rfar8 (g := ah) (Kd.R_types af.out a6.out (by decide)) (fun _ hk => hk.2)) (fun _ h_ => h_.1)))) (below_size (by repeat (first | (with_reducible first | exact HB.out | refine lS1_ ?_ ag.out | refine lS1_ ?_ ak.out | refine lS1_ ?_ ao.out | refine lS1_ ?_ b4.out) | exact HB.out)))); have n5_ := Aside0.mk (bB_ (g := a2) (o := .cells #[.int .i64 t1006, .int .i64 t1007, .int .i64 t1008, .int .i64 t1009, .int .i64 t1010, .int .i64 t1011, .int .i64 t1012, .slice ad t1013.length ac] 36 (0, 0)) (by (iterate 8 (refine bF_ ?_ be.out _)); exact a1.out) hb); have n6_ := Aside0.mk (bB_ (g := ab) (o := .cells #[.int .i64 t1044, .int .i64 t1045, .int .i64 t1046, .int .i64 t1047, .int .i64 t1048, .int .i64 t1049, .slice av t1050.length ap] 34 (0, 0)) (by (iterate 8 (refine bF_ ?_ bf.out _)); exact a4.out) hb); have n7_ := Aside0.mk (bB_ (g := aa) (o := .cells #[.int .i64 t1054, .slice ay t1055.length aq] 29 (0, 0)) (by (iterate 8 (refine bF_ ?_ bg.out _)); exact a7.out) hb); have n8_ := Aside0.mk (bB_ (g := ah) (o := .cells #[.int .i64 t1060, .int .i64 t1061, .int .i64 t1062, .int .i64 t1063, .int .i64 t1064, .int .i64 t1065, .int .i64 t1066, .slice b2 t1067.length b3] 36 (0, 0)) (by apply fill8; exact a6.out) hb); have n9_ := Aside0.mk (lP_ (by repeat (first | (with_reducible first | exact HB.out | refine lS1_ ?_ ag.out | refine lS1_ ?_ ak.out | refine lS1_ ?_ ao.out | refine lS1_ ?_ b4.out) | exact HB.out)) hb); clear a0 a5 a9 af a1 a4 a7 a6 HB; have a0 := n0_; have a5 := n1_; have a9 := n2_; have af := n3_; have aj := n4_; have a1 := n5_; have a4 := n6_; have a7 := n7_; have a6 := n8_; have HB := n9_; clear n0_ n1_ n2_ n3_ n4_ n5_ n6_ n7_ n8_ n9_; (try clear hb); (try clear hb2); (try clear hk); (try clear hi); (try clear ho0)) | ((with_reducible refine gate_dst (N := 9) rfl ?_); (try (refine gate_guard (by rfl) ?_; dsimp only)); refine box_event ?hg (N := 9) ?hd (cs := zs7) (t := 36) ?hr ?_; (case hd => rfl); (case hg => rfl); (case hr => first | (go_simp; done) | (go_simp; rfl)); intro a3 hg w79 hbox hb; have n0_ := Aside0.mk (Kd.R_below a0.out hb); have n1_ := Aside0.mk (Kd.R_below a5.out hb); have n2_ := Aside0.mk (Kd.R_below a9.out hb); have n3_ := Aside0.mk (Kd.R_below af.out hb); have n4_ := Aside0.mk (Kd.R_below aj.out hb); have n5_ := Aside0.mk (bB_ a1.out hb); have n6_ := Aside0.mk (bB_ a4.out hb); have n7_ := Aside0.mk (bB_ a7.out hb); have n8_ := Aside0.mk (bB_ a6.out hb); have n9_ := Aside0.mk (lP_ HB.out hb); have n10_ := Aside0.mk (hbox); have n12_ := Aside0.mk ((by rw [hg]; exact (below_size HB.out) : w.heap.size ≤ a3)); have n13_ := Aside0.mk ((by rw [hg]; exact Nat.ne_of_lt (blk_lt a1.out) : a2 ≠ a3)); have n14_ := Aside0.mk n13_.out.symm; have n15_ := Aside0.mk ((by rw [hg]; exact Nat.ne_of_lt (blk_lt a4.out) : ab ≠ a3)); have n16_ := Aside0.mk n15_.out.symm; have n17_ := Aside0.mk ((by rw [hg]; exact Nat.ne_of_lt (blk_lt a7.out) : aa ≠ a3)); have n18_ := Aside0.mk n17_.out.symm; have n19_ := Aside0.mk ((by rw [hg]; exact Nat.ne_of_lt (blk_lt a6.out) : ah ≠ a3)); have n20_ := Aside0.mk n19_.out.symm; clear a0 a5 a9 af aj a1 a4 a7 a6 HB; have a0 := n0_; have a5 := n1_; have a9 := n2_; have af := n3_; have aj := n4_; have a1 := n5_; have a4 := n6_; have a7 := n7_; have a6 := n8_; have HB := n9_; have a8 := n10_; have ba := n12_; have bh := n13_; have bp := n14_; have bi := n15_; have bq := n16_; have bj := n17_; have br := n18_; have bk := n19_; have bs := n20_; clear n0_ n1_ n2_ n3_ n4_ n5_ n6_ n7_ n8_ n9_ n10_ n12_ n13_ n14_ n15_ n16_ n17_ n18_ n19_ n20_ hb hbox hg; have dy := bp.out; have dz := bh.out; have f0 := bq.out; have f1 := bi.out; have f2 := br.out; have f3 := bj.out; have f4 := bs.out; have f5 := bk.out; obtain ⟨_, _, _, _, _, _, _, _, _, _, _, _, _, _, _, _⟩ := bc8 a8.out; obtain ⟨am, an, eo85⟩ := Kd.R_slice aj.out; subst eo85))
              have n0_ : Aside0 (Kd.R (Kd.int .u8) 5 ((((((((w79.setCell ⟨a3, 0, none⟩ (.int .i64 t1071)).setCell ⟨a3, 1, none⟩ (.int .i64 t1072)).setCell ⟨a3, 2, none⟩ (.int .i64 t1073)).setCell ⟨a3, 3, none⟩ (.int .i64 t1074)).setCell ⟨a3, 4, none⟩ (.int .i64 t1075)).setCell ⟨a3, 5, none⟩ (.int .i64 t1076)).setCell ⟨a3, 6, none⟩ (.int .i64 t1077)).setCell ⟨a3, 7, none⟩ (.slice am t1078.length an)) w.heap.size (fun k_ => some k_ ≠ (.slice av t1050.length ap : Value).ownBlock ∧ some k_ ≠ (.slice ay t1055.length aq : Value).ownBlock ∧ some k_ ≠ (.slice b2 t1067.length b3 : Value).ownBlock ∧ some k_ ≠ (.slice am t1078.length an : Value).ownBlock) (.slice ad t1013.length ac) t1013) := ⟨by (with_reducible repeat first | apply rA_ | apply rN_ | apply rD_); exact Kd.R_mono (rfar8 (g := a3) (Kd.R_types a0.out a8.out (by decide)) (fun _ hk => hk.2)) (fun _ hk => ⟨hk.1.1.1.1.2, ⟨hk.1.1.1.2, ⟨hk.1.1.2, hk.1.2⟩⟩⟩)⟩
              have n1_ : Aside0 (Kd.R (Kd.int .u8) 5 ((((((((w79.setCell ⟨a3, 0, none⟩ (.int .i64 t1071)).setCell ⟨a3, 1, none⟩ (.int .i64 t1072)).setCell ⟨a3, 2, none⟩ (.int .i64 t1073)).setCell ⟨a3, 3, none⟩ (.int .i64 t1074)).setCell ⟨a3, 4, none⟩ (.int .i64 t1075)).setCell ⟨a3, 5, none⟩ (.int .i64 t1076)).setCell ⟨a3, 6, none⟩ (.int .i64 t1077)).setCell ⟨a3, 7, none⟩ (.slice am t1078.length an)) w.heap.size (fun k_ => some k_ ≠ (.slice ad t1013.length ac : Value).ownBlock ∧ some k_ ≠ (.slice ay t1055.length aq : Value).ownBlock ∧ some k_ ≠ (.slice b2 t1067.length b3 : Value).ownBlock ∧ some k_ ≠ (.slice am t1078.length an : Value).ownBlock) (.slice av t1050.length ap) t1050) := ⟨by (with_reducible repeat first | apply rA_ | apply rN_ | apply rD_); exact Kd.R_mono (rfar8 (g := a3) (Kd.R_types a5.out a8.out (by decide)) (fun _ hk => hk.2)) (fun _ hk => ⟨hk.1.1.1.1.2, ⟨hk.1.1.1.2, ⟨hk.1.1.2, hk.1.2⟩⟩⟩)⟩
              have n2_ : Aside0 (Kd.R (Kd.int .u8) 5 ((((((((w79.setCell ⟨a3, 0, none⟩ (.int .i64 t1071)).setCell ⟨a3, 1, none⟩ (.int .i64 t1072)).setCell ⟨a3, 2, none⟩ (.int .i64 t1073)).setCell ⟨a3, 3, none⟩ (.int .i64 t1074)).setCell ⟨a3, 4, none⟩ (.int .i64 t1075)).setCell ⟨a3, 5, none⟩ (.int .i64 t1076)).setCell ⟨a3, 6, none⟩ (.int .i64 t1077)).setCell ⟨a3, 7, none⟩ (.slice am t1078.length an)) w.heap.size (fun k_ => some k_ ≠ (.slice ad t1013.length ac : Value).ownBlock ∧ some k_ ≠ (.slice av t1050.length ap : Value).ownBlock ∧ some k_ ≠ (.slice b2 t1067.length b3 : Value).ownBlock ∧ some k_ ≠ (.slice am t1078.length an : Value).ownBlock) (.slice ay t1055.length aq) t1055) := ⟨by (with_reducible repeat first | apply rA_ | apply rN_ | apply rD_); exact Kd.R_mono (rfar8 (g := a3) (Kd.R_types a9.out a8.out (by decide)) (fun _ hk => hk.2)) (fun _ hk => ⟨hk.1.1.1.1.2, ⟨hk.1.1.1.2, ⟨hk.1.1.2, hk.1.2⟩⟩⟩)⟩
              have n3_ : Aside0 (Kd.R (Kd.int .u8) 5 ((((((((w79.setCell ⟨a3, 0, none⟩ (.int .i64 t1071)).setCell ⟨a3, 1, none⟩ (.int .i64 t1072)).setCell ⟨a3, 2, none⟩ (.int .i64 t1073)).setCell ⟨a3, 3, none⟩ (.int .i64 t1074)).setCell ⟨a3, 4, none⟩ (.int .i64 t1075)).setCell ⟨a3, 5, none⟩ (.int .i64 t1076)).setCell ⟨a3, 6, none⟩ (.int .i64 t1077)).setCell ⟨a3, 7, none⟩ (.slice am t1078.length an)) w.heap.size (fun k_ => some k_ ≠ (.slice ad t1013.length ac : Value).ownBlock ∧ some k_ ≠ (.slice av t1050.length ap : Value).ownBlock ∧ some k_ ≠ (.slice ay t1055.length aq : Value).ownBlock ∧ some k_ ≠ (.slice am t1078.length an : Value).ownBlock) (.slice b2 t1067.length b3) t1067) := ⟨by (with_reducible repeat first | apply rA_ | apply rN_ | apply rD_); exact Kd.R_mono (rfar8 (g := a3) (Kd.R_types af.out a8.out (by decide)) (fun _ hk => hk.2)) (fun _ hk => ⟨hk.1.1.1.1.2, ⟨hk.1.1.1.2, ⟨hk.1.1.2, hk.1.2⟩⟩⟩)⟩
              have n4_ : Aside0 (Kd.R (Kd.int .u8) 5 ((((((((w79.setCell ⟨a3, 0, none⟩ (.int .i64 t1071)).setCell ⟨a3, 1, none⟩ (.int .i64 t1072)).setCell ⟨a3, 2, none⟩ (.int .i64 t1073)).setCell ⟨a3, 3, none⟩ (.int .i64 t1074)).setCell ⟨a3, 4, none⟩ (.int .i64 t1075)).setCell ⟨a3, 5, none⟩ (.int .i64 t1076)).setCell ⟨a3, 6, none⟩ (.int .i64 t1077)).setCell ⟨a3, 7, none⟩ (.slice am t1078.length an)) w.heap.size (fun k_ => some k_ ≠ (.slice ad t1013.length ac : Value).ownBlock ∧ some k_ ≠ (.slice av t1050.length ap : Value).ownBlock ∧ some k_ ≠ (.slice ay t1055.length aq : Value).ownBlock ∧ some k_ ≠ (.slice b2 t1067.length b3 : Value).ownBlock) (.slice am t1078.length an) t1078) := ⟨by (with_reducible repeat first | apply rA_ | apply rN_ | apply rD_); exact Kd.R_mono (rfar8 (g := a3) (Kd.R_types aj.out a8.out (by decide)) (fun _ hk => hk.2)) (fun _ hk => ⟨hk.1.1.1.1.2, ⟨hk.1.1.1.2, ⟨hk.1.1.2, hk.1.2⟩⟩⟩)⟩
              have n5_ : Aside0 (((((((((w79.setCell ⟨a3, 0, none⟩ (.int .i64 t1071)).setCell ⟨a3, 1, none⟩ (.int .i64 t1072)).setCell ⟨a3, 2, none⟩ (.int .i64 t1073)).setCell ⟨a3, 3, none⟩ (.int .i64 t1074)).setCell ⟨a3, 4, none⟩ (.int .i64 t1075)).setCell ⟨a3, 5, none⟩ (.int .i64 t1076)).setCell ⟨a3, 6, none⟩ (.int .i64 t1077)).setCell ⟨a3, 7, none⟩ (.slice am t1078.length an)).heap[a2]? = some (.cells #[.int .i64 t1006, .int .i64 t1007, .int .i64 t1008, .int .i64 t1009, .int .i64 t1010, .int .i64 t1011, .int .i64 t1012, .slice ad t1013.length ac] 36 (0, 0))) := ⟨by (iterate 8 ((with_reducible repeat first | apply bN_ | apply bD_ | apply bA_); refine bF_ ?_ bh.out _)); (with_reducible repeat first | apply bN_ | apply bD_ | apply bA_); exact a1.out⟩
              have n6_ : Aside0 (((((((((w79.setCell ⟨a3, 0, none⟩ (.int .i64 t1071)).setCell ⟨a3, 1, none⟩ (.int .i64 t1072)).setCell ⟨a3, 2, none⟩ (.int .i64 t1073)).setCell ⟨a3, 3, none⟩ (.int .i64 t1074)).setCell ⟨a3, 4, none⟩ (.int .i64 t1075)).setCell ⟨a3, 5, none⟩ (.int .i64 t1076)).setCell ⟨a3, 6, none⟩ (.int .i64 t1077)).setCell ⟨a3, 7, none⟩ (.slice am t1078.length an)).heap[ab]? = some (.cells #[.int .i64 t1044, .int .i64 t1045, .int .i64 t1046, .int .i64 t1047, .int .i64 t1048, .int .i64 t1049, .slice av t1050.length ap] 34 (0, 0))) := ⟨by (iterate 8 ((with_reducible repeat first | apply bN_ | apply bD_ | apply bA_); refine bF_ ?_ bi.out _)); (with_reducible repeat first | apply bN_ | apply bD_ | apply bA_); exact a4.out⟩
              have n7_ : Aside0 (((((((((w79.setCell ⟨a3, 0, none⟩ (.int .i64 t1071)).setCell ⟨a3, 1, none⟩ (.int .i64 t1072)).setCell ⟨a3, 2, none⟩ (.int .i64 t1073)).setCell ⟨a3, 3, none⟩ (.int .i64 t1074)).setCell ⟨a3, 4, none⟩ (.int .i64 t1075)).setCell ⟨a3, 5, none⟩ (.int .i64 t1076)).setCell ⟨a3, 6, none⟩ (.int .i64 t1077)).setCell ⟨a3, 7, none⟩ (.slice am t1078.length an)).heap[aa]? = some (.cells #[.int .i64 t1054, .slice ay t1055.length aq] 29 (0, 0))) := ⟨by (iterate 8 ((with_reducible repeat first | apply bN_ | apply bD_ | apply bA_); refine bF_ ?_ bj.out _)); (with_reducible repeat first | apply bN_ | apply bD_ | apply bA_); exact a7.out⟩
              have n8_ : Aside0 (((((((((w79.setCell ⟨a3, 0, none⟩ (.int .i64 t1071)).setCell ⟨a3, 1, none⟩ (.int .i64 t1072)).setCell ⟨a3, 2, none⟩ (.int .i64 t1073)).setCell ⟨a3, 3, none⟩ (.int .i64 t1074)).setCell ⟨a3, 4, none⟩ (.int .i64 t1075)).setCell ⟨a3, 5, none⟩ (.int .i64 t1076)).setCell ⟨a3, 6, none⟩ (.int .i64 t1077)).setCell ⟨a3, 7, none⟩ (.slice am t1078.length an)).heap[ah]? = some (.cells #[.int .i64 t1060, .int .i64 t1061, .int .i64 t1062, .int .i64 t1063, .int .i64 t1064, .int .i64 t1065, .int .i64 t1066, .slice b2 t1067.length b3] 36 (0, 0))) := ⟨by (iterate 8 ((with_reducible repeat first | apply bN_ | apply bD_ | apply bA_); refine bF_ ?_ bk.out _)); (with_reducible repeat first | apply bN_ | apply bD_ | apply bA_); exact a6.out⟩
              have n9_ : Aside0 (((((((((w79.setCell ⟨a3, 0, none⟩ (.int .i64 t1071)).setCell ⟨a3, 1, none⟩ (.int .i64 t1072)).setCell ⟨a3, 2, none⟩ (.int .i64 t1073)).setCell ⟨a3, 3, none⟩ (.int .i64 t1074)).setCell ⟨a3, 4, none⟩ (.int .i64 t1075)).setCell ⟨a3, 5, none⟩ (.int .i64 t1076)).setCell ⟨a3, 6, none⟩ (.int .i64 t1077)).setCell ⟨a3, 7, none⟩ (.slice am t1078.length an)).heap[a3]? = some (.cells #[.int .i64 t1071, .int .i64 t1072, .int .i64 t1073, .int .i64 t1074, .int .i64 t1075, .int .i64 t1076, .int .i64 t1077, .slice am t1078.length an] 36 (0, 0))) := ⟨by (with_reducible repeat first | apply bN_ | apply bD_ | apply bA_); apply fill8; (with_reducible repeat first | apply bN_ | apply bD_ | apply bA_); exact a8.out⟩
              have n10_ : Aside0 (Below w.heap.size w ((((((((w79.setCell ⟨a3, 0, none⟩ (.int .i64 t1071)).setCell ⟨a3, 1, none⟩ (.int .i64 t1072)).setCell ⟨a3, 2, none⟩ (.int .i64 t1073)).setCell ⟨a3, 3, none⟩ (.int .i64 t1074)).setCell ⟨a3, 4, none⟩ (.int .i64 t1075)).setCell ⟨a3, 5, none⟩ (.int .i64 t1076)).setCell ⟨a3, 6, none⟩ (.int .i64 t1077)).setCell ⟨a3, 7, none⟩ (.slice am t1078.length an))) := ⟨by repeat (first | (with_reducible first | exact HB.out | apply lA1_ | apply lN_ | apply lD_ | refine lS1_ ?_ ag.out | refine lS1_ ?_ ak.out | refine lS1_ ?_ ao.out | refine lS1_ ?_ b4.out | refine lS1_ ?_ ba.out) | exact HB.out)⟩
              (try clear a0)
              (try clear a5)
              (try clear a9)
              (try clear af)
              (try clear aj)
              (try clear a1)
              (try clear a4)
              (try clear a7)
              (try clear a6)
              (try clear a8)
              (try clear HB)
              generalize ((((((((w79.setCell ⟨a3, 0, none⟩ (.int .i64 t1071)).setCell ⟨a3, 1, none⟩ (.int .i64 t1072)).setCell ⟨a3, 2, none⟩ (.int .i64 t1073)).setCell ⟨a3, 3, none⟩ (.int .i64 t1074)).setCell ⟨a3, 4, none⟩ (.int .i64 t1075)).setCell ⟨a3, 5, none⟩ (.int .i64 t1076)).setCell ⟨a3, 6, none⟩ (.int .i64 t1077)).setCell ⟨a3, 7, none⟩ (.slice am t1078.length an)) = w86 at n0_ n1_ n2_ n3_ n4_ n5_ n6_ n7_ n8_ n9_ n10_ ⊢
              have a0 := n0_
              have a5 := n1_
              have a9 := n2_
              have af := n3_
              have aj := n4_
              have a1 := n5_
              have a4 := n6_
              have a7 := n7_
              have a6 := n8_
              have a8 := n9_
              have HB := n10_
              clear n0_ n1_ n2_ n3_ n4_ n5_ n6_ n7_ n8_ n9_ n10_
              have n0_ := Aside0.mk (rD_ a0.out)
              have n1_ := Aside0.mk (rD_ a5.out)
              have n2_ := Aside0.mk (rD_ a9.out)
              have n3_ := Aside0.mk (rD_ af.out)
              have n4_ := Aside0.mk (rD_ aj.out)
              have n5_ := Aside0.mk (bD_ a1.out)
              have n6_ := Aside0.mk (bD_ a4.out)
              have n7_ := Aside0.mk (bD_ a7.out)
              have n8_ := Aside0.mk (bD_ a6.out)
              have n9_ := Aside0.mk (bD_ a8.out)
              have n10_ := Aside0.mk (lD_ HB.out)
              clear a0
              clear a5
              clear a9
              clear af
              clear aj
              clear a1
              clear a4
              clear a7
              clear a6
              clear a8
              clear HB
              have a0 := n0_
              have a5 := n1_
              have a9 := n2_
              have af := n3_
              have aj := n4_
              have a1 := n5_
              have a4 := n6_
              have a7 := n7_
              have a6 := n8_
              have a8 := n9_
              have HB := n10_
              clear n0_ n1_ n2_ n3_ n4_ n5_ n6_ n7_ n8_ n9_ n10_
              refine start_ (n := 35) (S := fun w' => w'.cell? ⟨ah, 0, none⟩ = some (.int .i64 t1060) ∧ w'.cell? ⟨ah, 1, none⟩ = some (.int .i64 t1061) ∧ w'.cell? ⟨ah, 2, none⟩ = some (.int .i64 t1062) ∧ w'.cell? ⟨ah, 3, none⟩ = some (.int .i64 t1063) ∧ w'.cell? ⟨ah, 4, none⟩ = some (.int .i64 t1064) ∧ w'.cell? ⟨ah, 5, none⟩ = some (.int .i64 t1065) ∧ w'.cell? ⟨ah, 6, none⟩ = some (.int .i64 t1066) ∧ w'.cell? ⟨ah, 7, none⟩ = some (.slice b2 t1067.length b3) ∧ w'.cell? ⟨ab, 0, none⟩ = some (.int .i64 t1044) ∧ w'.cell? ⟨ab, 1, none⟩ = some (.int .i64 t1045) ∧ w'.cell? ⟨ab, 2, none⟩ = some (.int .i64 t1046) ∧ w'.cell? ⟨ab, 3, none⟩ = some (.int .i64 t1047) ∧ w'.cell? ⟨ab, 4, none⟩ = some (.int .i64 t1048) ∧ w'.cell? ⟨ab, 5, none⟩ = some (.int .i64 t1049) ∧ w'.cell? ⟨ab, 6, none⟩ = some (.slice av t1050.length ap) ∧ w'.cell? ⟨a3, 0, none⟩ = some (.int .i64 t1071) ∧ w'.cell? ⟨a3, 1, none⟩ = some (.int .i64 t1072) ∧ w'.cell? ⟨a3, 2, none⟩ = some (.int .i64 t1073) ∧ w'.cell? ⟨a3, 3, none⟩ = some (.int .i64 t1074) ∧ w'.cell? ⟨a3, 4, none⟩ = some (.int .i64 t1075) ∧ w'.cell? ⟨a3, 5, none⟩ = some (.int .i64 t1076) ∧ w'.cell? ⟨a3, 6, none⟩ = some (.int .i64 t1077) ∧ w'.cell? ⟨a3, 7, none⟩ = some (.slice am t1078.length an) ∧ w'.cell? ⟨aa, 0, none⟩ = some (.int .i64 t1054) ∧ w'.cell? ⟨aa, 1, none⟩ = some (.slice ay t1055.length aq)) (ds := []) #[false, false, false, false, false, false, false, false, false, false, false, false, false, false, false, false, false, false, false, false, false, false, false, false, false, false, false, false, false, false, false, false, false, false, false] (by kernel_rfl) rfl rfl ⟨(blk_cell a6.out 0).trans rfl, (blk_cell a6.out 1).trans rfl, (blk_cell a6.out 2).trans rfl, (blk_cell a6.out 3).trans rfl, (blk_cell a6.out 4).trans rfl, (blk_cell a6.out 5).trans rfl, (blk_cell a6.out 6).trans rfl, (blk_cell a6.out 7).trans rfl, (blk_cell a4.out 0).trans rfl, (blk_cell a4.out 1).trans rfl, (blk_cell a4.out 2).trans rfl, (blk_cell a4.out 3).trans rfl, (blk_cell a4.out 4).trans rfl, (blk_cell a4.out 5).trans rfl, (blk_cell a4.out 6).trans rfl, (blk_cell a8.out 0).trans rfl, (blk_cell a8.out 1).trans rfl, (blk_cell a8.out 2).trans rfl, (blk_cell a8.out 3).trans rfl, (blk_cell a8.out 4).trans rfl, (blk_cell a8.out 5).trans rfl, (blk_cell a8.out 6).trans rfl, (blk_cell a8.out 7).trans rfl, (blk_cell a7.out 0).trans rfl, (blk_cell a7.out 1).trans rfl⟩ (fun hHeld => ?_); refine with_tabW laws_FnPackets.tab17 laws_FnPackets.bits17 (fun HT_ HW_ => ?_)
              generalize w86.drew = w87 at a0 a5 a9 af aj a1 a4 a7 a6 a8 HB hHeld ⊢
              refine pure_ (i := 0) (N := some 69) (v := ?_) (a' := ?_) #[true, false, false, false, false, false, false, false, false, false, false, false, false, false, false, false, false, false, false, false, false, false, false, false, false, false, false, false, false, false, false, false, false, false, false] rfl rfl (any_of HT_.out (by kernel_rfl)) (fun _ _ _ h => h) (Or.inl ⟨by rfl, ?_⟩) ?_ ?_
              rotate_left
              ·intro w'
               go_simp
               with_reducible rfl
              rotate_left
              ·simp only [Act.put, lA_, lZ_, lS_, i64_w, i32_w]
               rfl
              refine take_ (i := 1) (N := some 70) (v := ?_) (a' := ?_) #[true, true, false, false, false, false, false, false, false, false, false, false, false, false, false, false, false, false, false, false, false, false, false, false, false, false, false, false, false, false, false, false, false, false, false] rfl rfl (take_ofW HT_.out HW_.out (by kernel_rfl)) (fun _ _ _ h => h) (Or.inl ⟨by rfl, ?_⟩) hHeld ?_ ?_
              rotate_left
              ·rintro w' ⟨s0, s1, s2, s3, s4, s5, s6, s7, s8, s9, s10, s11, s12, s13, s14, s15, s16, s17, s18, s19, s20, s21, s22, s23, s24⟩
               go_simp
               with_reducible rfl
              rotate_left
              ·simp only [Act.put, lA_, lZ_, lS_, i64_w, i32_w]
               rfl
              refine pure_ (i := 2) (N := some 71) (v := ?_) (a' := ?_) #[true, true, true, false, false, false, false, false, false, false, false, false, false, false, false, false, false, false, false, false, false, false, false, false, false, false, false, false, false, false, false, false, false, false, false] rfl rfl (any_of HT_.out (by kernel_rfl)) (fun _ _ _ h => h) (Or.inl ⟨by rfl, ?_⟩) ?_ ?_
              rotate_left
              ·intro w'
               go_simp
               with_reducible rfl
              rotate_left
              ·simp only [Act.put, lA_, lZ_, lS_, i64_w, i32_w]
               rfl
              refine pure_ (i := 3) (N := some 72) (v := ?_) (a' := ?_) #[true, true, true, true, false, false, false, false, false, false, false, false, false, false, false, false, false, false, false, false, false, false, false, false, false, false, false, false, false, false, false, false, false, false, false] rfl rfl (any_of HT_.out (by kernel_rfl)) (fun _ _ _ h => h) (Or.inl ⟨by rfl, ?_⟩) ?_ ?_
              rotate_left
              ·intro w'
               go_simp
               with_reducible rfl
              rotate_left
              ·simp only [Act.put, lA_, lZ_, lS_, i64_w, i32_w]
               rfl
              refine pure_ (i := 4) (N := some 73) (v := ?_) (a' := ?_) #[true, true, true, true, true, false, false, false, false, false, false, false, false, false, false, false, false, false, false, false, false, false, false, false, false, false, false, false, false, false, false, false, false, false, false] rfl rfl (any_of HT_.out (by kernel_rfl)) (fun _ _ _ h => h) (Or.inl ⟨by rfl, ?_⟩) ?_ ?_
              rotate_left
              ·intro w'
               go_simp
               with_reducible rfl
              rotate_left
              ·simp only [Act.put, lA_, lZ_, lS_, i64_w, i32_w]
               rfl
              refine take_ (i := 5) (N := some 74) (v := ?_) (a' := ?_) #[true, true, true, true, true, true, false, false, false, false, false, false, false, false, false, false, false, false, false, false, false, false, false, false, false, false, false, false, false, false, false, false, false, false, false] rfl rfl (take_ofW HT_.out HW_.out (by kernel_rfl)) (fun _ _ _ h => h) (Or.inl ⟨by rfl, ?_⟩) hHeld ?_ ?_
              rotate_left
              ·rintro w' ⟨s0, s1, s2, s3, s4, s5, s6, s7, s8, s9, s10, s11, s12, s13, s14, s15, s16, s17, s18, s19, s20, s21, s22, s23, s24⟩
               go_simp
               with_reducible rfl
              rotate_left
              ·simp only [Act.put, lA_, lZ_, lS_, i64_w, i32_w]
               rfl
              refine take_ (i := 6) (N := some 75) (v := ?_) (a' := ?_) #[true, true, true, true, true, true, true, false, false, false, false, false, false, false, false, false, false, false, false, false, false, false, false, false, false, false, false, false, false, false, false, false, false, false, false] rfl rfl (take_ofW HT_.out HW_.out (by kernel_rfl)) (fun _ _ _ h => h) (Or.inl ⟨by rfl, ?_⟩) hHeld ?_ ?_
              rotate_left
              ·rintro w' ⟨s0, s1, s2, s3, s4, s5, s6, s7, s8, s9, s10, s11, s12, s13, s14, s15, s16, s17, s18, s19, s20, s21, s22, s23, s24⟩
               go_simp
               with_reducible rfl
              rotate_left
              ·simp only [Act.put, lA_, lZ_, lS_, i64_w, i32_w]
               rfl
              refine one_ (i := 7) (N := some 76) #[true, true, true, true, true, true, true, true, false, false, false, false, false, false, false, false, false, false, false, false, false, false, false, false, false, false, false, false, false, false, false, false, false, false, false] rfl rfl (one_of HT_.out (by kernel_rfl)) (by decide) (fun K hK => ?_)
              refine goes_ Try.func29 (by kernel_rfl) rfl #[.agg #[.int .i64 t1061, .int .i64 t1062, .int .i64 t1063, .int .i64 t1064, .int .i64 t1065, .int .i64 t1066, .slice b2 t1067.length b3], .agg #[.int .i64 t1044, .int .i64 t1045, .int .i64 t1046, .int .i64 t1047, .int .i64 t1048, .int .i64 t1049, .slice av t1050.length ap]] (by rfl) rfl rfl (by (try simp only [List.map_toArray, List.map_cons, List.map_nil]); first | done | rfl | (simp only [List.length_drop, List.length_take]; rfl)) ?_
              with_reducible refine (impl_SamePacket.calls t1061 t1062 t1063 t1064 t1065 t1066 _ _ t1067 t1044 t1045 t1046 t1047 t1048 t1049 _ _ t1050 true _ ?side1 ?side2 ?side3 ?side4 c6.out).mono ?_
              (case side1 => repeat (first | exact (Kd.R_reads' af.out).2.2 | (with_reducible refine Kd.C_alloc ?_ _) | (with_reducible refine Kd.C_drewN ?_ _) | (with_reducible refine Kd.C_drew ?_)))
              (case side2 => exact (Kd.R_reads' af.out).2.1)
              (case side3 => repeat (first | exact (Kd.R_reads' a5.out).2.2 | (with_reducible refine Kd.C_alloc ?_ _) | (with_reducible refine Kd.C_drewN ?_ _) | (with_reducible refine Kd.C_drew ?_)))
              (case side4 => exact (Kd.R_reads' a5.out).2.1)
              rintro e w88 ⟨rfl, hb⟩
              refine ⟨_, rfl, ?_⟩
              have n0_ := Aside0.mk (Kd.R_below (by (with_reducible repeat first | apply rA_ | apply rN_ | apply rD_); exact a0.out) hb)
              have n1_ := Aside0.mk (Kd.R_below (by (with_reducible repeat first | apply rA_ | apply rN_ | apply rD_); exact a5.out) hb)
              have n2_ := Aside0.mk (Kd.R_below (by (with_reducible repeat first | apply rA_ | apply rN_ | apply rD_); exact a9.out) hb)
              have n3_ := Aside0.mk (Kd.R_below (by (with_reducible repeat first | apply rA_ | apply rN_ | apply rD_); exact af.out) hb)
              have n4_ := Aside0.mk (Kd.R_below (by (with_reducible repeat first | apply rA_ | apply rN_ | apply rD_); exact aj.out) hb)
              have n5_ := Aside0.mk (bB_ (g := a2) (o := .cells #[.int .i64 t1006, .int .i64 t1007, .int .i64 t1008, .int .i64 t1009, .int .i64 t1010, .int .i64 t1011, .int .i64 t1012, .slice ad t1013.length ac] 36 (0, 0)) (by (with_reducible repeat first | apply bN_ | apply bD_ | apply bA_); exact a1.out) hb)
              have n6_ := Aside0.mk (bB_ (g := ab) (o := .cells #[.int .i64 t1044, .int .i64 t1045, .int .i64 t1046, .int .i64 t1047, .int .i64 t1048, .int .i64 t1049, .slice av t1050.length ap] 34 (0, 0)) (by (with_reducible repeat first | apply bN_ | apply bD_ | apply bA_); exact a4.out) hb)
              have n7_ := Aside0.mk (bB_ (g := aa) (o := .cells #[.int .i64 t1054, .slice ay t1055.length aq] 29 (0, 0)) (by (with_reducible repeat first | apply bN_ | apply bD_ | apply bA_); exact a7.out) hb)
              have n8_ := Aside0.mk (bB_ (g := ah) (o := .cells #[.int .i64 t1060, .int .i64 t1061, .int .i64 t1062, .int .i64 t1063, .int .i64 t1064, .int .i64 t1065, .int .i64 t1066, .slice b2 t1067.length b3] 36 (0, 0)) (by (with_reducible repeat first | apply bN_ | apply bD_ | apply bA_); exact a6.out) hb)
              have n9_ := Aside0.mk (bB_ (g := a3) (o := .cells #[.int .i64 t1071, .int .i64 t1072, .int .i64 t1073, .int .i64 t1074, .int .i64 t1075, .int .i64 t1076, .int .i64 t1077, .slice am t1078.length an] 36 (0, 0)) (by (with_reducible repeat first | apply bN_ | apply bD_ | apply bA_); exact a8.out) hb)
              have n10_ := Aside0.mk (lP_ (by repeat (first | (with_reducible first | exact HB.out | apply lA1_ | apply lN_ | apply lD_ | refine lS1_ ?_ ag.out | refine lS1_ ?_ ak.out | refine lS1_ ?_ ao.out | refine lS1_ ?_ b4.out | refine lS1_ ?_ ba.out) | exact HB.out)) hb)
              clear a0
              clear a5
              clear a9
              clear af
              clear aj
              clear a1
              clear a4
              clear a7
              clear a6
              clear a8
              clear HB
              have a0 := n0_
              have a5 := n1_
              have a9 := n2_
              have af := n3_
              have aj := n4_
              have a1 := n5_
              have a4 := n6_
              have a7 := n7_
              have a6 := n8_
              have a8 := n9_
              have HB := n10_
              clear n0_ n1_ n2_ n3_ n4_ n5_ n6_ n7_ n8_ n9_ n10_
              (try clear hb)
              (try clear hb2)
              (try clear hk)
              (try clear hi)
              refine hK.out _ _ ⟨(blk_cell a6.out 0).trans rfl, (blk_cell a6.out 1).trans rfl, (blk_cell a6.out 2).trans rfl, (blk_cell a6.out 3).trans rfl, (blk_cell a6.out 4).trans rfl, (blk_cell a6.out 5).trans rfl, (blk_cell a6.out 6).trans rfl, (blk_cell a6.out 7).trans rfl, (blk_cell a4.out 0).trans rfl, (blk_cell a4.out 1).trans rfl, (blk_cell a4.out 2).trans rfl, (blk_cell a4.out 3).trans rfl, (blk_cell a4.out 4).trans rfl, (blk_cell a4.out 5).trans rfl, (blk_cell a4.out 6).trans rfl, (blk_cell a8.out 0).trans rfl, (blk_cell a8.out 1).trans rfl, (blk_cell a8.out 2).trans rfl, (blk_cell a8.out 3).trans rfl, (blk_cell a8.out 4).trans rfl, (blk_cell a8.out 5).trans rfl, (blk_cell a8.out 6).trans rfl, (blk_cell a8.out 7).trans rfl, (blk_cell a7.out 0).trans rfl, (blk_cell a7.out 1).trans rfl⟩ (fun hHeld => ?_)
              clear hK K
              refine norm_ (a' := ?_) ?_ ?_
              rotate_left
              ·show Act.put _ (some 76) _ = _
               simp only [Act.put, lA_, lZ_, lS_, i64_w, i32_w]
               rfl
              refine pure_ (i := 8) (N := some 77) (v := ?_) (a' := ?_) #[true, true, true, true, true, true, true, true, true, false, false, false, false, false, false, false, false, false, false, false, false, false, false, false, false, false, false, false, false, false, false, false, false, false, false] rfl rfl (any_of HT_.out (by kernel_rfl)) (fun _ _ _ h => h) (Or.inl ⟨by rfl, ?_⟩) ?_ ?_
              rotate_left
              ·intro w'
               go_simp
               with_reducible rfl
              rotate_left
              ·simp only [Act.put, lA_, lZ_, lS_, i64_w, i32_w]
               rfl
              refine pure_ (i := 9) (N := some 78) (v := ?_) (a' := ?_) #[true, true, true, true, true, true, true, true, true, true, false, false, false, false, false, false, false, false, false, false, false, false, false, false, false, false, false, false, false, false, false, false, false, false, false] rfl rfl (any_of HT_.out (by kernel_rfl)) (fun _ _ _ h => h) (Or.inl ⟨by rfl, ?_⟩) ?_ ?_
              rotate_left
              ·intro w'
               go_simp
               with_reducible rfl
              rotate_left
              ·simp only [Act.put, lA_, lZ_, lS_, i64_w, i32_w]
               rfl
              refine pure_ (i := 10) (N := some 79) (v := ?_) (a' := ?_) #[true, true, true, true, true, true, true, true, true, true, true, false, false, false, false, false, false, false, false, false, false, false, false, false, false, false, false, false, false, false, false, false, false, false, false] rfl rfl (any_of HT_.out (by kernel_rfl)) (fun _ _ _ h => h) (Or.inl ⟨by rfl, ?_⟩) ?_ ?_
              rotate_left
              ·intro w'
               go_simp
               with_reducible rfl
              rotate_left
              ·simp only [Act.put, lA_, lZ_, lS_, i64_w, i32_w]
               rfl
              refine take_ (i := 11) (N := some 80) (v := ?_) (a' := ?_) #[true, true, true, true, true, true, true, true, true, true, true, true, false, false, false, false, false, false, false, false, false, false, false, false, false, false, false, false, false, false, false, false, false, false, false] rfl rfl (take_ofW HT_.out HW_.out (by kernel_rfl)) (fun _ _ _ h => h) (Or.inl ⟨by rfl, ?_⟩) hHeld ?_ ?_
              rotate_left
              ·rintro w' ⟨s0, s1, s2, s3, s4, s5, s6, s7, s8, s9, s10, s11, s12, s13, s14, s15, s16, s17, s18, s19, s20, s21, s22, s23, s24⟩
               go_simp
               with_reducible rfl
              rotate_left
              ·simp only [Act.put, lA_, lZ_, lS_, i64_w, i32_w]
               rfl
              refine pure_ (i := 12) (N := some 81) (v := ?_) (a' := ?_) #[true, true, true, true, true, true, true, true, true, true, true, true, true, false, false, false, false, false, false, false, false, false, false, false, false, false, false, false, false, false, false, false, false, false, false] rfl rfl (any_of HT_.out (by kernel_rfl)) (fun _ _ _ h => h) (Or.inl ⟨by rfl, ?_⟩) ?_ ?_
              rotate_left
              ·intro w'
               go_simp
               with_reducible rfl
              rotate_left
              ·simp only [Act.put, lA_, lZ_, lS_, i64_w, i32_w]
               rfl
              refine pure_ (i := 13) (N := some 82) (v := ?_) (a' := ?_) #[true, true, true, true, true, true, true, true, true, true, true, true, true, true, false, false, false, false, false, false, false, false, false, false, false, false, false, false, false, false, false, false, false, false, false] rfl rfl (any_of HT_.out (by kernel_rfl)) (fun _ _ _ h => h) (Or.inl ⟨by rfl, ?_⟩) ?_ ?_
              rotate_left
              ·intro w'
               go_simp
               with_reducible rfl
              rotate_left
              ·simp only [Act.put, lA_, lZ_, lS_, i64_w, i32_w]
               rfl
              refine pure_ (i := 14) (N := some 83) (v := ?_) (a' := ?_) #[true, true, true, true, true, true, true, true, true, true, true, true, true, true, true, false, false, false, false, false, false, false, false, false, false, false, false, false, false, false, false, false, false, false, false] rfl rfl (any_of HT_.out (by kernel_rfl)) (fun _ _ _ h => h) (Or.inl ⟨by rfl, ?_⟩) ?_ ?_
              rotate_left
              ·intro w'
               go_simp
               with_reducible rfl
              rotate_left
              ·simp only [Act.put, lA_, lZ_, lS_, i64_w, i32_w]
               rfl
              refine pure_ (i := 15) (N := some 84) (v := ?_) (a' := ?_) #[true, true, true, true, true, true, true, true, true, true, true, true, true, true, true, true, false, false, false, false, false, false, false, false, false, false, false, false, false, false, false, false, false, false, false] rfl rfl (any_of HT_.out (by kernel_rfl)) (fun _ _ _ h => h) (Or.inl ⟨by rfl, ?_⟩) ?_ ?_
              rotate_left
              ·intro w'
               go_simp
               with_reducible rfl
              rotate_left
              ·simp only [Act.put, lA_, lZ_, lS_, i64_w, i32_w]
               rfl
              refine take_ (i := 16) (N := some 85) (v := ?_) (a' := ?_) #[true, true, true, true, true, true, true, true, true, true, true, true, true, true, true, true, true, false, false, false, false, false, false, false, false, false, false, false, false, false, false, false, false, false, false] rfl rfl (take_ofW HT_.out HW_.out (by kernel_rfl)) (fun _ _ _ h => h) (Or.inl ⟨by rfl, ?_⟩) hHeld ?_ ?_
              rotate_left
              ·rintro w' ⟨s0, s1, s2, s3, s4, s5, s6, s7, s8, s9, s10, s11, s12, s13, s14, s15, s16, s17, s18, s19, s20, s21, s22, s23, s24⟩
               go_simp
               with_reducible rfl
              rotate_left
              ·simp only [Act.put, lA_, lZ_, lS_, i64_w, i32_w]
               rfl
              refine take_ (i := 19) (N := some 88) (v := ?_) (a' := ?_) #[true, true, true, true, true, true, true, true, true, true, true, true, true, true, true, true, true, false, false, true, false, false, false, false, false, false, false, false, false, false, false, false, false, false, false] rfl rfl (take_ofW HT_.out HW_.out (by kernel_rfl)) (fun _ _ _ h => h) (Or.inl ⟨by rfl, ?_⟩) hHeld ?_ ?_
              rotate_left
              ·rintro w' ⟨s0, s1, s2, s3, s4, s5, s6, s7, s8, s9, s10, s11, s12, s13, s14, s15, s16, s17, s18, s19, s20, s21, s22, s23, s24⟩
               go_simp
               with_reducible rfl
              rotate_left
              ·simp only [Act.put, lA_, lZ_, lS_, i64_w, i32_w]
               rfl
              refine one_ (i := 17) (N := some 86) #[true, true, true, true, true, true, true, true, true, true, true, true, true, true, true, true, true, true, false, true, false, false, false, false, false, false, false, false, false, false, false, false, false, false, false] rfl rfl (one_of HT_.out (by kernel_rfl)) (by decide) (fun K hK => ?_)
              refine goes_ Try.func35 (by kernel_rfl) rfl #[.agg #[.int .i64 t1072, .int .i64 t1073, .int .i64 t1074, .int .i64 t1075, .int .i64 t1076, .int .i64 t1077, .slice am t1078.length an]] (by rfl) rfl rfl (by (try simp only [List.map_toArray, List.map_cons, List.map_nil]); first | done | rfl | (simp only [List.length_drop, List.length_take]; rfl)) ?_
              with_reducible refine (impl_ReverseWay.calls kj20 t1072 t1073 t1074 t1075 t1076 t1077 _ _ t1078 t1083 t1084 t1085 t1086 t1087 t1088 t1089 t1090 _ ?side1 ?side2 da.out).mono ?_
              (case side1 => repeat (first | exact (Kd.R_reads' aj.out).2.2 | (with_reducible refine Kd.C_alloc ?_ _) | (with_reducible refine Kd.C_drewN ?_ _) | (with_reducible refine Kd.C_drew ?_)))
              (case side2 => exact (Kd.R_reads' aj.out).2.1)
              rintro e w89 ⟨v1091, rfl, ho0, hb⟩
              refine ⟨_, rfl, ?_⟩
              have n0_ := Aside0.mk (Kd.R_elder' (by (with_reducible repeat first | apply rA_ | apply rN_ | apply rD_); exact a0.out) (Kd.R_base ho0) hb)
              have n1_ := Aside0.mk (Kd.R_elder' (by (with_reducible repeat first | apply rA_ | apply rN_ | apply rD_); exact a5.out) (Kd.R_base ho0) hb)
              have n2_ := Aside0.mk (Kd.R_elder' (by (with_reducible repeat first | apply rA_ | apply rN_ | apply rD_); exact a9.out) (Kd.R_base ho0) hb)
              have n3_ := Aside0.mk (Kd.R_elder' (by (with_reducible repeat first | apply rA_ | apply rN_ | apply rD_); exact af.out) (Kd.R_base ho0) hb)
              have n4_ := Aside0.mk (Kd.R_elder' (by (with_reducible repeat first | apply rA_ | apply rN_ | apply rD_); exact aj.out) (Kd.R_base ho0) hb)
              have n5_ := Aside0.mk (Kd.R_lower (Kd.R_new' (Kd.R_new' (Kd.R_new' (Kd.R_new' (Kd.R_new' ho0 (Kd.R_lt (by (with_reducible repeat first | apply rA_ | apply rN_ | apply rD_); exact a0.out))) (Kd.R_lt (by (with_reducible repeat first | apply rA_ | apply rN_ | apply rD_); exact a5.out))) (Kd.R_lt (by (with_reducible repeat first | apply rA_ | apply rN_ | apply rD_); exact a9.out))) (Kd.R_lt (by (with_reducible repeat first | apply rA_ | apply rN_ | apply rD_); exact af.out))) (Kd.R_lt (by (with_reducible repeat first | apply rA_ | apply rN_ | apply rD_); exact aj.out))) (below_size (by repeat (first | (with_reducible first | exact HB.out | apply lA1_ | apply lN_ | apply lD_ | refine lS1_ ?_ ag.out | refine lS1_ ?_ ak.out | refine lS1_ ?_ ao.out | refine lS1_ ?_ b4.out | refine lS1_ ?_ ba.out) | exact HB.out))))
              have n6_ := Aside0.mk (bB_ (g := a2) (o := .cells #[.int .i64 t1006, .int .i64 t1007, .int .i64 t1008, .int .i64 t1009, .int .i64 t1010, .int .i64 t1011, .int .i64 t1012, .slice ad t1013.length ac] 36 (0, 0)) (by (with_reducible repeat first | apply bN_ | apply bD_ | apply bA_); exact a1.out) hb)
              have n7_ := Aside0.mk (bB_ (g := ab) (o := .cells #[.int .i64 t1044, .int .i64 t1045, .int .i64 t1046, .int .i64 t1047, .int .i64 t1048, .int .i64 t1049, .slice av t1050.length ap] 34 (0, 0)) (by (with_reducible repeat first | apply bN_ | apply bD_ | apply bA_); exact a4.out) hb)
              have n8_ := Aside0.mk (bB_ (g := aa) (o := .cells #[.int .i64 t1054, .slice ay t1055.length aq] 29 (0, 0)) (by (with_reducible repeat first | apply bN_ | apply bD_ | apply bA_); exact a7.out) hb)
              have n9_ := Aside0.mk (bB_ (g := ah) (o := .cells #[.int .i64 t1060, .int .i64 t1061, .int .i64 t1062, .int .i64 t1063, .int .i64 t1064, .int .i64 t1065, .int .i64 t1066, .slice b2 t1067.length b3] 36 (0, 0)) (by (with_reducible repeat first | apply bN_ | apply bD_ | apply bA_); exact a6.out) hb)
              have n10_ := Aside0.mk (bB_ (g := a3) (o := .cells #[.int .i64 t1071, .int .i64 t1072, .int .i64 t1073, .int .i64 t1074, .int .i64 t1075, .int .i64 t1076, .int .i64 t1077, .slice am t1078.length an] 36 (0, 0)) (by (with_reducible repeat first | apply bN_ | apply bD_ | apply bA_); exact a8.out) hb)
              have n11_ := Aside0.mk (lP_ (by repeat (first | (with_reducible first | exact HB.out | apply lA1_ | apply lN_ | apply lD_ | refine lS1_ ?_ ag.out | refine lS1_ ?_ ak.out | refine lS1_ ?_ ao.out | refine lS1_ ?_ b4.out | refine lS1_ ?_ ba.out) | exact HB.out)) hb)
              clear a0
              clear a5
              clear a9
              clear af
              clear aj
              clear a1
              clear a4
              clear a7
              clear a6
              clear a8
              clear HB
              have a0 := n0_
              have a5 := n1_
              have a9 := n2_
              have af := n3_
              have aj := n4_
              have bb := n5_
              have a1 := n6_
              have a4 := n7_
              have a7 := n8_
              have a6 := n9_
              have a8 := n10_
              have HB := n11_
              clear n0_ n1_ n2_ n3_ n4_ n5_ n6_ n7_ n8_ n9_ n10_ n11_
              (try clear hb)
              (try clear hb2)
              (try clear hk)
              (try clear hi)
              (try clear ho0)
              obtain ⟨cz, d0, eo90⟩ := Kd.R_slice bb.out
              (first | subst eo90 | (injection eo90 with f1_ f2_ f3_; have f4_ := f1_.symm; have f5_ := f3_.symm; clear f1_ f2_ f3_; subst f4_; subst f5_))
              refine hK.out _ _ ⟨(blk_cell a6.out 0).trans rfl, (blk_cell a6.out 1).trans rfl, (blk_cell a6.out 2).trans rfl, (blk_cell a6.out 3).trans rfl, (blk_cell a6.out 4).trans rfl, (blk_cell a6.out 5).trans rfl, (blk_cell a6.out 6).trans rfl, (blk_cell a6.out 7).trans rfl, (blk_cell a4.out 0).trans rfl, (blk_cell a4.out 1).trans rfl, (blk_cell a4.out 2).trans rfl, (blk_cell a4.out 3).trans rfl, (blk_cell a4.out 4).trans rfl, (blk_cell a4.out 5).trans rfl, (blk_cell a4.out 6).trans rfl, (blk_cell a8.out 0).trans rfl, (blk_cell a8.out 1).trans rfl, (blk_cell a8.out 2).trans rfl, (blk_cell a8.out 3).trans rfl, (blk_cell a8.out 4).trans rfl, (blk_cell a8.out 5).trans rfl, (blk_cell a8.out 6).trans rfl, (blk_cell a8.out 7).trans rfl, (blk_cell a7.out 0).trans rfl, (blk_cell a7.out 1).trans rfl⟩ (fun hHeld => ?_)
              clear hK K
              refine norm_ (a' := ?_) ?_ ?_
              rotate_left
              ·show Act.put _ (some 86) _ = _
               simp only [Act.put, lA_, lZ_, lS_, i64_w, i32_w]
               rfl
              refine pure_ (i := 18) (N := some 87) (v := ?_) (a' := ?_) #[true, true, true, true, true, true, true, true, true, true, true, true, true, true, true, true, true, true, true, true, false, false, false, false, false, false, false, false, false, false, false, false, false, false, false] rfl rfl (any_of HT_.out (by kernel_rfl)) (fun _ _ _ h => h) (Or.inl ⟨by rfl, ?_⟩) ?_ ?_
              rotate_left
              ·intro w'
               go_simp
               first | with_reducible rfl | (apply Eq.trans; apply rfieldA_ (ty := 34) 1 7 (ys := [_, _, _, _, _, _, _]) Try.underlying36 Try.underlying34 (show Try.prog.cellsOf 34 = 7 by kernel_rfl); exact rfl; exact rfl; with_reducible rfl)
              rotate_left
              ·simp only [Act.put, lA_, lZ_, lS_, i64_w, i32_w]
               rfl
              refine one_ (i := 20) (N := some 89) #[true, true, true, true, true, true, true, true, true, true, true, true, true, true, true, true, true, true, true, true, true, false, false, false, false, false, false, false, false, false, false, false, false, false, false] rfl rfl (one_of HT_.out (by kernel_rfl)) (by decide) (fun K hK => ?_)
              refine goes_ Try.func29 (by kernel_rfl) rfl #[.agg #[.int .i64 t1084, .int .i64 t1085, .int .i64 t1086, .int .i64 t1087, .int .i64 t1088, .int .i64 t1089, .slice cz t1090.length d0], .agg #[.int .i64 t1044, .int .i64 t1045, .int .i64 t1046, .int .i64 t1047, .int .i64 t1048, .int .i64 t1049, .slice av t1050.length ap]] (by rfl) rfl rfl (by (try simp only [List.map_toArray, List.map_cons, List.map_nil]); first | done | rfl | (simp only [List.length_drop, List.length_take]; rfl)) ?_
              with_reducible refine (impl_SamePacket.calls t1084 t1085 t1086 t1087 t1088 t1089 _ _ t1090 t1044 t1045 t1046 t1047 t1048 t1049 _ _ t1050 true _ ?side1 ?side2 ?side3 ?side4 db.out).mono ?_
              (case side1 => repeat (first | exact (Kd.R_reads' bb.out).2.2 | (with_reducible refine Kd.C_alloc ?_ _) | (with_reducible refine Kd.C_drewN ?_ _) | (with_reducible refine Kd.C_drew ?_)))
              (case side2 => exact (Kd.R_reads' bb.out).2.1)
              (case side3 => repeat (first | exact (Kd.R_reads' a5.out).2.2 | (with_reducible refine Kd.C_alloc ?_ _) | (with_reducible refine Kd.C_drewN ?_ _) | (with_reducible refine Kd.C_drew ?_)))
              (case side4 => exact (Kd.R_reads' a5.out).2.1)
              rintro e w91 ⟨rfl, hb⟩
              refine ⟨_, rfl, ?_⟩
              have n0_ := Aside0.mk (Kd.R_below (by (with_reducible repeat first | apply rA_ | apply rN_ | apply rD_); exact a0.out) hb)
              have n1_ := Aside0.mk (Kd.R_below (by (with_reducible repeat first | apply rA_ | apply rN_ | apply rD_); exact a5.out) hb)
              have n2_ := Aside0.mk (Kd.R_below (by (with_reducible repeat first | apply rA_ | apply rN_ | apply rD_); exact a9.out) hb)
              have n3_ := Aside0.mk (Kd.R_below (by (with_reducible repeat first | apply rA_ | apply rN_ | apply rD_); exact af.out) hb)
              have n4_ := Aside0.mk (Kd.R_below (by (with_reducible repeat first | apply rA_ | apply rN_ | apply rD_); exact aj.out) hb)
              have n5_ := Aside0.mk (Kd.R_below (by (with_reducible repeat first | apply rA_ | apply rN_ | apply rD_); exact bb.out) hb)
              have n6_ := Aside0.mk (bB_ (g := a2) (o := .cells #[.int .i64 t1006, .int .i64 t1007, .int .i64 t1008, .int .i64 t1009, .int .i64 t1010, .int .i64 t1011, .int .i64 t1012, .slice ad t1013.length ac] 36 (0, 0)) (by (with_reducible repeat first | apply bN_ | apply bD_ | apply bA_); exact a1.out) hb)
              have n7_ := Aside0.mk (bB_ (g := ab) (o := .cells #[.int .i64 t1044, .int .i64 t1045, .int .i64 t1046, .int .i64 t1047, .int .i64 t1048, .int .i64 t1049, .slice av t1050.length ap] 34 (0, 0)) (by (with_reducible repeat first | apply bN_ | apply bD_ | apply bA_); exact a4.out) hb)
              have n8_ := Aside0.mk (bB_ (g := aa) (o := .cells #[.int .i64 t1054, .slice ay t1055.length aq] 29 (0, 0)) (by (with_reducible repeat first | apply bN_ | apply bD_ | apply bA_); exact a7.out) hb)
              have n9_ := Aside0.mk (bB_ (g := ah) (o := .cells #[.int .i64 t1060, .int .i64 t1061, .int .i64 t1062, .int .i64 t1063, .int .i64 t1064, .int .i64 t1065, .int .i64 t1066, .slice b2 t1067.length b3] 36 (0, 0)) (by (with_reducible repeat first | apply bN_ | apply bD_ | apply bA_); exact a6.out) hb)
              have n10_ := Aside0.mk (bB_ (g := a3) (o := .cells #[.int .i64 t1071, .int .i64 t1072, .int .i64 t1073, .int .i64 t1074, .int .i64 t1075, .int .i64 t1076, .int .i64 t1077, .slice am t1078.length an] 36 (0, 0)) (by (with_reducible repeat first | apply bN_ | apply bD_ | apply bA_); exact a8.out) hb)
              have n11_ := Aside0.mk (lP_ (by repeat (first | (with_reducible first | exact HB.out | apply lA1_ | apply lN_ | apply lD_ | refine lS1_ ?_ ag.out | refine lS1_ ?_ ak.out | refine lS1_ ?_ ao.out | refine lS1_ ?_ b4.out | refine lS1_ ?_ ba.out) | exact HB.out)) hb)
              clear a0
              clear a5
              clear a9
              clear af
              clear aj
              clear bb
              clear a1
              clear a4
              clear a7
              clear a6
              clear a8
              clear HB
              have a0 := n0_
              have a5 := n1_
              have a9 := n2_
              have af := n3_
              have aj := n4_
              have bb := n5_
              have a1 := n6_
              have a4 := n7_
              have a7 := n8_
              have a6 := n9_
              have a8 := n10_
              have HB := n11_
              clear n0_ n1_ n2_ n3_ n4_ n5_ n6_ n7_ n8_ n9_ n10_ n11_
              (try clear hb)
              (try clear hb2)
              (try clear hk)
              (try clear hi)
              have q92 : (20 : Int) ≤ ((t1055.length : Int) : Int) := of_decide_eq_true (by first | (with_reducible assumption) | assumption)
              obtain ⟨i092, hi092, _, hsz92, _⟩ := info_parts info5
              have hroom92 : t1055.length ≤ aq := (Kd.R_reads' a9.out).2.1
              have hC92 : Kd.C (Kd.int .u8) _ ay t1055.length t1055 := (Kd.R_reads' a9.out).2.2
              have cr := cut_to (P := Try.prog) 22 5 .i64 Try.underlying22 hi092 ay t1055.length aq 20 (by omega) q92 hroom92
              have hr92 := Kd.C_take (m := 20) hC92 (by omega)
              have hy92 : y1094.length = (20 : Int).toNat := (by rw [bz.out, List.length_take]; omega)
              rw [← bz.out] at hr92
              rw [← hy92] at cr
              have c4 := Aside0.mk hr92
              have ct := Aside0.mk (show y1094.length ≤ aq from by omega)
              clear hr92 hC92 hroom92 hi092 hsz92
              have KY92 := Aside0.mk hy92
              clear hy92
              have KL92 := Aside0.mk (show 20 ≤ t1055.length from by omega)
              replace q92 := eq_true q92
              refine hK.out _ _ ⟨(blk_cell a6.out 0).trans rfl, (blk_cell a6.out 1).trans rfl, (blk_cell a6.out 2).trans rfl, (blk_cell a6.out 3).trans rfl, (blk_cell a6.out 4).trans rfl, (blk_cell a6.out 5).trans rfl, (blk_cell a6.out 6).trans rfl, (blk_cell a6.out 7).trans rfl, (blk_cell a4.out 0).trans rfl, (blk_cell a4.out 1).trans rfl, (blk_cell a4.out 2).trans rfl, (blk_cell a4.out 3).trans rfl, (blk_cell a4.out 4).trans rfl, (blk_cell a4.out 5).trans rfl, (blk_cell a4.out 6).trans rfl, (blk_cell a8.out 0).trans rfl, (blk_cell a8.out 1).trans rfl, (blk_cell a8.out 2).trans rfl, (blk_cell a8.out 3).trans rfl, (blk_cell a8.out 4).trans rfl, (blk_cell a8.out 5).trans rfl, (blk_cell a8.out 6).trans rfl, (blk_cell a8.out 7).trans rfl, (blk_cell a7.out 0).trans rfl, (blk_cell a7.out 1).trans rfl⟩ (fun hHeld => ?_)
              clear hK K
              refine norm_ (a' := ?_) ?_ ?_
              rotate_left
              ·show Act.put _ (some 89) _ = _
               simp only [Act.put, lA_, lZ_, lS_, i64_w, i32_w]
               rfl
              refine pure_ (i := 21) (N := some 90) (v := ?_) (a' := ?_) #[true, true, true, true, true, true, true, true, true, true, true, true, true, true, true, true, true, true, true, true, true, true, false, false, false, false, false, false, false, false, false, false, false, false, false] rfl rfl (any_of HT_.out (by kernel_rfl)) (fun _ _ _ h => h) (Or.inl ⟨by rfl, ?_⟩) ?_ ?_
              rotate_left
              ·intro w'
               go_simp
               with_reducible rfl
              rotate_left
              ·simp only [Act.put, lA_, lZ_, lS_, i64_w, i32_w]
               rfl
              refine pure_ (i := 22) (N := some 91) (v := ?_) (a' := ?_) #[true, true, true, true, true, true, true, true, true, true, true, true, true, true, true, true, true, true, true, true, true, true, true, false, false, false, false, false, false, false, false, false, false, false, false] rfl rfl (any_of HT_.out (by kernel_rfl)) (fun _ _ _ h => h) (Or.inl ⟨by rfl, ?_⟩) ?_ ?_
              rotate_left
              ·intro w'
               go_simp
               with_reducible rfl
              rotate_left
              ·simp only [Act.put, lA_, lZ_, lS_, i64_w, i32_w]
               rfl
              refine pure_ (i := 23) (N := some 92) (v := ?_) (a' := ?_) #[true, true, true, true, true, true, true, true, true, true, true, true, true, true, true, true, true, true, true, true, true, true, true, true, false, false, false, false, false, false, false, false, false, false, false] rfl rfl (any_of HT_.out (by kernel_rfl)) (fun _ _ _ h => h) (Or.inl ⟨by rfl, ?_⟩) ?_ ?_
              rotate_left
              ·intro w'
               go_simp
               with_reducible rfl
              rotate_left
              ·simp only [Act.put, lA_, lZ_, lS_, i64_w, i32_w]
               rfl
              refine take_ (i := 24) (N := some 93) (v := ?_) (a' := ?_) #[true, true, true, true, true, true, true, true, true, true, true, true, true, true, true, true, true, true, true, true, true, true, true, true, true, false, false, false, false, false, false, false, false, false, false] rfl rfl (take_ofW HT_.out HW_.out (by kernel_rfl)) (fun _ _ _ h => h) (Or.inl ⟨by rfl, ?_⟩) hHeld ?_ ?_
              rotate_left
              ·rintro w' ⟨s0, s1, s2, s3, s4, s5, s6, s7, s8, s9, s10, s11, s12, s13, s14, s15, s16, s17, s18, s19, s20, s21, s22, s23, s24⟩
               go_simp
               with_reducible rfl
              rotate_left
              ·simp only [Act.put, lA_, lZ_, lS_, i64_w, i32_w]
               rfl
              refine pure_ (i := 25) (N := some 94) (v := ?_) (a' := ?_) #[true, true, true, true, true, true, true, true, true, true, true, true, true, true, true, true, true, true, true, true, true, true, true, true, true, true, false, false, false, false, false, false, false, false, false] rfl rfl (any_of HT_.out (by kernel_rfl)) (fun _ _ _ h => h) (Or.inl ⟨by rfl, ?_⟩) ?_ ?_
              rotate_left
              ·intro w'
               go_simp
               with_reducible rfl
              rotate_left
              ·simp only [Act.put, lA_, lZ_, lS_, i64_w, i32_w]
               rfl
              refine pure_ (i := 26) (N := some 95) (v := ?_) (a' := ?_) #[true, true, true, true, true, true, true, true, true, true, true, true, true, true, true, true, true, true, true, true, true, true, true, true, true, true, true, false, false, false, false, false, false, false, false] rfl rfl (any_of HT_.out (by kernel_rfl)) (fun _ _ _ h => h) (Or.inl ⟨by rfl, ?_⟩) ?_ ?_
              rotate_left
              ·intro w'
               go_simp
               with_reducible rfl
              rotate_left
              ·simp only [Act.put, lA_, lZ_, lS_, i64_w, i32_w]
               rfl
              refine pure_ (i := 27) (N := some 96) (v := ?_) (a' := ?_) #[true, true, true, true, true, true, true, true, true, true, true, true, true, true, true, true, true, true, true, true, true, true, true, true, true, true, true, true, false, false, false, false, false, false, false] rfl rfl (any_of HT_.out (by kernel_rfl)) (fun _ _ _ h => h) (Or.inl ⟨by rfl, ?_⟩) ?_ ?_
              rotate_left
              ·intro w'
               go_simp
               with_reducible rfl
              rotate_left
              ·simp only [Act.put, lA_, lZ_, lS_, i64_w, i32_w]
               rfl
              refine pure_ (i := 28) (N := some 97) (v := ?_) (a' := ?_) #[true, true, true, true, true, true, true, true, true, true, true, true, true, true, true, true, true, true, true, true, true, true, true, true, true, true, true, true, true, false, false, false, false, false, false] rfl rfl (any_of HT_.out (by kernel_rfl)) (fun _ _ _ h => h) (Or.inl ⟨by rfl, ?_⟩) ?_ ?_
              rotate_left
              ·intro w'
               go_simp
               with_reducible rfl
              rotate_left
              ·simp only [Act.put, lA_, lZ_, lS_, i64_w, i32_w]
               rfl
              refine pure_ (i := 29) (N := some 98) (v := ?_) (a' := ?_) #[true, true, true, true, true, true, true, true, true, true, true, true, true, true, true, true, true, true, true, true, true, true, true, true, true, true, true, true, true, true, false, false, false, false, false] rfl rfl (any_of HT_.out (by kernel_rfl)) (fun _ _ _ h => h) (Or.inl ⟨by rfl, ?_⟩) ?_ ?_
              rotate_left
              ·intro w'
               go_simp
               with_reducible rfl
              rotate_left
              ·simp only [Act.put, lA_, lZ_, lS_, i64_w, i32_w]
               rfl
              refine take_ (i := 30) (N := some 99) (v := ?_) (a' := ?_) #[true, true, true, true, true, true, true, true, true, true, true, true, true, true, true, true, true, true, true, true, true, true, true, true, true, true, true, true, true, true, true, false, false, false, false] rfl rfl (take_ofW HT_.out HW_.out (by kernel_rfl)) (fun _ _ _ h => h) (Or.inl ⟨by rfl, ?_⟩) hHeld ?_ ?_
              rotate_left
              ·rintro w' ⟨s0, s1, s2, s3, s4, s5, s6, s7, s8, s9, s10, s11, s12, s13, s14, s15, s16, s17, s18, s19, s20, s21, s22, s23, s24⟩
               go_simp
               with_reducible rfl
              rotate_left
              ·simp only [Act.put, lA_, lZ_, lS_, i64_w, i32_w]
               rfl
              refine pure_ (i := 31) (N := some 100) (v := ?_) (a' := ?_) #[true, true, true, true, true, true, true, true, true, true, true, true, true, true, true, true, true, true, true, true, true, true, true, true, true, true, true, true, true, true, true, true, false, false, false] rfl rfl (any_of HT_.out (by kernel_rfl)) (fun _ _ _ h => h) (Or.inl ⟨by rfl, ?_⟩) ?_ ?_
              rotate_left
              ·intro w'
               go_simp
               with_reducible rfl
              rotate_left
              ·simp only [Act.put, lA_, lZ_, lS_, i64_w, i32_w]
               rfl
              refine one_ (i := 32) (N := some 101) #[true, true, true, true, true, true, true, true, true, true, true, true, true, true, true, true, true, true, true, true, true, true, true, true, true, true, true, true, true, true, true, true, true, false, false] rfl rfl (one_of HT_.out (by kernel_rfl)) (by decide) (fun K hK => ?_)
              refine goes_ Try.func36 (by kernel_rfl) rfl #[.slice ay y1094.length aq] (by rfl) rfl rfl (by (try simp only [List.map_toArray, List.map_cons, List.map_nil]); first | done | rfl | (simp only [List.length_drop, List.length_take]; rfl)) ?_
              with_reducible refine (impl_CheckWords.calls kj20 _ _ y1094 t1098 _ ?side1 ?side2 dc.out).mono ?_
              (case side1 => repeat (first | exact (by repeat (first | (with_reducible exact c4.out) | (with_reducible refine Kd.C_alloc ?_ _) | (with_reducible refine Kd.C_drewN ?_ _) | (with_reducible refine Kd.C_drew ?_) | exact c4.out)) | (with_reducible refine Kd.C_alloc ?_ _) | (with_reducible refine Kd.C_drewN ?_ _) | (with_reducible refine Kd.C_drew ?_)))
              (case side2 => exact ct.out)
              rintro e w' ⟨rfl, ⟨nd, rfl⟩⟩
              refine ⟨_, rfl, ?_⟩
              refine hK.out _ _ ⟨(blk_cell a6.out 0).trans rfl, (blk_cell a6.out 1).trans rfl, (blk_cell a6.out 2).trans rfl, (blk_cell a6.out 3).trans rfl, (blk_cell a6.out 4).trans rfl, (blk_cell a6.out 5).trans rfl, (blk_cell a6.out 6).trans rfl, (blk_cell a6.out 7).trans rfl, (blk_cell a4.out 0).trans rfl, (blk_cell a4.out 1).trans rfl, (blk_cell a4.out 2).trans rfl, (blk_cell a4.out 3).trans rfl, (blk_cell a4.out 4).trans rfl, (blk_cell a4.out 5).trans rfl, (blk_cell a4.out 6).trans rfl, (blk_cell a8.out 0).trans rfl, (blk_cell a8.out 1).trans rfl, (blk_cell a8.out 2).trans rfl, (blk_cell a8.out 3).trans rfl, (blk_cell a8.out 4).trans rfl, (blk_cell a8.out 5).trans rfl, (blk_cell a8.out 6).trans rfl, (blk_cell a8.out 7).trans rfl, (blk_cell a7.out 0).trans rfl, (blk_cell a7.out 1).trans rfl⟩ (fun hHeld => ?_)
              clear hK K
              refine norm_ (a' := ?_) ?_ ?_
              rotate_left
              ·show Act.put _ (some 101) _ = _
               simp only [Act.put, lA_, lZ_, lS_, i64_w, i32_w]
               rfl
              refine pure_ (i := 33) (N := some 102) (v := ?_) (a' := ?_) #[true, true, true, true, true, true, true, true, true, true, true, true, true, true, true, true, true, true, true, true, true, true, true, true, true, true, true, true, true, true, true, true, true, true, false] rfl rfl (any_of HT_.out (by kernel_rfl)) (fun _ _ _ h => h) (Or.inl ⟨by rfl, ?_⟩) ?_ ?_
              rotate_left
              ·intro w'
               go_simp
               with_reducible rfl
              rotate_left
              ·simp only [Act.put, lA_, lZ_, lS_, i64_w, i32_w]
               rfl
              refine pure_ (i := 34) (N := some 2) (v := ?_) (a' := ?_) #[true, true, true, true, true, true, true, true, true, true, true, true, true, true, true, true, true, true, true, true, true, true, true, true, true, true, true, true, true, true, true, true, true, true, true] rfl rfl (any_of HT_.out (by kernel_rfl)) (fun _ _ _ h => h) (Or.inl ⟨by rfl, ?_⟩) ?_ ?_
              rotate_left
              ·intro w'
               go_simp
               with_reducible rfl
              rotate_left
              ·simp only [Act.put, lA_, lZ_, lS_, i64_w, i32_w]
               rfl
              refine done_ (done_of HT_.out (by kernel_rfl)) ?_
              try go_wp2
              go_ret
              exact ⟨by first | rfl | (rw [hr_.out]; first | done | rfl) | (simp [errW_none, errW_some] <;> rfl) | (simp [*, errW_none, errW_some] <;> rfl), by repeat (first | (with_reducible first | exact HB.out | apply lA1_ | apply lN_ | apply lD_ | refine lS1_ ?_ ag.out | refine lS1_ ?_ ak.out | refine lS1_ ?_ ao.out | refine lS1_ ?_ b4.out | refine lS1_ ?_ ba.out) | exact HB.out)⟩
             ·rw [if_neg c57] at H
              exact absurd H (by simp)
            ·rw [if_neg c56] at H
             have c56b0 : decide (20 ≤ (t1055.length : Int)) = false := decide_eq_false c56
             have c56b1 : decide (20 ≤ t1055.length) = false := decide_eq_false (by omega)
             clear c56
             exact absurd (Option.some.inj H) (by decide)
           ·replace c55 := Bool.eq_false_iff.mpr c55
            subst c55
            rw [if_neg (show ¬ (false = true) by decide)] at H
            exact absurd (Option.some.inj H) (by decide)
          ·rw [if_neg c52] at H
           have c52b0 : (t1071 == 0) = false := beq_eq_false_iff_ne.mpr c52
           have c52b1 : (t1071 != 0) = true := bne_iff_ne.mpr c52
           exact absurd (Option.some.inj H) (by decide)
         ·replace c51 := Bool.eq_false_iff.mpr c51
          subst c51
          rw [if_neg (show ¬ (false = true) by decide)] at H
          exact absurd (Option.some.inj H) (by decide)
        ·rw [if_neg c49] at H
         have c49b0 : (t1060 == 0) = false := beq_eq_false_iff_ne.mpr c49
         have c49b1 : (t1060 != 0) = true := bne_iff_ne.mpr c49
         exact absurd (Option.some.inj H) (by decide)
       ·rw [if_neg c46] at H
        have c46b0 : (t1054 == 0) = false := beq_eq_false_iff_ne.mpr c46
        have c46b1 : (t1054 != 0) = true := bne_iff_ne.mpr c46
        replace H := Option.bind_eq_some_iff.mp H
        obtain ⟨t1059, cu, H⟩ := H
        try dsimp only at H
        have dd := Aside0.mk cu
        clear cu
        have hr_ := Aside0.mk (Option.some.inj H)
        clear H
        try go_wp2_with (first | (refine upon_field_ (ty := 22) 1 Try.underlying29 Try.underlying22 rfl rfl rfl ?_) | (refine upon_field_ (ty := 2) 0 Try.underlying36 Try.underlying2 rfl rfl rfl ?_) | (refine upon_fieldA_ (ty := 34) 1 7 (ys := [_, _, _, _, _, _, _]) Try.underlying36 Try.underlying34 (show Try.prog.cellsOf 34 = 7 by kernel_rfl) rfl rfl ?_) | ((with_reducible refine gate_callee (f := 33) rfl ?_); refine goesA_ (some 53) rfl rfl Try.func33 (by kernel_rfl) rfl #[.slice A0 l0.length c0] rfl ?_; (with_reducible refine (spec_DrawBuildPacket.calls kj20 _ _ l0 t1044 t1045 t1046 t1047 t1048 t1049 t1050 _ ?side1 ?side2 cx.out).mono ?_); (case side1 => repeat (first | exact (Kd.C_below bv.out HB.out) | (with_reducible refine Kd.C_alloc ?_ _) | (with_reducible refine Kd.C_drewN ?_ _) | (with_reducible refine Kd.C_drew ?_))); (case side2 => exact bw.out); rintro e w94 ⟨v1051, rfl, ho0, hb⟩; refine ⟨_, rfl, ?_⟩; have n0_ := Aside0.mk (Kd.R_elder' (by (with_reducible repeat first | apply rA_ | apply rN_ | apply rD_); exact a0.out) (Kd.R_base ho0) hb); have n1_ := Aside0.mk (Kd.R_lower (Kd.R_new' ho0 (Kd.R_lt (by (with_reducible repeat first | apply rA_ | apply rN_ | apply rD_); exact a0.out))) (below_size (by repeat (first | (with_reducible first | exact HB.out | apply lA1_ | apply lN_ | apply lD_ | refine lS1_ ?_ ag.out) | exact HB.out)))); have n2_ := Aside0.mk (bB_ (g := a2) (o := .cells #[.int .i64 t1006, .int .i64 t1007, .int .i64 t1008, .int .i64 t1009, .int .i64 t1010, .int .i64 t1011, .int .i64 t1012, .slice ad t1013.length ac] 36 (0, 0)) (by (with_reducible repeat first | apply bN_ | apply bD_ | apply bA_); exact a1.out) hb); have n3_ := Aside0.mk (lP_ (by repeat (first | (with_reducible first | exact HB.out | apply lA1_ | apply lN_ | apply lD_ | refine lS1_ ?_ ag.out) | exact HB.out)) hb); clear a0 a1 HB; have a0 := n0_; have a5 := n1_; have a1 := n2_; have HB := n3_; clear n0_ n1_ n2_ n3_; (try clear hb); (try clear hb2); (try clear hk); (try clear hi); (try clear ho0)) | ((with_reducible refine gate_dst (N := 6) rfl ?_); (try (refine gate_guard (by rfl) ?_; dsimp only)); refine box_event ?hg (N := 6) ?hd (cs := zs6) (t := 34) ?hr ?_; (case hd => rfl); (case hg => rfl); (case hr => first | (go_simp; done) | (go_simp; rfl)); intro ab hg w95 hbox hb; have n0_ := Aside0.mk (Kd.R_below a0.out hb); have n1_ := Aside0.mk (Kd.R_below a5.out hb); have n2_ := Aside0.mk (bB_ a1.out hb); have n3_ := Aside0.mk (lP_ HB.out hb); have n4_ := Aside0.mk (hbox); have n6_ := Aside0.mk ((by rw [hg]; exact (below_size HB.out) : w.heap.size ≤ ab)); have n7_ := Aside0.mk ((by rw [hg]; exact Nat.ne_of_lt (blk_lt a1.out) : a2 ≠ ab)); have n8_ := Aside0.mk n7_.out.symm; clear a0 a5 a1 HB; have a0 := n0_; have a5 := n1_; have a1 := n2_; have HB := n3_; have a4 := n4_; have ak := n6_; have az := n7_; have b6 := n8_; clear n0_ n1_ n2_ n3_ n4_ n6_ n7_ n8_ hb hbox hg; have f6 := b6.out; have f7 := az.out; obtain ⟨_, _, _, _, _, _, _, _, _, _, _, _, _, _⟩ := bc7 a4.out; obtain ⟨bc, b9, eo98⟩ := Kd.R_slice a5.out; subst eo98) | ((with_reducible refine gate_callee (f := 31) rfl ?_); refine goesA_ (some 55) rfl rfl Try.func31 (by kernel_rfl) rfl #[.agg #[.int .i64 t1044, .int .i64 t1045, .int .i64 t1046, .int .i64 t1047, .int .i64 t1048, .int .i64 t1049, .slice bc t1050.length b9]] rfl ?_; (with_reducible refine (impl_BuildPacket.calls kj20 t1044 t1045 t1046 t1047 t1048 t1049 _ _ t1050 t1054 t1055 _ ?side1 ?side2 cy.out).mono ?_); (case side1 => refine (Kd.R_reads' (e := 5) (base := w.heap.size) (ok := fun k_ => (True ∧ some k_ ≠ (.slice ad t1013.length ac : Value).ownBlock)) (n := t1050.length) (c := b9) ?_).2.2; exact (Kd.R_mono (rfar7 (g := ab) (Kd.R_types a5.out a4.out (by decide)) (fun _ hk => hk.2)) (fun _ h_ => h_.1))); (case side2 => exact (Kd.R_reads' a5.out).2.1); rintro e w99 ⟨v1056, rfl, ho0, hb⟩; refine ⟨_, rfl, ?_⟩; have n0_ := Aside0.mk (Kd.R_elder' (Kd.R_mono (rfar7 (g := ab) (Kd.R_types a0.out a4.out (by decide)) (fun _ hk => hk.2)) (fun _ h_ => h_.1)) (Kd.R_base ho0) hb); have n1_ := Aside0.mk (Kd.R_elder' (Kd.R_mono (rfar7 (g := ab) (Kd.R_types a5.out a4.out (by decide)) (fun _ hk => hk.2)) (fun _ h_ => h_.1)) (Kd.R_base ho0) hb); have n2_ := Aside0.mk (Kd.R_lower (Kd.R_new' (Kd.R_new' ho0 (Kd.R_lt (Kd.R_mono (rfar7 (g := ab) (Kd.R_types a0.out a4.out (by decide)) (fun _ hk => hk.2)) (fun _ h_ => h_.1)))) (Kd.R_lt (Kd.R_mono (rfar7 (g := ab) (Kd.R_types a5.out a4.out (by decide)) (fun _ hk => hk.2)) (fun _ h_ => h_.1)))) (below_size (by repeat (first | (with_reducible first | exact HB.out | refine lS1_ ?_ ag.out | refine lS1_ ?_ ak.out) | exact HB.out)))); have n3_ := Aside0.mk (bB_ (g := a2) (o := .cells #[.int .i64 t1006, .int .i64 t1007, .int .i64 t1008, .int .i64 t1009, .int .i64 t1010, .int .i64 t1011, .int .i64 t1012, .slice ad t1013.length ac] 36 (0, 0)) (by (iterate 7 (refine bF_ ?_ az.out _)); exact a1.out) hb); have n4_ := Aside0.mk (bB_ (g := ab) (o := .cells #[.int .i64 t1044, .int .i64 t1045, .int .i64 t1046, .int .i64 t1047, .int .i64 t1048, .int .i64 t1049, .slice bc t1050.length b9] 34 (0, 0)) (by apply fill7; exact a4.out) hb); have n5_ := Aside0.mk (lP_ (by repeat (first | (with_reducible first | exact HB.out | refine lS1_ ?_ ag.out | refine lS1_ ?_ ak.out) | exact HB.out)) hb); clear a0 a5 a1 a4 HB; have a0 := n0_; have a5 := n1_; have a9 := n2_; have a1 := n3_; have a4 := n4_; have HB := n5_; clear n0_ n1_ n2_ n3_ n4_ n5_; (try clear hb); (try clear hb2); (try clear hk); (try clear hi); (try clear ho0)) | ((with_reducible refine gate_dst (N := 7) rfl ?_); (try (refine gate_guard (by rfl) ?_; dsimp only)); refine box_event ?hg (N := 7) ?hd (cs := #[.int .i64 0, .slice none 0 0]) (t := 29) ?hr ?_; (case hd => rfl); (case hg => rfl); (case hr => first | (go_simp; done) | (go_simp; rfl)); intro aa hg w100 hbox hb; have n0_ := Aside0.mk (Kd.R_below a0.out hb); have n1_ := Aside0.mk (Kd.R_below a5.out hb); have n2_ := Aside0.mk (Kd.R_below a9.out hb); have n3_ := Aside0.mk (bB_ a1.out hb); have n4_ := Aside0.mk (bB_ a4.out hb); have n5_ := Aside0.mk (lP_ HB.out hb); have n6_ := Aside0.mk (hbox); have n8_ := Aside0.mk ((by rw [hg]; exact (below_size HB.out) : w.heap.size ≤ aa)); have n9_ := Aside0.mk ((by rw [hg]; exact Nat.ne_of_lt (blk_lt a1.out) : a2 ≠ aa)); have n10_ := Aside0.mk n9_.out.symm; have n11_ := Aside0.mk ((by rw [hg]; exact Nat.ne_of_lt (blk_lt a4.out) : ab ≠ aa)); have n12_ := Aside0.mk n11_.out.symm; clear a0 a5 a9 a1 a4 HB; have a0 := n0_; have a5 := n1_; have a9 := n2_; have a1 := n3_; have a4 := n4_; have HB := n5_; have a7 := n6_; have ao := n8_; have b0 := n9_; have b7 := n10_; have b1 := n11_; have b8 := n12_; clear n0_ n1_ n2_ n3_ n4_ n5_ n6_ n8_ n9_ n10_ n11_ n12_ hb hbox hg; have de := b7.out; have df := b0.out; have dg := b8.out; have dh := b1.out; obtain ⟨_, _, _, _⟩ := bc2 a7.out; obtain ⟨aw, ax, eo104⟩ := Kd.R_slice a9.out; subst eo104))
        have n0_ : Aside0 (Kd.R (Kd.int .u8) 5 ((w100.setCell ⟨aa, 0, none⟩ (.int .i64 t1054)).setCell ⟨aa, 1, none⟩ (.slice aw t1055.length ax)) w.heap.size (fun k_ => some k_ ≠ (.slice bc t1050.length b9 : Value).ownBlock ∧ some k_ ≠ (.slice aw t1055.length ax : Value).ownBlock) (.slice ad t1013.length ac) t1013) := ⟨by (with_reducible repeat first | apply rA_ | apply rN_ | apply rD_); exact Kd.R_mono (rfar2 (g := aa) (Kd.R_types a0.out a7.out (by decide)) (fun _ hk => hk.2)) (fun _ hk => ⟨hk.1.1.2, hk.1.2⟩)⟩
        have n1_ : Aside0 (Kd.R (Kd.int .u8) 5 ((w100.setCell ⟨aa, 0, none⟩ (.int .i64 t1054)).setCell ⟨aa, 1, none⟩ (.slice aw t1055.length ax)) w.heap.size (fun k_ => some k_ ≠ (.slice ad t1013.length ac : Value).ownBlock ∧ some k_ ≠ (.slice aw t1055.length ax : Value).ownBlock) (.slice bc t1050.length b9) t1050) := ⟨by (with_reducible repeat first | apply rA_ | apply rN_ | apply rD_); exact Kd.R_mono (rfar2 (g := aa) (Kd.R_types a5.out a7.out (by decide)) (fun _ hk => hk.2)) (fun _ hk => ⟨hk.1.1.2, hk.1.2⟩)⟩
        have n2_ : Aside0 (Kd.R (Kd.int .u8) 5 ((w100.setCell ⟨aa, 0, none⟩ (.int .i64 t1054)).setCell ⟨aa, 1, none⟩ (.slice aw t1055.length ax)) w.heap.size (fun k_ => some k_ ≠ (.slice ad t1013.length ac : Value).ownBlock ∧ some k_ ≠ (.slice bc t1050.length b9 : Value).ownBlock) (.slice aw t1055.length ax) t1055) := ⟨by (with_reducible repeat first | apply rA_ | apply rN_ | apply rD_); exact Kd.R_mono (rfar2 (g := aa) (Kd.R_types a9.out a7.out (by decide)) (fun _ hk => hk.2)) (fun _ hk => ⟨hk.1.1.2, hk.1.2⟩)⟩
        have n3_ : Aside0 (((w100.setCell ⟨aa, 0, none⟩ (.int .i64 t1054)).setCell ⟨aa, 1, none⟩ (.slice aw t1055.length ax)).heap[a2]? = some (.cells #[.int .i64 t1006, .int .i64 t1007, .int .i64 t1008, .int .i64 t1009, .int .i64 t1010, .int .i64 t1011, .int .i64 t1012, .slice ad t1013.length ac] 36 (0, 0))) := ⟨by (iterate 2 ((with_reducible repeat first | apply bN_ | apply bD_ | apply bA_); refine bF_ ?_ b0.out _)); (with_reducible repeat first | apply bN_ | apply bD_ | apply bA_); exact a1.out⟩
        have n4_ : Aside0 (((w100.setCell ⟨aa, 0, none⟩ (.int .i64 t1054)).setCell ⟨aa, 1, none⟩ (.slice aw t1055.length ax)).heap[ab]? = some (.cells #[.int .i64 t1044, .int .i64 t1045, .int .i64 t1046, .int .i64 t1047, .int .i64 t1048, .int .i64 t1049, .slice bc t1050.length b9] 34 (0, 0))) := ⟨by (iterate 2 ((with_reducible repeat first | apply bN_ | apply bD_ | apply bA_); refine bF_ ?_ b1.out _)); (with_reducible repeat first | apply bN_ | apply bD_ | apply bA_); exact a4.out⟩
        have n5_ : Aside0 (((w100.setCell ⟨aa, 0, none⟩ (.int .i64 t1054)).setCell ⟨aa, 1, none⟩ (.slice aw t1055.length ax)).heap[aa]? = some (.cells #[.int .i64 t1054, .slice aw t1055.length ax] 29 (0, 0))) := ⟨by (with_reducible repeat first | apply bN_ | apply bD_ | apply bA_); apply fill2; (with_reducible repeat first | apply bN_ | apply bD_ | apply bA_); exact a7.out⟩
        have n6_ : Aside0 (Below w.heap.size w ((w100.setCell ⟨aa, 0, none⟩ (.int .i64 t1054)).setCell ⟨aa, 1, none⟩ (.slice aw t1055.length ax))) := ⟨by repeat (first | (with_reducible first | exact HB.out | apply lA1_ | apply lN_ | apply lD_ | refine lS1_ ?_ ag.out | refine lS1_ ?_ ak.out | refine lS1_ ?_ ao.out) | exact HB.out)⟩
        (try clear a0)
        (try clear a5)
        (try clear a9)
        (try clear a1)
        (try clear a4)
        (try clear a7)
        (try clear HB)
        generalize ((w100.setCell ⟨aa, 0, none⟩ (.int .i64 t1054)).setCell ⟨aa, 1, none⟩ (.slice aw t1055.length ax)) = w105 at n0_ n1_ n2_ n3_ n4_ n5_ n6_ ⊢
        have a0 := n0_
        have a5 := n1_
        have a9 := n2_
        have a1 := n3_
        have a4 := n4_
        have a7 := n5_
        have HB := n6_
        clear n0_ n1_ n2_ n3_ n4_ n5_ n6_
        have n0_ := Aside0.mk (rD_ a0.out)
        have n1_ := Aside0.mk (rD_ a5.out)
        have n2_ := Aside0.mk (rD_ a9.out)
        have n3_ := Aside0.mk (bD_ a1.out)
        have n4_ := Aside0.mk (bD_ a4.out)
        have n5_ := Aside0.mk (bD_ a7.out)
        have n6_ := Aside0.mk (lD_ HB.out)
        clear a0
        clear a5
        clear a9
        clear a1
        clear a4
        clear a7
        clear HB
        have a0 := n0_
        have a5 := n1_
        have a9 := n2_
        have a1 := n3_
        have a4 := n4_
        have a7 := n5_
        have HB := n6_
        clear n0_ n1_ n2_ n3_ n4_ n5_ n6_
        refine start_ (n := 6) (S := fun w' => w'.cell? ⟨ab, 0, none⟩ = some (.int .i64 t1044) ∧ w'.cell? ⟨ab, 1, none⟩ = some (.int .i64 t1045) ∧ w'.cell? ⟨ab, 2, none⟩ = some (.int .i64 t1046) ∧ w'.cell? ⟨ab, 3, none⟩ = some (.int .i64 t1047) ∧ w'.cell? ⟨ab, 4, none⟩ = some (.int .i64 t1048) ∧ w'.cell? ⟨ab, 5, none⟩ = some (.int .i64 t1049) ∧ w'.cell? ⟨ab, 6, none⟩ = some (.slice bc t1050.length b9) ∧ w'.cell? ⟨aa, 0, none⟩ = some (.int .i64 t1054) ∧ w'.cell? ⟨aa, 1, none⟩ = some (.slice aw t1055.length ax)) (ds := []) #[false, false, false, false, false, false] (by kernel_rfl) rfl rfl ⟨(blk_cell a4.out 0).trans rfl, (blk_cell a4.out 1).trans rfl, (blk_cell a4.out 2).trans rfl, (blk_cell a4.out 3).trans rfl, (blk_cell a4.out 4).trans rfl, (blk_cell a4.out 5).trans rfl, (blk_cell a4.out 6).trans rfl, (blk_cell a7.out 0).trans rfl, (blk_cell a7.out 1).trans rfl⟩ (fun hHeld => ?_)
        generalize w105.drew = w106 at a0 a5 a9 a1 a4 a7 HB hHeld ⊢
        refine pure_ (i := 2) (N := some 61) (v := ?_) (a' := ?_) #[false, false, true, false, false, false] rfl rfl (by kernel_rfl) (fun _ _ _ h => h) (Or.inl ⟨by rfl, ?_⟩) ?_ ?_
        rotate_left
        ·intro w'
         go_simp
         with_reducible rfl
        rotate_left
        ·simp only [Act.put, lA_, lZ_, lS_, i64_w, i32_w]
         rfl
        refine take_ (i := 0) (N := some 59) (v := ?_) (a' := ?_) #[true, false, true, false, false, false] rfl rfl (by kernel_rfl) (fun _ _ _ h => h) (Or.inl ⟨by rfl, ?_⟩) hHeld ?_ ?_
        rotate_left
        ·rintro w' ⟨s0, s1, s2, s3, s4, s5, s6, s7, s8⟩
         go_simp
         with_reducible rfl
        rotate_left
        ·simp only [Act.put, lA_, lZ_, lS_, i64_w, i32_w]
         rfl
        refine take_ (i := 3) (N := some 62) (v := ?_) (a' := ?_) #[true, false, true, true, false, false] rfl rfl (by kernel_rfl) (fun _ _ _ h => h) (Or.inl ⟨by rfl, ?_⟩) hHeld ?_ ?_
        rotate_left
        ·rintro w' ⟨s0, s1, s2, s3, s4, s5, s6, s7, s8⟩
         go_simp
         with_reducible rfl
        rotate_left
        ·simp only [Act.put, lA_, lZ_, lS_, i64_w, i32_w]
         rfl
        refine one_ (i := 1) (N := some 60) #[true, true, true, true, false, false] rfl rfl (by kernel_rfl) (by decide) (fun K hK => ?_)
        refine goes_ Try.func34 (by kernel_rfl) rfl #[.agg #[.int .i64 t1044, .int .i64 t1045, .int .i64 t1046, .int .i64 t1047, .int .i64 t1048, .int .i64 t1049, .slice bc t1050.length b9]] (by rfl) rfl rfl (by (try simp only [List.map_toArray, List.map_cons, List.map_nil]); first | done | rfl | (simp only [List.length_drop, List.length_take]; rfl)) ?_
        with_reducible refine (spec_PacketFault.calls kj20 t1044 t1045 t1046 t1047 t1048 t1049 _ _ t1050 t1059 _ ?side1 ?side2 dd.out).mono ?_
        (case side1 => repeat (first | exact (Kd.R_reads' a5.out).2.2 | (with_reducible refine Kd.C_alloc ?_ _) | (with_reducible refine Kd.C_drewN ?_ _) | (with_reducible refine Kd.C_drew ?_)))
        (case side2 => exact (Kd.R_reads' a5.out).2.1)
        rintro e w107 ⟨rfl, hb⟩
        refine ⟨_, rfl, ?_⟩
        have n0_ := Aside0.mk (Kd.R_below (by (with_reducible repeat first | apply rA_ | apply rN_ | apply rD_); exact a0.out) hb)
        have n1_ := Aside0.mk (Kd.R_below (by (with_reducible repeat first | apply rA_ | apply rN_ | apply rD_); exact a5.out) hb)
        have n2_ := Aside0.mk (Kd.R_below (by (with_reducible repeat first | apply rA_ | apply rN_ | apply rD_); exact a9.out) hb)
        have n3_ := Aside0.mk (bB_ (g := a2) (o := .cells #[.int .i64 t1006, .int .i64 t1007, .int .i64 t1008, .int .i64 t1009, .int .i64 t1010, .int .i64 t1011, .int .i64 t1012, .slice ad t1013.length ac] 36 (0, 0)) (by (with_reducible repeat first | apply bN_ | apply bD_ | apply bA_); exact a1.out) hb)
        have n4_ := Aside0.mk (bB_ (g := ab) (o := .cells #[.int .i64 t1044, .int .i64 t1045, .int .i64 t1046, .int .i64 t1047, .int .i64 t1048, .int .i64 t1049, .slice bc t1050.length b9] 34 (0, 0)) (by (with_reducible repeat first | apply bN_ | apply bD_ | apply bA_); exact a4.out) hb)
        have n5_ := Aside0.mk (bB_ (g := aa) (o := .cells #[.int .i64 t1054, .slice aw t1055.length ax] 29 (0, 0)) (by (with_reducible repeat first | apply bN_ | apply bD_ | apply bA_); exact a7.out) hb)
        have n6_ := Aside0.mk (lP_ (by repeat (first | (with_reducible first | exact HB.out | apply lA1_ | apply lN_ | apply lD_ | refine lS1_ ?_ ag.out | refine lS1_ ?_ ak.out | refine lS1_ ?_ ao.out) | exact HB.out)) hb)
        clear a0
        clear a5
        clear a9
        clear a1
        clear a4
        clear a7
        clear HB
        have a0 := n0_
        have a5 := n1_
        have a9 := n2_
        have a1 := n3_
        have a4 := n4_
        have a7 := n5_
        have HB := n6_
        clear n0_ n1_ n2_ n3_ n4_ n5_ n6_
        (try clear hb)
        (try clear hb2)
        (try clear hk)
        (try clear hi)
        refine hK.out _ _ ⟨(blk_cell a4.out 0).trans rfl, (blk_cell a4.out 1).trans rfl, (blk_cell a4.out 2).trans rfl, (blk_cell a4.out 3).trans rfl, (blk_cell a4.out 4).trans rfl, (blk_cell a4.out 5).trans rfl, (blk_cell a4.out 6).trans rfl, (blk_cell a7.out 0).trans rfl, (blk_cell a7.out 1).trans rfl⟩ (fun hHeld => ?_)
        clear hK K
        refine norm_ (a' := ?_) ?_ ?_
        rotate_left
        ·show Act.put _ (some 60) _ = _
         simp only [Act.put, lA_, lZ_, lS_, i64_w, i32_w]
         rfl
        refine pure_ (i := 4) (N := some 63) (v := ?_) (a' := ?_) #[true, true, true, true, true, false] rfl rfl (by kernel_rfl) (fun _ _ _ h => h) (Or.inl ⟨by rfl, ?_⟩) ?_ ?_
        rotate_left
        ·intro w'
         go_simp
         with_reducible rfl
        rotate_left
        ·simp only [Act.put, lA_, lZ_, lS_, i64_w, i32_w]
         rfl
        refine pure_ (i := 5) (N := some 2) (v := ?_) (a' := ?_) #[true, true, true, true, true, true] rfl rfl (by kernel_rfl) (fun _ _ _ h => h) (Or.inl ⟨by rfl, ?_⟩) ?_ ?_
        rotate_left
        ·intro w'
         go_simp
         with_reducible rfl
        rotate_left
        ·simp only [Act.put, lA_, lZ_, lS_, i64_w, i32_w]
         rfl
        refine done_ (by kernel_rfl) ?_
        try go_wp2
        go_ret
        exact ⟨by first | rfl | (rw [hr_.out]; first | done | rfl) | (simp [errW_none, errW_some] <;> rfl) | (simp [*, errW_none, errW_some] <;> rfl), by repeat (first | (with_reducible first | exact HB.out | apply lA1_ | apply lN_ | apply lD_ | refine lS1_ ?_ ag.out | refine lS1_ ?_ ak.out | refine lS1_ ?_ ao.out) | exact HB.out)⟩
end Go.Proofs.Ytidejdfbapjfiaa.G
