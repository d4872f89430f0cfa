/- Part 6 of the proof of FnExactKnownTo: what the functions on its road do, and the plain laws. -/
import Derived.Test.YtcafikgabidphaaGreatCFnExactKnownTo5
namespace Go.Proofs.YtcafikgabidphaaGreat.G
open Go.RowKit Go.Proofs.YtcafikgabidphaaGreatW.PrintWords Go.Proofs.YtcafikgabidphaaGreatW.PrintLast Go.Proofs.YtcafikgabidphaaGreatW.PrintMore
attribute [local go_sem] max2_int min2_int max_two min_two max_three min_three max_four min_four   -- for this text's walks alone
set_option linter.unusedVariables false
set_option linter.unusedSimpArgs false
def laws_FnExactKnownTo.j0 : Nat → Bool → List (S85) → List (S71) → List Int → List Int → List (S90) → List (S90) → Int → List Int → Int → List Int → Option (Bool)
 | 0,_,_,_,_,_,_,_,_,_,_,_ => none
 | k + 1,x42,x546000,x546001,x546002,x546003,x546004,x546005,x570000,x570001,x594000,x594001 => if x42 = true then (some false) else ((laws_markIntsResult.f k x594000 x594001 1).bind fun bt616 => ((laws_heldIntsResult.f k x594000 bt616.2 1).bind fun t618 => (if t618 < 0 then (some false) else (if t618 = bt616.1 then ((laws_toNet.f k x546000 x546001 x546002 x546003 x546004 x546005).bind fun bt619 => ((impl_KnownTo.f k bt619.1 bt619.2.1 bt619.2.2.1 bt619.2.2.2.1 bt619.2.2.2.2.1 bt619.2.2.2.2.2).bind fun bt637 => ((laws_eqIntsResult.f k bt637.1 bt637.2 x570000 x570001).bind fun t642 => (if t642 = true then ((laws_heldIntsResult.f k x594000 bt616.2 1).bind fun t643 => (if t643 < 0 then (some false) else (if t643 = bt616.1 then (some true) else (some false)))) else (some false))))) else (some false)))))
def laws_FnExactKnownTo.f (k : Nat) (l0_0 : List (S85)) (l0_1 : List (S71)) (l0_2 l0_3 : List Int) (l0_4 l0_5 : List (S90)) : Option (Bool):=(laws_szNet.f k l0_0 l0_1 l0_2 l0_3 l0_4 l0_5 1048576).bind fun t546 => (if t546 < 0 then (some true) else ((laws_toNet.f k l0_0 l0_1 l0_2 l0_3 l0_4 l0_5).bind fun bt547 => ((spec_KnownTo.f k bt547.1 bt547.2.1 bt547.2.2.1 bt547.2.2.2.1 bt547.2.2.2.2.1 bt547.2.2.2.2.2).bind fun bt565 => ((laws_toNet.f k l0_0 l0_1 l0_2 l0_3 l0_4 l0_5).bind fun bt570 => ((impl_KnownTo.f k bt570.1 bt570.2.1 bt570.2.2.1 bt570.2.2.2.1 bt570.2.2.2.2.1 bt570.2.2.2.2.2).bind fun bt589 => ((laws_eqIntsResult.f k bt589.1 bt589.2 bt565.1 bt565.2).bind fun t594 => (if t594 = true then ((laws_toNet.f k l0_0 l0_1 l0_2 l0_3 l0_4 l0_5).bind fun bt595 => ((laws_eqNet.f k bt570.1 bt570.2.1 bt570.2.2.1 bt570.2.2.2.1 bt570.2.2.2.2.1 bt570.2.2.2.2.2 bt595.1 bt595.2.1 bt595.2.2.1 bt595.2.2.2.1 bt595.2.2.2.2.1 bt595.2.2.2.2.2).bind fun t613 => (if t613 = true then ((laws_markNet.f k bt570.1 bt570.2.1 bt570.2.2.1 bt570.2.2.2.1 bt570.2.2.2.2.1 bt570.2.2.2.2.2 1).bind fun t614 => (if t614 < 0 then (laws_FnExactKnownTo.j0 k true l0_0 l0_1 l0_2 l0_3 l0_4 l0_5 bt565.1 bt565.2 bt589.1 bt589.2) else ((laws_eqIntsResult.f k bt589.1 bt589.2 bt565.1 bt565.2).bind fun t615 => (laws_FnExactKnownTo.j0 k (!t615) l0_0 l0_1 l0_2 l0_3 l0_4 l0_5 bt565.1 bt565.2 bt589.1 bt589.2)))) else (some false)))) else (some false))))))))
set_option maxHeartbeats 8000000 in
set_option maxRecDepth 100000 in
theorem laws_FnExactKnownTo.calls (k : Nat) (A0_0 : Option Addr) (c0_0 : Nat) (l0_0 : List (S85)) (A0_1 : Option Addr) (c0_1 : Nat) (l0_1 : List (S71)) (A0_2 : Option Addr) (c0_2 : Nat) (l0_2 : List Int) (A0_3 : Option Addr) (c0_3 : Nat) (l0_3 : List Int) (A0_4 : Option Addr) (c0_4 : Nat) (l0_4 : List (S90)) (A0_5 : Option Addr) (c0_5 : Nat) (l0_5 : List (S90)) (w : World) (hr0_0 : Kd.C k85 w A0_0 l0_0.length l0_0) (hc0_0 : l0_0.length ≤ c0_0) (hr0_1 : Kd.C k71 w A0_1 l0_1.length l0_1) (hc0_1 : l0_1.length ≤ c0_1) (hr0_2 : Kd.C (Kd.int .i64) w A0_2 l0_2.length l0_2) (hc0_2 : l0_2.length ≤ c0_2) (hr0_3 : Kd.C (Kd.int .i64) w A0_3 l0_3.length l0_3) (hc0_3 : l0_3.length ≤ c0_3) (hr0_4 : Kd.C k90 w A0_4 l0_4.length l0_4) (hc0_4 : l0_4.length ≤ c0_4) (hr0_5 : Kd.C k90 w A0_5 l0_5.length l0_5) (hc0_5 : l0_5.length ≤ c0_5) (h : laws_FnExactKnownTo.f k l0_0 l0_1 l0_2 l0_3 l0_4 l0_5 = some true) :
  Calls Tryz.prog 4 #[.agg #[.slice A0_0 l0_0.length c0_0,.slice A0_1 l0_1.length c0_1,.slice A0_2 l0_2.length c0_2,.slice A0_3 l0_3.length c0_3,.slice A0_4 l0_4.length c0_4,.slice A0_5 l0_5.length c0_5]] w fun e w' => e = .returned (.bool true) ∧ Below w.heap.size w w':=by
 have hu27:=Tryz.underlying27
 have hu39:=Tryz.underlying39
 have hu34:=Tryz.underlying34
 have HR0_0:=Z_ hr0_0
 have HC0_0:=Z_ hc0_0
 clear hr0_0 hc0_0
 have HR0_1:=Z_ hr0_1
 have HC0_1:=Z_ hc0_1
 clear hr0_1 hc0_1
 have HR0_2:=Z_ hr0_2
 have HC0_2:=Z_ hc0_2
 clear hr0_2 hc0_2
 have HR0_3:=Z_ hr0_3
 have HC0_3:=Z_ hc0_3
 clear hr0_3 hc0_3
 have HR0_4:=Z_ hr0_4
 have HC0_4:=Z_ hc0_4
 clear hr0_4 hc0_4
 have HR0_5:=Z_ hr0_5
 have HC0_5:=Z_ hc0_5
 clear hr0_5 hc0_5
 have HB:=Z_ (Below.refl w.heap.size w)
 unfold laws_FnExactKnownTo.f at h
 have H:=h
 clear h
 replace H:=bS_ H
 obtain ⟨t546,A2,H⟩:=H
 replace H:=iC_ H
 obtain ⟨c3,H⟩ | ⟨c3,H⟩:=H
 ·have c3b0 : decide (t546 < 0) = true:=decide_eq_true c3
  clear c3
  clear H
  go_enter Tryz.func4,Tryz.ntmps4
  go_wp2_with (first | ((with_reducible refine gD_ 1 rfl ?_);refine bx_ #[.slice A0_0 l0_0.length c0_0,.slice A0_1 l0_1.length c0_1,.slice A0_2 l0_2.length c0_2,.slice A0_3 l0_3.length c0_3,.slice A0_4 l0_4.length c0_4,.slice A0_5 l0_5.length c0_5] 27 ?_;intro ap hg w4 hbox hb;have a0:=Z_ hbox;have ah:=Z_ ((by rw [hg];exact (below_size HB.out) : w.heap.size ≤ ap));replace HB:=Z_ (lP_ HB.out hb);clear hb hbox hg;obtain ⟨_,_,_,_,_,_,_,_,_,_,_,_⟩:=bc6 a0.out) | ((with_reducible refine gate_callee (f:=5) rfl ?_);refine goesA_ (some 13) rfl rfl Tryz.func5 (by kernel_rfl) rfl #[.agg #[.slice A0_0 l0_0.length c0_0,.slice A0_1 l0_1.length c0_1,.slice A0_2 l0_2.length c0_2,.slice A0_3 l0_3.length c0_3,.slice A0_4 l0_4.length c0_4,.slice A0_5 l0_5.length c0_5],.int .i64 1048576] rfl ?_;(with_reducible refine (laws_szNet.calls k _ _ l0_0 _ _ l0_1 _ _ l0_2 _ _ l0_3 _ _ l0_4 _ _ l0_5 1048576 t546 _ ?side1 ?side2 ?side3 ?side4 ?side5 ?side6 ?side7 ?side8 ?side9 ?side10 ?side11 ?side12 A2.out).mono ?_);(case side1 => exact Cb_ HR0_0);(case side2 => exact HC0_0.out);(case side3 => exact Cb_ HR0_1);(case side4 => exact HC0_1.out);(case side5 => exact Cb_ HR0_2);(case side6 => exact HC0_2.out);(case side7 => exact Cb_ HR0_3);(case side8 => exact HC0_3.out);(case side9 => exact Cb_ HR0_4);(case side10 => exact HC0_4.out);(case side11 => exact Cb_ HR0_5);(case side12 => exact HC0_5.out);rintro e w6 ⟨rfl,hb⟩;refine ⟨_,rfl,?_⟩;replace HB:=Z_ (lP_ Lb_ hb);(try clear hb)))
  go_ret
  exact ⟨by first | rfl | (rw [hr_.out];first | done | rfl) | (simp [errW_none,errW_some] <;> rfl) | (simp [*,errW_none,errW_some] <;> rfl),Lb_⟩
 have c3b0 : decide (t546 < 0) = false:=decide_eq_false c3
 clear c3
 replace H:=bS_ H
 obtain ⟨⟨t547,t550,t553,t556,t559,t562⟩,A7,H⟩:=H
 try dsimp only at H
 replace H:=bS_ H
 obtain ⟨⟨t565,t566⟩,A8,H⟩:=H
 try dsimp only at H
 replace H:=bS_ H
 obtain ⟨⟨t570,t573,t576,t579,t582,t585⟩,A9,H⟩:=H
 try dsimp only at H
 replace H:=bS_ H
 obtain ⟨⟨t589,t590⟩,f2,H⟩:=H
 try dsimp only at H
 replace H:=bS_ H
 obtain ⟨t594,f3,H⟩:=H
 replace H:=iB_ H
 obtain ⟨rfl,H⟩ | ⟨rfl,H⟩:=H
 replace H:=bS_ H
 obtain ⟨⟨t595,t598,t601,t604,t607,t610⟩,f4,H⟩:=H
 try dsimp only at H
 replace H:=bS_ H
 obtain ⟨t613,f5,H⟩:=H
 replace H:=iB_ H
 obtain ⟨rfl,H⟩ | ⟨rfl,H⟩:=H
 ·replace H:=bS_ H
  obtain ⟨t614,f6,H⟩:=H
  have d0:=Z_ H
  clear H
  go_enter Tryz.func4,Tryz.ntmps4
  try go_wp2_with (first | ((with_reducible refine gD_ 1 rfl ?_);refine bx_ #[.slice A0_0 l0_0.length c0_0,.slice A0_1 l0_1.length c0_1,.slice A0_2 l0_2.length c0_2,.slice A0_3 l0_3.length c0_3,.slice A0_4 l0_4.length c0_4,.slice A0_5 l0_5.length c0_5] 27 ?_;intro ap hg w18 hbox hb;have a0:=Z_ hbox;have ah:=Z_ ((by rw [hg];exact (below_size HB.out) : w.heap.size ≤ ap));replace HB:=Z_ (lP_ HB.out hb);clear hb hbox hg;obtain ⟨_,_,_,_,_,_,_,_,_,_,_,_⟩:=bc6 a0.out) | ((with_reducible refine gate_callee (f:=5) rfl ?_);refine goesA_ (some 13) rfl rfl Tryz.func5 (by kernel_rfl) rfl #[.agg #[.slice A0_0 l0_0.length c0_0,.slice A0_1 l0_1.length c0_1,.slice A0_2 l0_2.length c0_2,.slice A0_3 l0_3.length c0_3,.slice A0_4 l0_4.length c0_4,.slice A0_5 l0_5.length c0_5],.int .i64 1048576] rfl ?_;(with_reducible refine (laws_szNet.calls k _ _ l0_0 _ _ l0_1 _ _ l0_2 _ _ l0_3 _ _ l0_4 _ _ l0_5 1048576 t546 _ ?side1 ?side2 ?side3 ?side4 ?side5 ?side6 ?side7 ?side8 ?side9 ?side10 ?side11 ?side12 A2.out).mono ?_);(case side1 => exact Cb_ HR0_0);(case side2 => exact HC0_0.out);(case side3 => exact Cb_ HR0_1);(case side4 => exact HC0_1.out);(case side5 => exact Cb_ HR0_2);(case side6 => exact HC0_2.out);(case side7 => exact Cb_ HR0_3);(case side8 => exact HC0_3.out);(case side9 => exact Cb_ HR0_4);(case side10 => exact HC0_4.out);(case side11 => exact Cb_ HR0_5);(case side12 => exact HC0_5.out);rintro e w20 ⟨rfl,hb⟩;refine ⟨_,rfl,?_⟩;replace a0:=Z_ (bB_ a0.out hb);replace HB:=Z_ (lP_ HB.out hb);(try clear hb);obtain ⟨_,_,_,_,_,_,_,_,_,_,_,_⟩:=bc6 a0.out) | ((with_reducible refine gate_callee (f:=7) rfl ?_);refine goesA_ (some 17) rfl rfl Tryz.func7 (by kernel_rfl) rfl #[.agg #[.slice A0_0 l0_0.length c0_0,.slice A0_1 l0_1.length c0_1,.slice A0_2 l0_2.length c0_2,.slice A0_3 l0_3.length c0_3,.slice A0_4 l0_4.length c0_4,.slice A0_5 l0_5.length c0_5]] rfl ?_;(with_reducible refine (laws_toNet.calls k _ _ l0_0 _ _ l0_1 _ _ l0_2 _ _ l0_3 _ _ l0_4 _ _ l0_5 t547 t550 t553 t556 t559 t562 _ ?side1 ?side2 ?side3 ?side4 ?side5 ?side6 ?side7 ?side8 ?side9 ?side10 ?side11 ?side12 A7.out).mono ?_);(case side1 => exact Cb_ HR0_0);(case side2 => exact HC0_0.out);(case side3 => exact Cb_ HR0_1);(case side4 => exact HC0_1.out);(case side5 => exact Cb_ HR0_2);(case side6 => exact HC0_2.out);(case side7 => exact Cb_ HR0_3);(case side8 => exact HC0_3.out);(case side9 => exact Cb_ HR0_4);(case side10 => exact HC0_4.out);(case side11 => exact Cb_ HR0_5);(case side12 => exact HC0_5.out);rintro e w22 ⟨v548,v551,v554,v557,v560,v563,rfl,ho0,ho1,ho2,ho3,ho4,ho5,hb⟩;refine ⟨_,rfl,?_⟩;have ai:=Z_ (Kd.R_lower ho0 (below_size HB.out));have aj:=Z_ (Kd.S_lower ho1 (below_size HB.out));have a6:=Z_ (Kd.R_lower ho2 (below_size HB.out));have a7:=Z_ (Kd.R_lower ho3 (below_size HB.out));have af:=Z_ (Kd.R_lower ho4 (below_size HB.out));have ag:=Z_ (Kd.R_lower ho5 (below_size HB.out));replace a0:=Z_ (bB_ a0.out hb);replace HB:=Z_ (lP_ HB.out hb);(try clear hb);(try clear ho0);(try clear ho1);(try clear ho2);(try clear ho3);(try clear ho4);(try clear ho5);obtain ⟨d1,d2,eo23⟩:=Kd.R_slice ai.out;subst eo23;obtain ⟨d3,d4,eo24⟩:=Kd.S_slice aj.out;subst eo24;obtain ⟨bj,bk,eo25⟩:=Kd.R_slice a6.out;subst eo25;obtain ⟨bl,bm,eo26⟩:=Kd.R_slice a7.out;subst eo26;obtain ⟨bu,bv,eo27⟩:=Kd.R_slice af.out;subst eo27;obtain ⟨bw,bx,eo28⟩:=Kd.R_slice ag.out;subst eo28) | ((with_reducible refine gate_callee (f:=10) rfl ?_);refine goesA_ (some 18) rfl rfl Tryz.func10 (by kernel_rfl) rfl #[.agg #[.slice d1 t547.length d2,.slice d3 t550.length d4,.slice bj t553.length bk,.slice bl t556.length bm,.slice bu t559.length bv,.slice bw t562.length bx]] rfl ?_;(with_reducible refine (spec_KnownTo.calls k _ _ t547 _ _ t550 _ _ t553 _ _ t556 _ _ t559 _ _ t562 t565 t566 _ ?side1 ?side2 ?side3 ?side4 ?side5 ?side6 ?side7 ?side8 ?side9 ?side10 ?side11 ?side12 A8.out).mono ?_);(case side1 => exact Rc_ ai);(case side2 => exact (Kd.R_reads' ai.out).2.1);(case side3 => exact Sc_ aj);(case side4 => exact (Kd.S_reads' aj.out).2.1);(case side5 => exact Rc_ a6);(case side6 => exact (Kd.R_reads' a6.out).2.1);(case side7 => exact Rc_ a7);(case side8 => exact (Kd.R_reads' a7.out).2.1);(case side9 => exact Rc_ af);(case side10 => exact (Kd.R_reads' af.out).2.1);(case side11 => exact Rc_ ag);(case side12 => exact (Kd.R_reads' ag.out).2.1);rintro e w29 ⟨v567,rfl,ho0,hb⟩;refine ⟨_,rfl,?_⟩;replace ai:=Z_ (Kd.R_below ai.out hb);replace aj:=Z_ (Kd.S_below (Sk_ aj) hb);replace af:=Z_ (Kd.R_below af.out hb);replace ag:=Z_ (Kd.R_below ag.out hb);have a8:=Z_ (Kd.R_lower (Kd.R_new' (Kd.R_new' ho0 (Kd.R_lt a6.out)) (Kd.R_lt a7.out)) (below_size Lb_));replace a6:=Z_ (Kd.R_elder' a6.out (Kd.R_base ho0) hb);replace a7:=Z_ (Kd.R_elder' a7.out (Kd.R_base ho0) hb);replace a0:=Z_ (bB_ (g:=ap) (o:=.cells #[.slice A0_0 l0_0.length c0_0,.slice A0_1 l0_1.length c0_1,.slice A0_2 l0_2.length c0_2,.slice A0_3 l0_3.length c0_3,.slice A0_4 l0_4.length c0_4,.slice A0_5 l0_5.length c0_5] 27 (0,0)) a0.out hb);replace HB:=Z_ (lP_ Lb_ hb);(try clear hb);(try clear ho0)) | ((with_reducible refine gD_ 4 rfl ?_);refine bx_ #[.int .i64 0,.slice none 0 0] 39 ?_;intro ak hg w30 hbox hb;replace ai:=Z_ (Kd.R_below ai.out hb);replace aj:=Z_ (Kd.S_below (Sk_ aj) hb);replace a6:=Z_ (Kd.R_below a6.out hb);replace a7:=Z_ (Kd.R_below a7.out hb);replace af:=Z_ (Kd.R_below af.out hb);replace ag:=Z_ (Kd.R_below ag.out hb);replace a8:=Z_ (Kd.R_below a8.out hb);have a1:=Z_ hbox;have am:=Z_ ((by rw [hg];exact (below_size Lb_) : w.heap.size ≤ ak));replace HB:=Z_ (lP_ Lb_ hb);have bg:=Z_ ((by rw [hg];exact Nat.ne_of_lt (blk_lt (g:=ap) (o:=.cells #[.slice A0_0 l0_0.length c0_0,.slice A0_1 l0_1.length c0_1,.slice A0_2 l0_2.length c0_2,.slice A0_3 l0_3.length c0_3,.slice A0_4 l0_4.length c0_4,.slice A0_5 l0_5.length c0_5] 27 (0,0)) a0.out) : ap ≠ ak));replace a0:=Z_ (bB_ (g:=ap) (o:=.cells #[.slice A0_0 l0_0.length c0_0,.slice A0_1 l0_1.length c0_1,.slice A0_2 l0_2.length c0_2,.slice A0_3 l0_3.length c0_3,.slice A0_4 l0_4.length c0_4,.slice A0_5 l0_5.length c0_5] 27 (0,0)) a0.out hb);have bo:=Z_ bg.out.symm;clear hb hbox hg;have fk:=bo.out;have fl:=bg.out;obtain ⟨_,_,_,_⟩:=bc2 a1.out;obtain ⟨ar,aq,eo33⟩:=Kd.R_slice a8.out;subst eo33;obtain ⟨_,_,_,_,_,_,_,_,_,_,_,_⟩:=bc6 a0.out) | ((with_reducible refine gate_callee (f:=7) rfl ?_);refine goesA_ (some 20) rfl rfl Tryz.func7 (by kernel_rfl) rfl #[.agg #[.slice A0_0 l0_0.length c0_0,.slice A0_1 l0_1.length c0_1,.slice A0_2 l0_2.length c0_2,.slice A0_3 l0_3.length c0_3,.slice A0_4 l0_4.length c0_4,.slice A0_5 l0_5.length c0_5]] rfl ?_;(with_reducible refine (laws_toNet.calls k _ _ l0_0 _ _ l0_1 _ _ l0_2 _ _ l0_3 _ _ l0_4 _ _ l0_5 t570 t573 t576 t579 t582 t585 _ ?side1 ?side2 ?side3 ?side4 ?side5 ?side6 ?side7 ?side8 ?side9 ?side10 ?side11 ?side12 A9.out).mono ?_);(case side1 => exact Kd.C_below HR0_0.out Lb_);(case side2 => exact HC0_0.out);(case side3 => exact Kd.C_below HR0_1.out Lb_);(case side4 => exact HC0_1.out);(case side5 => exact Kd.C_below HR0_2.out Lb_);(case side6 => exact HC0_2.out);(case side7 => exact Kd.C_below HR0_3.out Lb_);(case side8 => exact HC0_3.out);(case side9 => exact Kd.C_below HR0_4.out Lb_);(case side10 => exact HC0_4.out);(case side11 => exact Kd.C_below HR0_5.out Lb_);(case side12 => exact HC0_5.out);rintro e w35 ⟨v571,v574,v577,v580,v583,v586,rfl,ho0,ho1,ho2,ho3,ho4,ho5,hb⟩;refine ⟨_,rfl,?_⟩;have a9:=Z_ (Kd.R_lower (Kd.R_new' ho0 (Kd.R_lt (Kd.R_mono (rfar2 (g:=ak) (Kd.R_types ai.out a1.out (by decide)) (fun _ hk => hk.2)) (fun _ h_ => h_.1)))) (below_size Lb_));replace ai:=Z_ (Kd.R_elder' (Kd.R_mono (rfar2 (g:=ak) (Kd.R_types ai.out a1.out (by decide)) (fun _ hk => hk.2)) (fun _ h_ => h_.1)) (Kd.R_base ho0) hb);have aa:=Z_ (Kd.S_lower (Kd.S_new' ho1 (Kd.S_lt (by (with_reducible repeat (first | apply Kd.S_alloc | apply Kd.S_drewN | apply Kd.S_drew));exact (Kd.S_mono (Kd.S_far (p:=⟨ak,1,none⟩) (Kd.S_far (p:=⟨ak,0,none⟩) (Kd.S_types aj.out a1.out (by decide)) (fun _ hk => hk.2) (.int .i64 t565)) (fun _ hk => hk.2) (.slice ar t566.length aq)) (fun _ h_ => h_.1))))) (below_size Lb_));replace aj:=Z_ (Kd.S_elder' (by (with_reducible repeat (first | apply Kd.S_alloc | apply Kd.S_drewN | apply Kd.S_drew));exact (Kd.S_mono (Kd.S_far (p:=⟨ak,1,none⟩) (Kd.S_far (p:=⟨ak,0,none⟩) (Kd.S_types aj.out a1.out (by decide)) (fun _ hk => hk.2) (.int .i64 t565)) (fun _ hk => hk.2) (.slice ar t566.length aq)) (fun _ h_ => h_.1))) (Kd.S_base ho1) hb);have ad:=Z_ (Kd.R_lower (Kd.R_new' (Kd.R_new' (Kd.R_new' ho2 (Kd.R_lt (Kd.R_mono (rfar2 (g:=ak) (Kd.R_types a6.out a1.out (by decide)) (fun _ hk => hk.2)) (fun _ h_ => h_.1)))) (Kd.R_lt (Kd.R_mono (rfar2 (g:=ak) (Kd.R_types a7.out a1.out (by decide)) (fun _ hk => hk.2)) (fun _ h_ => h_.1)))) (Kd.R_lt (Kd.R_mono (rfar2 (g:=ak) (Kd.R_types a8.out a1.out (by decide)) (fun _ hk => hk.2)) (fun _ h_ => h_.1)))) (below_size Lb_));have ae:=Z_ (Kd.R_lower (Kd.R_new' (Kd.R_new' (Kd.R_new' ho3 (Kd.R_lt (Kd.R_mono (rfar2 (g:=ak) (Kd.R_types a6.out a1.out (by decide)) (fun _ hk => hk.2)) (fun _ h_ => h_.1)))) (Kd.R_lt (Kd.R_mono (rfar2 (g:=ak) (Kd.R_types a7.out a1.out (by decide)) (fun _ hk => hk.2)) (fun _ h_ => h_.1)))) (Kd.R_lt (Kd.R_mono (rfar2 (g:=ak) (Kd.R_types a8.out a1.out (by decide)) (fun _ hk => hk.2)) (fun _ h_ => h_.1)))) (below_size Lb_));replace a6:=Z_ (Kd.R_mono (Kd.R_told (Kd.R_told (Kd.R_old (Kd.R_mono (rfar2 (g:=ak) (Kd.R_types a6.out a1.out (by decide)) (fun _ hk => hk.2)) (fun _ h_ => h_.1)) hb) (Kd.R_base ho2)) (Kd.R_base ho3)) (fun _ h_ => h_.1));replace a7:=Z_ (Kd.R_mono (Kd.R_told (Kd.R_told (Kd.R_old (Kd.R_mono (rfar2 (g:=ak) (Kd.R_types a7.out a1.out (by decide)) (fun _ hk => hk.2)) (fun _ h_ => h_.1)) hb) (Kd.R_base ho2)) (Kd.R_base ho3)) (fun _ h_ => h_.1));replace a8:=Z_ (Kd.R_mono (Kd.R_told (Kd.R_told (Kd.R_old (Kd.R_mono (rfar2 (g:=ak) (Kd.R_types a8.out a1.out (by decide)) (fun _ hk => hk.2)) (fun _ h_ => h_.1)) hb) (Kd.R_base ho2)) (Kd.R_base ho3)) (fun _ h_ => h_.1));have ab:=Z_ (Kd.R_lower (Kd.R_new' (Kd.R_new' ho4 (Kd.R_lt (Kd.R_mono (rfar2 (g:=ak) (Kd.R_types af.out a1.out (by decide)) (fun _ hk => hk.2)) (fun _ h_ => h_.1)))) (Kd.R_lt (Kd.R_mono (rfar2 (g:=ak) (Kd.R_types ag.out a1.out (by decide)) (fun _ hk => hk.2)) (fun _ h_ => h_.1)))) (below_size Lb_));have ac:=Z_ (Kd.R_lower (Kd.R_new' (Kd.R_new' ho5 (Kd.R_lt (Kd.R_mono (rfar2 (g:=ak) (Kd.R_types af.out a1.out (by decide)) (fun _ hk => hk.2)) (fun _ h_ => h_.1)))) (Kd.R_lt (Kd.R_mono (rfar2 (g:=ak) (Kd.R_types ag.out a1.out (by decide)) (fun _ hk => hk.2)) (fun _ h_ => h_.1)))) (below_size Lb_));replace af:=Z_ (Kd.R_mono (Kd.R_told (Kd.R_told (Kd.R_old (Kd.R_mono (rfar2 (g:=ak) (Kd.R_types af.out a1.out (by decide)) (fun _ hk => hk.2)) (fun _ h_ => h_.1)) hb) (Kd.R_base ho4)) (Kd.R_base ho5)) (fun _ h_ => h_.1));replace ag:=Z_ (Kd.R_mono (Kd.R_told (Kd.R_told (Kd.R_old (Kd.R_mono (rfar2 (g:=ak) (Kd.R_types ag.out a1.out (by decide)) (fun _ hk => hk.2)) (fun _ h_ => h_.1)) hb) (Kd.R_base ho4)) (Kd.R_base ho5)) (fun _ h_ => h_.1));replace a0:=Z_ (bB_ (g:=ap) (o:=.cells #[.slice A0_0 l0_0.length c0_0,.slice A0_1 l0_1.length c0_1,.slice A0_2 l0_2.length c0_2,.slice A0_3 l0_3.length c0_3,.slice A0_4 l0_4.length c0_4,.slice A0_5 l0_5.length c0_5] 27 (0,0)) (by (iterate 2 (refine bF_ ?_ bg.out _));exact a0.out) hb);replace a1:=Z_ (bB_ (g:=ak) (o:=.cells #[.int .i64 t565,.slice ar t566.length aq] 39 (0,0)) (by apply fill2;exact a1.out) hb);replace HB:=Z_ (lP_ Lb_ hb);(try clear hb);(try clear ho0);(try clear ho1);(try clear ho2);(try clear ho3);(try clear ho4);(try clear ho5)) | ((with_reducible refine gD_ 5 rfl ?_);refine bx_ #[.slice none 0 0,.slice none 0 0,.slice none 0 0,.slice none 0 0,.slice none 0 0,.slice none 0 0] 34 ?_;intro a5 hg w36 hbox hb;replace ai:=Z_ (Kd.R_below ai.out hb);replace aj:=Z_ (Kd.S_below (Sk_ aj) hb);replace a6:=Z_ (Kd.R_below a6.out hb);replace a7:=Z_ (Kd.R_below a7.out hb);replace af:=Z_ (Kd.R_below af.out hb);replace ag:=Z_ (Kd.R_below ag.out hb);replace a8:=Z_ (Kd.R_below a8.out hb);replace a9:=Z_ (Kd.R_below a9.out hb);replace aa:=Z_ (Kd.S_below (Sk_ aa) hb);replace ad:=Z_ (Kd.R_below ad.out hb);replace ae:=Z_ (Kd.R_below ae.out hb);replace ab:=Z_ (Kd.R_below ab.out hb);replace ac:=Z_ (Kd.R_below ac.out hb);have a2:=Z_ hbox;have aw:=Z_ ((by rw [hg];exact (below_size Lb_) : w.heap.size ≤ a5));replace HB:=Z_ (lP_ Lb_ hb);have ca:=Z_ ((by rw [hg];exact Nat.ne_of_lt (blk_lt (g:=ap) (o:=.cells #[.slice A0_0 l0_0.length c0_0,.slice A0_1 l0_1.length c0_1,.slice A0_2 l0_2.length c0_2,.slice A0_3 l0_3.length c0_3,.slice A0_4 l0_4.length c0_4,.slice A0_5 l0_5.length c0_5] 27 (0,0)) a0.out) : ap ≠ a5));replace a0:=Z_ (bB_ (g:=ap) (o:=.cells #[.slice A0_0 l0_0.length c0_0,.slice A0_1 l0_1.length c0_1,.slice A0_2 l0_2.length c0_2,.slice A0_3 l0_3.length c0_3,.slice A0_4 l0_4.length c0_4,.slice A0_5 l0_5.length c0_5] 27 (0,0)) a0.out hb);have cu:=Z_ ca.out.symm;have bp:=Z_ ((by rw [hg];exact Nat.ne_of_lt (blk_lt (g:=ak) (o:=.cells #[.int .i64 t565,.slice ar t566.length aq] 39 (0,0)) a1.out) : ak ≠ a5));replace a1:=Z_ (bB_ (g:=ak) (o:=.cells #[.int .i64 t565,.slice ar t566.length aq] 39 (0,0)) a1.out hb);have cb:=Z_ bp.out.symm;clear hb hbox hg;obtain ⟨b8,b4,eo37⟩:=Kd.R_slice a9.out;subst eo37;have fm:=cu.out;have fn:=ca.out;have fo:=cb.out;have fp:=bp.out;obtain ⟨_,_,_,_,_,_,_,_,_,_,_,_⟩:=bc6 a2.out;obtain ⟨b9,b5,eo41⟩:=Kd.S_slice aa.out;subst eo41;obtain ⟨b0,ay,eo42⟩:=Kd.R_slice ad.out;subst eo42;obtain ⟨b1,az,eo43⟩:=Kd.R_slice ae.out;subst eo43;obtain ⟨b6,b2,eo44⟩:=Kd.R_slice ab.out;subst eo44;obtain ⟨b7,b3,eo45⟩:=Kd.R_slice ac.out;subst eo45) | ((with_reducible refine gate_callee (f:=11) rfl ?_);refine goesA_ (some 22) rfl rfl Tryz.func11 (by kernel_rfl) rfl #[.agg #[.slice b8 t570.length b4,.slice b9 t573.length b5,.slice b0 t576.length ay,.slice b1 t579.length az,.slice b6 t582.length b2,.slice b7 t585.length b3]] rfl ?_;(with_reducible refine (impl_KnownTo.calls k _ _ t570 _ _ t573 _ _ t576 _ _ t579 _ _ t582 _ _ t585 t589 t590 _ ?side1 ?side2 ?side3 ?side4 ?side5 ?side6 ?side7 ?side8 ?side9 ?side10 ?side11 ?side12 f2.out).mono ?_);(case side1 => refine (Kd.R_reads' (e:=83) (base:=w.heap.size) (ok:=fun k_ => (True ∧ some k_ ≠ (.slice d1 t547.length d2 : Value).ownBlock)) (n:=t570.length) (c:=b4) ?_).2.2;exact (Kd.R_mono (rfar6 (g:=a5) (Kd.R_types a9.out a2.out (by decide)) (fun _ hk => hk.2)) (fun _ h_ => h_.1)));(case side2 => exact (Kd.R_reads' a9.out).2.1);(case side3 => refine (Kd.S_reads' (e:=76) (base:=w.heap.size) (ok:=fun k_ => (True ∧ some k_ ≠ (.slice d3 t550.length d4 : Value).ownBlock)) (n:=t573.length) (c:=b5) ?_).2.2;exact (by (with_reducible repeat (first | apply Kd.S_alloc | apply Kd.S_drewN | apply Kd.S_drew));exact (Kd.S_mono (Kd.S_far (p:=⟨a5,5,none⟩) (Kd.S_far (p:=⟨a5,4,none⟩) (Kd.S_far (p:=⟨a5,3,none⟩) (Kd.S_far (p:=⟨a5,2,none⟩) (Kd.S_far (p:=⟨a5,1,none⟩) (Kd.S_far (p:=⟨a5,0,none⟩) (Kd.S_types aa.out a2.out (by decide)) (fun _ hk => hk.2) (.slice b8 t570.length b4)) (fun _ hk => hk.2) (.slice b9 t573.length b5)) (fun _ hk => hk.2) (.slice b0 t576.length ay)) (fun _ hk => hk.2) (.slice b1 t579.length az)) (fun _ hk => hk.2) (.slice b6 t582.length b2)) (fun _ hk => hk.2) (.slice b7 t585.length b3)) (fun _ h_ => h_.1))));(case side4 => exact (Kd.S_reads' aa.out).2.1);(case side5 => refine (Kd.R_reads' (e:=2) (base:=w.heap.size) (ok:=fun k_ => (((some k_ ≠ (.slice b1 t579.length az : Value).ownBlock ∧ some k_ ≠ (.slice bj t553.length bk : Value).ownBlock) ∧ some k_ ≠ (.slice bl t556.length bm : Value).ownBlock) ∧ some k_ ≠ (.slice ar t566.length aq : Value).ownBlock)) (n:=t576.length) (c:=ay) ?_).2.2;exact (Kd.R_mono (rfar6 (g:=a5) (Kd.R_types ad.out a2.out (by decide)) (fun _ hk => hk.2)) (fun _ h_ => h_.1)));(case side6 => exact (Kd.R_reads' ad.out).2.1);(case side7 => refine (Kd.R_reads' (e:=2) (base:=w.heap.size) (ok:=fun k_ => (((some k_ ≠ (.slice b0 t576.length ay : Value).ownBlock ∧ some k_ ≠ (.slice bj t553.length bk : Value).ownBlock) ∧ some k_ ≠ (.slice bl t556.length bm : Value).ownBlock) ∧ some k_ ≠ (.slice ar t566.length aq : Value).ownBlock)) (n:=t579.length) (c:=az) ?_).2.2;exact (Kd.R_mono (rfar6 (g:=a5) (Kd.R_types ae.out a2.out (by decide)) (fun _ hk => hk.2)) (fun _ h_ => h_.1)));(case side8 => exact (Kd.R_reads' ae.out).2.1);(case side9 => refine (Kd.R_reads' (e:=88) (base:=w.heap.size) (ok:=fun k_ => ((some k_ ≠ (.slice b7 t585.length b3 : Value).ownBlock ∧ some k_ ≠ (.slice bu t559.length bv : Value).ownBlock) ∧ some k_ ≠ (.slice bw t562.length bx : Value).ownBlock)) (n:=t582.length) (c:=b2) ?_).2.2;exact (Kd.R_mono (rfar6 (g:=a5) (Kd.R_types ab.out a2.out (by decide)) (fun _ hk => hk.2)) (fun _ h_ => h_.1)));(case side10 => exact (Kd.R_reads' ab.out).2.1);(case side11 => refine (Kd.R_reads' (e:=88) (base:=w.heap.size) (ok:=fun k_ => ((some k_ ≠ (.slice b6 t582.length b2 : Value).ownBlock ∧ some k_ ≠ (.slice bu t559.length bv : Value).ownBlock) ∧ some k_ ≠ (.slice bw t562.length bx : Value).ownBlock)) (n:=t585.length) (c:=b3) ?_).2.2;exact (Kd.R_mono (rfar6 (g:=a5) (Kd.R_types ac.out a2.out (by decide)) (fun _ hk => hk.2)) (fun _ h_ => h_.1)));(case side12 => exact (Kd.R_reads' ac.out).2.1);rintro e w46 ⟨v591,rfl,ho0,hb⟩;refine ⟨_,rfl,?_⟩;replace ai:=Z_ (Kd.R_below (Kd.R_mono (rfar6 (g:=a5) (Kd.R_types ai.out a2.out (by decide)) (fun _ hk => hk.2)) (fun _ h_ => h_.1)) hb);replace aj:=Z_ (Kd.S_below (by (with_reducible repeat (first | apply Kd.S_alloc | apply Kd.S_drewN | apply Kd.S_drew));exact (Kd.S_mono (Kd.S_far (p:=⟨a5,5,none⟩) (Kd.S_far (p:=⟨a5,4,none⟩) (Kd.S_far (p:=⟨a5,3,none⟩) (Kd.S_far (p:=⟨a5,2,none⟩) (Kd.S_far (p:=⟨a5,1,none⟩) (Kd.S_far (p:=⟨a5,0,none⟩) (Kd.S_types aj.out a2.out (by decide)) (fun _ hk => hk.2) (.slice b8 t570.length b4)) (fun _ hk => hk.2) (.slice b9 t573.length b5)) (fun _ hk => hk.2) (.slice b0 t576.length ay)) (fun _ hk => hk.2) (.slice b1 t579.length az)) (fun _ hk => hk.2) (.slice b6 t582.length b2)) (fun _ hk => hk.2) (.slice b7 t585.length b3)) (fun _ h_ => h_.1))) hb);replace af:=Z_ (Kd.R_below (Kd.R_mono (rfar6 (g:=a5) (Kd.R_types af.out a2.out (by decide)) (fun _ hk => hk.2)) (fun _ h_ => h_.1)) hb);replace ag:=Z_ (Kd.R_below (Kd.R_mono (rfar6 (g:=a5) (Kd.R_types ag.out a2.out (by decide)) (fun _ hk => hk.2)) (fun _ h_ => h_.1)) hb);replace a9:=Z_ (Kd.R_below (Kd.R_mono (rfar6 (g:=a5) (Kd.R_types a9.out a2.out (by decide)) (fun _ hk => hk.2)) (fun _ h_ => h_.1)) hb);replace aa:=Z_ (Kd.S_below (by (with_reducible repeat (first | apply Kd.S_alloc | apply Kd.S_drewN | apply Kd.S_drew));exact (Kd.S_mono (Kd.S_far (p:=⟨a5,5,none⟩) (Kd.S_far (p:=⟨a5,4,none⟩) (Kd.S_far (p:=⟨a5,3,none⟩) (Kd.S_far (p:=⟨a5,2,none⟩) (Kd.S_far (p:=⟨a5,1,none⟩) (Kd.S_far (p:=⟨a5,0,none⟩) (Kd.S_types aa.out a2.out (by decide)) (fun _ hk => hk.2) (.slice b8 t570.length b4)) (fun _ hk => hk.2) (.slice b9 t573.length b5)) (fun _ hk => hk.2) (.slice b0 t576.length ay)) (fun _ hk => hk.2) (.slice b1 t579.length az)) (fun _ hk => hk.2) (.slice b6 t582.length b2)) (fun _ hk => hk.2) (.slice b7 t585.length b3)) (fun _ h_ => h_.1))) hb);replace ab:=Z_ (Kd.R_below (Kd.R_mono (rfar6 (g:=a5) (Kd.R_types ab.out a2.out (by decide)) (fun _ hk => hk.2)) (fun _ h_ => h_.1)) hb);replace ac:=Z_ (Kd.R_below (Kd.R_mono (rfar6 (g:=a5) (Kd.R_types ac.out a2.out (by decide)) (fun _ hk => hk.2)) (fun _ h_ => h_.1)) hb);have an:=Z_ (Kd.R_lower (Kd.R_new' (Kd.R_new' (Kd.R_new' (Kd.R_new' (Kd.R_new' ho0 (Kd.R_lt (Kd.R_mono (rfar6 (g:=a5) (Kd.R_types a6.out a2.out (by decide)) (fun _ hk => hk.2)) (fun _ h_ => h_.1)))) (Kd.R_lt (Kd.R_mono (rfar6 (g:=a5) (Kd.R_types a7.out a2.out (by decide)) (fun _ hk => hk.2)) (fun _ h_ => h_.1)))) (Kd.R_lt (Kd.R_mono (rfar6 (g:=a5) (Kd.R_types a8.out a2.out (by decide)) (fun _ hk => hk.2)) (fun _ h_ => h_.1)))) (Kd.R_lt (Kd.R_mono (rfar6 (g:=a5) (Kd.R_types ad.out a2.out (by decide)) (fun _ hk => hk.2)) (fun _ h_ => h_.1)))) (Kd.R_lt (Kd.R_mono (rfar6 (g:=a5) (Kd.R_types ae.out a2.out (by decide)) (fun _ hk => hk.2)) (fun _ h_ => h_.1)))) (below_size Lb_));replace a6:=Z_ (Kd.R_elder' (Kd.R_mono (rfar6 (g:=a5) (Kd.R_types a6.out a2.out (by decide)) (fun _ hk => hk.2)) (fun _ h_ => h_.1)) (Kd.R_base ho0) hb);replace a7:=Z_ (Kd.R_elder' (Kd.R_mono (rfar6 (g:=a5) (Kd.R_types a7.out a2.out (by decide)) (fun _ hk => hk.2)) (fun _ h_ => h_.1)) (Kd.R_base ho0) hb);replace a8:=Z_ (Kd.R_elder' (Kd.R_mono (rfar6 (g:=a5) (Kd.R_types a8.out a2.out (by decide)) (fun _ hk => hk.2)) (fun _ h_ => h_.1)) (Kd.R_base ho0) hb);replace ad:=Z_ (Kd.R_elder' (Kd.R_mono (rfar6 (g:=a5) (Kd.R_types ad.out a2.out (by decide)) (fun _ hk => hk.2)) (fun _ h_ => h_.1)) (Kd.R_base ho0) hb);replace ae:=Z_ (Kd.R_elder' (Kd.R_mono (rfar6 (g:=a5) (Kd.R_types ae.out a2.out (by decide)) (fun _ hk => hk.2)) (fun _ h_ => h_.1)) (Kd.R_base ho0) hb);replace a0:=Z_ (bB_ (g:=ap) (o:=.cells #[.slice A0_0 l0_0.length c0_0,.slice A0_1 l0_1.length c0_1,.slice A0_2 l0_2.length c0_2,.slice A0_3 l0_3.length c0_3,.slice A0_4 l0_4.length c0_4,.slice A0_5 l0_5.length c0_5] 27 (0,0)) (by (iterate 6 (refine bF_ ?_ ca.out _));exact a0.out) hb);replace a1:=Z_ (bB_ (g:=ak) (o:=.cells #[.int .i64 t565,.slice ar t566.length aq] 39 (0,0)) (by (iterate 6 (refine bF_ ?_ bp.out _));exact a1.out) hb);replace a2:=Z_ (bB_ (g:=a5) (o:=.cells #[.slice b8 t570.length b4,.slice b9 t573.length b5,.slice b0 t576.length ay,.slice b1 t579.length az,.slice b6 t582.length b2,.slice b7 t585.length b3] 34 (0,0)) (by apply fill6;exact a2.out) hb);replace HB:=Z_ (lP_ Lb_ hb);(try clear hb);(try clear ho0)) | ((with_reducible refine gD_ 6 rfl ?_);refine bx_ #[.int .i64 0,.slice none 0 0] 39 ?_;intro ao hg w47 hbox hb;replace ai:=Z_ (Kd.R_below ai.out hb);replace aj:=Z_ (Kd.S_below (Sk_ aj) hb);replace a6:=Z_ (Kd.R_below a6.out hb);replace a7:=Z_ (Kd.R_below a7.out hb);replace af:=Z_ (Kd.R_below af.out hb);replace ag:=Z_ (Kd.R_below ag.out hb);replace a8:=Z_ (Kd.R_below a8.out hb);replace a9:=Z_ (Kd.R_below a9.out hb);replace aa:=Z_ (Kd.S_below (Sk_ aa) hb);replace ad:=Z_ (Kd.R_below ad.out hb);replace ae:=Z_ (Kd.R_below ae.out hb);replace ab:=Z_ (Kd.R_below ab.out hb);replace ac:=Z_ (Kd.R_below ac.out hb);replace an:=Z_ (Kd.R_below an.out hb);have a3:=Z_ hbox;have ax:=Z_ ((by rw [hg];exact (below_size Lb_) : w.heap.size ≤ ao));replace HB:=Z_ (lP_ Lb_ hb);have bh:=Z_ ((by rw [hg];exact Nat.ne_of_lt (blk_lt (g:=ap) (o:=.cells #[.slice A0_0 l0_0.length c0_0,.slice A0_1 l0_1.length c0_1,.slice A0_2 l0_2.length c0_2,.slice A0_3 l0_3.length c0_3,.slice A0_4 l0_4.length c0_4,.slice A0_5 l0_5.length c0_5] 27 (0,0)) a0.out) : ap ≠ ao));replace a0:=Z_ (bB_ (g:=ap) (o:=.cells #[.slice A0_0 l0_0.length c0_0,.slice A0_1 l0_1.length c0_1,.slice A0_2 l0_2.length c0_2,.slice A0_3 l0_3.length c0_3,.slice A0_4 l0_4.length c0_4,.slice A0_5 l0_5.length c0_5] 27 (0,0)) a0.out hb);have bq:=Z_ bh.out.symm;have bi:=Z_ ((by rw [hg];exact Nat.ne_of_lt (blk_lt (g:=ak) (o:=.cells #[.int .i64 t565,.slice ar t566.length aq] 39 (0,0)) a1.out) : ak ≠ ao));replace a1:=Z_ (bB_ (g:=ak) (o:=.cells #[.int .i64 t565,.slice ar t566.length aq] 39 (0,0)) a1.out hb);have br:=Z_ bi.out.symm;have bs:=Z_ ((by rw [hg];exact Nat.ne_of_lt (blk_lt (g:=a5) (o:=.cells #[.slice b8 t570.length b4,.slice b9 t573.length b5,.slice b0 t576.length ay,.slice b1 t579.length az,.slice b6 t582.length b2,.slice b7 t585.length b3] 34 (0,0)) a2.out) : a5 ≠ ao));replace a2:=Z_ (bB_ (g:=a5) (o:=.cells #[.slice b8 t570.length b4,.slice b9 t573.length b5,.slice b0 t576.length ay,.slice b1 t579.length az,.slice b6 t582.length b2,.slice b7 t585.length b3] 34 (0,0)) a2.out hb);have cc:=Z_ bs.out.symm;clear hb hbox hg;have fq:=bq.out;have fr:=bh.out;have fs:=br.out;have ft:=bi.out;have fu:=cc.out;have fv:=bs.out;obtain ⟨_,_,_,_⟩:=bc2 a3.out;obtain ⟨av,au,eo52⟩:=Kd.R_slice an.out;subst eo52;obtain ⟨_,_,_,_⟩:=bc2 a1.out) | ((with_reducible refine gate_callee (f:=12) rfl ?_);refine goesA_ (some 25) rfl rfl Tryz.func12 (by kernel_rfl) rfl #[.agg #[.int .i64 t589,.slice av t590.length au],.agg #[.int .i64 t565,.slice ar t566.length aq]] rfl ?_;(with_reducible refine (laws_eqIntsResult.calls k t589 _ _ t590 t565 _ _ t566 true _ ?side1 ?side2 ?side3 ?side4 f3.out).mono ?_);(case side1 => refine (Kd.R_reads' (e:=2) (base:=w.heap.size) (ok:=fun k_ => (((((True ∧ some k_ ≠ (.slice bj t553.length bk : Value).ownBlock) ∧ some k_ ≠ (.slice bl t556.length bm : Value).ownBlock) ∧ some k_ ≠ (.slice ar t566.length aq : Value).ownBlock) ∧ some k_ ≠ (.slice b0 t576.length ay : Value).ownBlock) ∧ some k_ ≠ (.slice b1 t579.length az : Value).ownBlock)) (n:=t590.length) (c:=au) ?_).2.2;exact (Kd.R_mono (rfar2 (g:=ao) (Kd.R_types an.out a3.out (by decide)) (fun _ hk => hk.2)) (fun _ h_ => h_.1)));(case side2 => exact (Kd.R_reads' an.out).2.1);(case side3 => refine (Kd.R_reads' (e:=2) (base:=w.heap.size) (ok:=fun k_ => (((((True ∧ some k_ ≠ (.slice bj t553.length bk : Value).ownBlock) ∧ some k_ ≠ (.slice bl t556.length bm : Value).ownBlock) ∧ some k_ ≠ (.slice b0 t576.length ay : Value).ownBlock) ∧ some k_ ≠ (.slice b1 t579.length az : Value).ownBlock) ∧ some k_ ≠ (.slice av t590.length au : Value).ownBlock)) (n:=t566.length) (c:=aq) ?_).2.2;exact (Kd.R_mono (rfar2 (g:=ao) (Kd.R_types a8.out a3.out (by decide)) (fun _ hk => hk.2)) (fun _ h_ => h_.1)));(case side4 => exact (Kd.R_reads' a8.out).2.1);rintro e w54 ⟨rfl,hb⟩;refine ⟨_,rfl,?_⟩;replace ai:=Z_ (Kd.R_below (Kd.R_mono (rfar2 (g:=ao) (Kd.R_types ai.out a3.out (by decide)) (fun _ hk => hk.2)) (fun _ h_ => h_.1)) hb);replace aj:=Z_ (Kd.S_below (by (with_reducible repeat (first | apply Kd.S_alloc | apply Kd.S_drewN | apply Kd.S_drew));exact (Kd.S_mono (Kd.S_far (p:=⟨ao,1,none⟩) (Kd.S_far (p:=⟨ao,0,none⟩) (Kd.S_types aj.out a3.out (by decide)) (fun _ hk => hk.2) (.int .i64 t589)) (fun _ hk => hk.2) (.slice av t590.length au)) (fun _ h_ => h_.1))) hb);replace a6:=Z_ (Kd.R_below (Kd.R_mono (rfar2 (g:=ao) (Kd.R_types a6.out a3.out (by decide)) (fun _ hk => hk.2)) (fun _ h_ => h_.1)) hb);replace a7:=Z_ (Kd.R_below (Kd.R_mono (rfar2 (g:=ao) (Kd.R_types a7.out a3.out (by decide)) (fun _ hk => hk.2)) (fun _ h_ => h_.1)) hb);replace af:=Z_ (Kd.R_below (Kd.R_mono (rfar2 (g:=ao) (Kd.R_types af.out a3.out (by decide)) (fun _ hk => hk.2)) (fun _ h_ => h_.1)) hb);replace ag:=Z_ (Kd.R_below (Kd.R_mono (rfar2 (g:=ao) (Kd.R_types ag.out a3.out (by decide)) (fun _ hk => hk.2)) (fun _ h_ => h_.1)) hb);replace a8:=Z_ (Kd.R_below (Kd.R_mono (rfar2 (g:=ao) (Kd.R_types a8.out a3.out (by decide)) (fun _ hk => hk.2)) (fun _ h_ => h_.1)) hb);replace a9:=Z_ (Kd.R_below (Kd.R_mono (rfar2 (g:=ao) (Kd.R_types a9.out a3.out (by decide)) (fun _ hk => hk.2)) (fun _ h_ => h_.1)) hb);replace aa:=Z_ (Kd.S_below (by (with_reducible repeat (first | apply Kd.S_alloc | apply Kd.S_drewN | apply Kd.S_drew));exact (Kd.S_mono (Kd.S_far (p:=⟨ao,1,none⟩) (Kd.S_far (p:=⟨ao,0,none⟩) (Kd.S_types aa.out a3.out (by decide)) (fun _ hk => hk.2) (.int .i64 t589)) (fun _ hk => hk.2) (.slice av t590.length au)) (fun _ h_ => h_.1))) hb);replace ad:=Z_ (Kd.R_below (Kd.R_mono (rfar2 (g:=ao) (Kd.R_types ad.out a3.out (by decide)) (fun _ hk => hk.2)) (fun _ h_ => h_.1)) hb);replace ae:=Z_ (Kd.R_below (Kd.R_mono (rfar2 (g:=ao) (Kd.R_types ae.out a3.out (by decide)) (fun _ hk => hk.2)) (fun _ h_ => h_.1)) hb);replace ab:=Z_ (Kd.R_below (Kd.R_mono (rfar2 (g:=ao) (Kd.R_types ab.out a3.out (by decide)) (fun _ hk => hk.2)) (fun _ h_ => h_.1)) hb);replace ac:=Z_ (Kd.R_below (Kd.R_mono (rfar2 (g:=ao) (Kd.R_types ac.out a3.out (by decide)) (fun _ hk => hk.2)) (fun _ h_ => h_.1)) hb);replace an:=Z_ (Kd.R_below (Kd.R_mono (rfar2 (g:=ao) (Kd.R_types an.out a3.out (by decide)) (fun _ hk => hk.2)) (fun _ h_ => h_.1)) hb);replace a0:=Z_ (bB_ (g:=ap) (o:=.cells #[.slice A0_0 l0_0.length c0_0,.slice A0_1 l0_1.length c0_1,.slice A0_2 l0_2.length c0_2,.slice A0_3 l0_3.length c0_3,.slice A0_4 l0_4.length c0_4,.slice A0_5 l0_5.length c0_5] 27 (0,0)) (by (iterate 2 (refine bF_ ?_ bh.out _));exact a0.out) hb);replace a1:=Z_ (bB_ (g:=ak) (o:=.cells #[.int .i64 t565,.slice ar t566.length aq] 39 (0,0)) (by (iterate 2 (refine bF_ ?_ bi.out _));exact a1.out) hb);replace a2:=Z_ (bB_ (g:=a5) (o:=.cells #[.slice b8 t570.length b4,.slice b9 t573.length b5,.slice b0 t576.length ay,.slice b1 t579.length az,.slice b6 t582.length b2,.slice b7 t585.length b3] 34 (0,0)) (by (iterate 2 (refine bF_ ?_ bs.out _));exact a2.out) hb);replace a3:=Z_ (bB_ (g:=ao) (o:=.cells #[.int .i64 t589,.slice av t590.length au] 39 (0,0)) (by apply fill2;exact a3.out) hb);replace HB:=Z_ (lP_ Lb_ hb);(try clear hb)))
  replace ai:=Z_ (rD_ ai.out)
  replace aj:=Z_ (Kd.S_drew aj.out)
  replace a6:=Z_ (rD_ a6.out)
  replace a7:=Z_ (rD_ a7.out)
  replace af:=Z_ (rD_ af.out)
  replace ag:=Z_ (rD_ ag.out)
  replace a8:=Z_ (rD_ a8.out)
  replace a9:=Z_ (rD_ a9.out)
  replace aa:=Z_ (Kd.S_drew aa.out)
  replace ad:=Z_ (rD_ ad.out)
  replace ae:=Z_ (rD_ ae.out)
  replace ab:=Z_ (rD_ ab.out)
  replace ac:=Z_ (rD_ ac.out)
  replace an:=Z_ (rD_ an.out)
  replace a0:=Z_ (bD_ a0.out)
  replace a1:=Z_ (bD_ a1.out)
  replace a2:=Z_ (bD_ a2.out)
  replace a3:=Z_ (bD_ a3.out)
  replace HB:=Z_ (lD_ HB.out)
  refine start_ (n:=5) (S:=fun w' => w'.cell? ⟨a5,0,none⟩ = some (.slice b8 t570.length b4) ∧ w'.cell? ⟨a5,1,none⟩ = some (.slice b9 t573.length b5) ∧ w'.cell? ⟨a5,2,none⟩ = some (.slice b0 t576.length ay) ∧ w'.cell? ⟨a5,3,none⟩ = some (.slice b1 t579.length az) ∧ w'.cell? ⟨a5,4,none⟩ = some (.slice b6 t582.length b2) ∧ w'.cell? ⟨a5,5,none⟩ = some (.slice b7 t585.length b3) ∧ w'.cell? ⟨ap,0,none⟩ = some (.slice A0_0 l0_0.length c0_0) ∧ w'.cell? ⟨ap,1,none⟩ = some (.slice A0_1 l0_1.length c0_1) ∧ w'.cell? ⟨ap,2,none⟩ = some (.slice A0_2 l0_2.length c0_2) ∧ w'.cell? ⟨ap,3,none⟩ = some (.slice A0_3 l0_3.length c0_3) ∧ w'.cell? ⟨ap,4,none⟩ = some (.slice A0_4 l0_4.length c0_4) ∧ w'.cell? ⟨ap,5,none⟩ = some (.slice A0_5 l0_5.length c0_5)) (ds:=[]) #[false,false,false,false,false] (by kernel_rfl) rfl rfl ⟨(blk_cell a2.out 0).trans rfl,(blk_cell a2.out 1).trans rfl,(blk_cell a2.out 2).trans rfl,(blk_cell a2.out 3).trans rfl,(blk_cell a2.out 4).trans rfl,(blk_cell a2.out 5).trans rfl,(blk_cell a0.out 0).trans rfl,(blk_cell a0.out 1).trans rfl,(blk_cell a0.out 2).trans rfl,(blk_cell a0.out 3).trans rfl,(blk_cell a0.out 4).trans rfl,(blk_cell a0.out 5).trans rfl⟩ (fun hHeld => ?_)
  generalize w54.drew = w55 at ai aj a6 a7 af ag a8 a9 aa ad ae ab ac an a0 a1 a2 a3 HB hHeld ⊢
  refine ta_ 0 (some 27) (Bt 5 1) (by kernel_rfl) hHeld ?_
  refine ta_ 1 (some 28) (Bt 5 3) (by kernel_rfl) hHeld ?_
  refine one_ (i:=2) (N:=some 29) #[true,true,true,false,false] rfl rfl (by kernel_rfl) (by decide) (fun K hK => ?_)
  refine goes_ Tryz.func7 (by kernel_rfl) rfl #[.agg #[.slice A0_0 l0_0.length c0_0,.slice A0_1 l0_1.length c0_1,.slice A0_2 l0_2.length c0_2,.slice A0_3 l0_3.length c0_3,.slice A0_4 l0_4.length c0_4,.slice A0_5 l0_5.length c0_5]] (by rfl) rfl rfl (by (try simp only [List.map_toArray,List.map_cons,List.map_nil]);first | done | rfl | (simp only [List.length_drop,List.length_take];rfl)) ?_
  with_reducible refine (laws_toNet.calls k _ _ l0_0 _ _ l0_1 _ _ l0_2 _ _ l0_3 _ _ l0_4 _ _ l0_5 t595 t598 t601 t604 t607 t610 _ ?side1 ?side2 ?side3 ?side4 ?side5 ?side6 ?side7 ?side8 ?side9 ?side10 ?side11 ?side12 f4.out).mono ?_
  (case side1 => exact Cb_ HR0_0)
  (case side2 => exact HC0_0.out)
  (case side3 => exact Cb_ HR0_1)
  (case side4 => exact HC0_1.out)
  (case side5 => exact Cb_ HR0_2)
  (case side6 => exact HC0_2.out)
  (case side7 => exact Cb_ HR0_3)
  (case side8 => exact HC0_3.out)
  (case side9 => exact Cb_ HR0_4)
  (case side10 => exact HC0_4.out)
  (case side11 => exact Cb_ HR0_5)
  (case side12 => exact HC0_5.out)
  rintro e w56 ⟨v596,v599,v602,v605,v608,v611,rfl,ho0,ho1,ho2,ho3,ho4,ho5,hb⟩
  refine ⟨_,rfl,?_⟩
  have n0_:=Z_ (Kd.R_elder' (Rk_ ai) (Kd.R_base ho0) hb)
  have n1_:=Z_ (Kd.S_elder' (Sk_ aj) (Kd.S_base ho1) hb)
  have n2_:=Z_ (Kd.R_mono (Kd.R_told (Kd.R_told (Kd.R_old (Rk_ a6) hb) (Kd.R_base ho2)) (Kd.R_base ho3)) (fun _ h_ => h_.1))
  have n3_:=Z_ (Kd.R_mono (Kd.R_told (Kd.R_told (Kd.R_old (Rk_ a7) hb) (Kd.R_base ho2)) (Kd.R_base ho3)) (fun _ h_ => h_.1))
  have n4_:=Z_ (Kd.R_mono (Kd.R_told (Kd.R_told (Kd.R_old (Rk_ af) hb) (Kd.R_base ho4)) (Kd.R_base ho5)) (fun _ h_ => h_.1))
  have n5_:=Z_ (Kd.R_mono (Kd.R_told (Kd.R_told (Kd.R_old (Rk_ ag) hb) (Kd.R_base ho4)) (Kd.R_base ho5)) (fun _ h_ => h_.1))
  have n6_:=Z_ (Kd.R_mono (Kd.R_told (Kd.R_told (Kd.R_old (Rk_ a8) hb) (Kd.R_base ho2)) (Kd.R_base ho3)) (fun _ h_ => h_.1))
  have n7_:=Z_ (Kd.R_elder' (Rk_ a9) (Kd.R_base ho0) hb)
  have n8_:=Z_ (Kd.S_elder' (Sk_ aa) (Kd.S_base ho1) hb)
  have n9_:=Z_ (Kd.R_mono (Kd.R_told (Kd.R_told (Kd.R_old (Rk_ ad) hb) (Kd.R_base ho2)) (Kd.R_base ho3)) (fun _ h_ => h_.1))
  have n10_:=Z_ (Kd.R_mono (Kd.R_told (Kd.R_told (Kd.R_old (Rk_ ae) hb) (Kd.R_base ho2)) (Kd.R_base ho3)) (fun _ h_ => h_.1))
  have n11_:=Z_ (Kd.R_mono (Kd.R_told (Kd.R_told (Kd.R_old (Rk_ ab) hb) (Kd.R_base ho4)) (Kd.R_base ho5)) (fun _ h_ => h_.1))
  have n12_:=Z_ (Kd.R_mono (Kd.R_told (Kd.R_told (Kd.R_old (Rk_ ac) hb) (Kd.R_base ho4)) (Kd.R_base ho5)) (fun _ h_ => h_.1))
  have n13_:=Z_ (Kd.R_mono (Kd.R_told (Kd.R_told (Kd.R_old (Rk_ an) hb) (Kd.R_base ho2)) (Kd.R_base ho3)) (fun _ h_ => h_.1))
  have n14_:=Z_ (Kd.R_lower (Kd.R_new' (Kd.R_new' ho0 (Kd.R_lt (Rk_ ai))) (Kd.R_lt (Rk_ a9))) (below_size Lb_))
  have n15_:=Z_ (Kd.S_lower (Kd.S_new' (Kd.S_new' ho1 (Kd.S_lt (Sk_ aj))) (Kd.S_lt (Sk_ aa))) (below_size Lb_))
  have n16_:=Z_ (Kd.R_lower (Kd.R_new' (Kd.R_new' (Kd.R_new' (Kd.R_new' (Kd.R_new' (Kd.R_new' ho2 (Kd.R_lt (Rk_ a6))) (Kd.R_lt (Rk_ a7))) (Kd.R_lt (Rk_ a8))) (Kd.R_lt (Rk_ ad))) (Kd.R_lt (Rk_ ae))) (Kd.R_lt (Rk_ an))) (below_size Lb_))
  have n17_:=Z_ (Kd.R_lower (Kd.R_new' (Kd.R_new' (Kd.R_new' (Kd.R_new' (Kd.R_new' (Kd.R_new' ho3 (Kd.R_lt (Rk_ a6))) (Kd.R_lt (Rk_ a7))) (Kd.R_lt (Rk_ a8))) (Kd.R_lt (Rk_ ad))) (Kd.R_lt (Rk_ ae))) (Kd.R_lt (Rk_ an))) (below_size Lb_))
  have n18_:=Z_ (Kd.R_lower (Kd.R_new' (Kd.R_new' (Kd.R_new' (Kd.R_new' ho4 (Kd.R_lt (Rk_ af))) (Kd.R_lt (Rk_ ag))) (Kd.R_lt (Rk_ ab))) (Kd.R_lt (Rk_ ac))) (below_size Lb_))
  have n19_:=Z_ (Kd.R_lower (Kd.R_new' (Kd.R_new' (Kd.R_new' (Kd.R_new' ho5 (Kd.R_lt (Rk_ af))) (Kd.R_lt (Rk_ ag))) (Kd.R_lt (Rk_ ab))) (Kd.R_lt (Rk_ ac))) (below_size Lb_))
  have n20_:=Z_ (bB_ (g:=ap) (o:=.cells #[.slice A0_0 l0_0.length c0_0,.slice A0_1 l0_1.length c0_1,.slice A0_2 l0_2.length c0_2,.slice A0_3 l0_3.length c0_3,.slice A0_4 l0_4.length c0_4,.slice A0_5 l0_5.length c0_5] 27 (0,0)) (Bk_ a0) hb)
  have n21_:=Z_ (bB_ (g:=ak) (o:=.cells #[.int .i64 t565,.slice ar t566.length aq] 39 (0,0)) (Bk_ a1) hb)
  have n22_:=Z_ (bB_ (g:=a5) (o:=.cells #[.slice b8 t570.length b4,.slice b9 t573.length b5,.slice b0 t576.length ay,.slice b1 t579.length az,.slice b6 t582.length b2,.slice b7 t585.length b3] 34 (0,0)) (Bk_ a2) hb)
  have n23_:=Z_ (bB_ (g:=ao) (o:=.cells #[.int .i64 t589,.slice av t590.length au] 39 (0,0)) (Bk_ a3) hb)
  have n24_:=Z_ (lP_ Lb_ hb)
  clear ai
  clear aj
  clear a6
  clear a7
  clear af
  clear ag
  clear a8
  clear a9
  clear aa
  clear ad
  clear ae
  clear ab
  clear ac
  clear an
  clear a0
  clear a1
  clear a2
  clear a3
  clear HB
  have ai:=n0_
  have aj:=n1_
  have a6:=n2_
  have a7:=n3_
  have af:=n4_
  have ag:=n5_
  have a8:=n6_
  have a9:=n7_
  have aa:=n8_
  have ad:=n9_
  have ae:=n10_
  have ab:=n11_
  have ac:=n12_
  have an:=n13_
  have ba:=n14_
  have bb:=n15_
  have bc:=n16_
  have bd:=n17_
  have be:=n18_
  have bf:=n19_
  have a0:=n20_
  have a1:=n21_
  have a2:=n22_
  have a3:=n23_
  have HB:=n24_
  clear n0_ n1_ n2_ n3_ n4_ n5_ n6_ n7_ n8_ n9_ n10_ n11_ n12_ n13_ n14_ n15_ n16_ n17_ n18_ n19_ n20_ n21_ n22_ n23_ n24_
  (try clear hb)
  (try clear hb2)
  (try clear hk)
  (try clear hi)
  (try clear ho0)
  (try clear ho1)
  (try clear ho2)
  (try clear ho3)
  (try clear ho4)
  (try clear ho5)
  obtain ⟨dd,de,eo57⟩:=Kd.R_slice ba.out
  (first | subst eo57 | (injection eo57 with f1_ f2_ f3_;have f4_:=f1_.symm;have f5_:=f3_.symm;clear f1_ f2_ f3_;subst f4_;subst f5_))
  obtain ⟨df,dg,eo58⟩:=Kd.S_slice bb.out
  (first | subst eo58 | (injection eo58 with f1_ f2_ f3_;have f4_:=f1_.symm;have f5_:=f3_.symm;clear f1_ f2_ f3_;subst f4_;subst f5_))
  obtain ⟨bz,c0,eo59⟩:=Kd.R_slice bc.out
  (first | subst eo59 | (injection eo59 with f1_ f2_ f3_;have f4_:=f1_.symm;have f5_:=f3_.symm;clear f1_ f2_ f3_;subst f4_;subst f5_))
  obtain ⟨c2,c8,eo60⟩:=Kd.R_slice bd.out
  (first | subst eo60 | (injection eo60 with f1_ f2_ f3_;have f4_:=f1_.symm;have f5_:=f3_.symm;clear f1_ f2_ f3_;subst f4_;subst f5_))
  obtain ⟨ch,ci,eo61⟩:=Kd.R_slice be.out
  (first | subst eo61 | (injection eo61 with f1_ f2_ f3_;have f4_:=f1_.symm;have f5_:=f3_.symm;clear f1_ f2_ f3_;subst f4_;subst f5_))
  obtain ⟨cj,ck,eo62⟩:=Kd.R_slice bf.out
  (first | subst eo62 | (injection eo62 with f1_ f2_ f3_;have f4_:=f1_.symm;have f5_:=f3_.symm;clear f1_ f2_ f3_;subst f4_;subst f5_))
  refine hK.out _ _ ⟨(blk_cell a2.out 0).trans rfl,(blk_cell a2.out 1).trans rfl,(blk_cell a2.out 2).trans rfl,(blk_cell a2.out 3).trans rfl,(blk_cell a2.out 4).trans rfl,(blk_cell a2.out 5).trans rfl,(blk_cell a0.out 0).trans rfl,(blk_cell a0.out 1).trans rfl,(blk_cell a0.out 2).trans rfl,(blk_cell a0.out 3).trans rfl,(blk_cell a0.out 4).trans rfl,(blk_cell a0.out 5).trans rfl⟩ (fun hHeld => ?_)
  clear hK K
  refine norm_ (a':=?_) ?_ ?_
  rotate_left
  ·show Act.put _ (some 29) _ = _
   simp only [Act.put,lA_,lZ_,lS_,i64_w,i32_w]
   rfl
  refine one_ (i:=3) (N:=some 30) #[true,true,true,true,false] rfl rfl (by kernel_rfl) (by decide) (fun K hK => ?_)
  refine goes_ Tryz.func9 (by kernel_rfl) rfl #[.agg #[.slice b8 t570.length b4,.slice b9 t573.length b5,.slice b0 t576.length ay,.slice b1 t579.length az,.slice b6 t582.length b2,.slice b7 t585.length b3],.agg #[.slice dd t595.length de,.slice df t598.length dg,.slice bz t601.length c0,.slice c2 t604.length c8,.slice ch t607.length ci,.slice cj t610.length ck]] (by rfl) rfl rfl (by (try simp only [List.map_toArray,List.map_cons,List.map_nil]);first | done | rfl | (simp only [List.length_drop,List.length_take];rfl)) ?_
  with_reducible refine (laws_eqNet.calls k _ _ t570 _ _ t573 _ _ t576 _ _ t579 _ _ t582 _ _ t585 _ _ t595 _ _ t598 _ _ t601 _ _ t604 _ _ t607 _ _ t610 true _ ?side1 ?side2 ?side3 ?side4 ?side5 ?side6 ?side7 ?side8 ?side9 ?side10 ?side11 ?side12 ?side13 ?side14 ?side15 ?side16 ?side17 ?side18 ?side19 ?side20 ?side21 ?side22 ?side23 ?side24 f5.out).mono ?_
  (case side1 => exact Rc_ a9)
  (case side2 => exact (Kd.R_reads' a9.out).2.1)
  (case side3 => exact Sc_ aa)
  (case side4 => exact (Kd.S_reads' aa.out).2.1)
  (case side5 => exact Rc_ ad)
  (case side6 => exact (Kd.R_reads' ad.out).2.1)
  (case side7 => exact Rc_ ae)
  (case side8 => exact (Kd.R_reads' ae.out).2.1)
  (case side9 => exact Rc_ ab)
  (case side10 => exact (Kd.R_reads' ab.out).2.1)
  (case side11 => exact Rc_ ac)
  (case side12 => exact (Kd.R_reads' ac.out).2.1)
  (case side13 => exact Rc_ ba)
  (case side14 => exact (Kd.R_reads' ba.out).2.1)
  (case side15 => exact Sc_ bb)
  (case side16 => exact (Kd.S_reads' bb.out).2.1)
  (case side17 => exact Rc_ bc)
  (case side18 => exact (Kd.R_reads' bc.out).2.1)
  (case side19 => exact Rc_ bd)
  (case side20 => exact (Kd.R_reads' bd.out).2.1)
  (case side21 => exact Rc_ be)
  (case side22 => exact (Kd.R_reads' be.out).2.1)
  (case side23 => exact Rc_ bf)
  (case side24 => exact (Kd.R_reads' bf.out).2.1)
  rintro e w63 ⟨rfl,hb⟩
  refine ⟨_,rfl,?_⟩
  replace ai:=Z_ (Kd.R_below (Rk_ ai) hb)
  replace aj:=Z_ (Kd.S_below (Sk_ aj) hb)
  replace a6:=Z_ (Kd.R_below (Rk_ a6) hb)
  replace a7:=Z_ (Kd.R_below (Rk_ a7) hb)
  replace af:=Z_ (Kd.R_below (Rk_ af) hb)
  replace ag:=Z_ (Kd.R_below (Rk_ ag) hb)
  replace a8:=Z_ (Kd.R_below (Rk_ a8) hb)
  replace a9:=Z_ (Kd.R_below (Rk_ a9) hb)
  replace aa:=Z_ (Kd.S_below (Sk_ aa) hb)
  replace ad:=Z_ (Kd.R_below (Rk_ ad) hb)
  replace ae:=Z_ (Kd.R_below (Rk_ ae) hb)
  replace ab:=Z_ (Kd.R_below (Rk_ ab) hb)
  replace ac:=Z_ (Kd.R_below (Rk_ ac) hb)
  replace an:=Z_ (Kd.R_below (Rk_ an) hb)
  replace ba:=Z_ (Kd.R_below (Rk_ ba) hb)
  replace bb:=Z_ (Kd.S_below (Sk_ bb) hb)
  replace bc:=Z_ (Kd.R_below (Rk_ bc) hb)
  replace bd:=Z_ (Kd.R_below (Rk_ bd) hb)
  replace be:=Z_ (Kd.R_below (Rk_ be) hb)
  replace bf:=Z_ (Kd.R_below (Rk_ bf) hb)
  replace a0:=Z_ (bB_ (g:=ap) (o:=.cells #[.slice A0_0 l0_0.length c0_0,.slice A0_1 l0_1.length c0_1,.slice A0_2 l0_2.length c0_2,.slice A0_3 l0_3.length c0_3,.slice A0_4 l0_4.length c0_4,.slice A0_5 l0_5.length c0_5] 27 (0,0)) (Bk_ a0) hb)
  replace a1:=Z_ (bB_ (g:=ak) (o:=.cells #[.int .i64 t565,.slice ar t566.length aq] 39 (0,0)) (Bk_ a1) hb)
  replace a2:=Z_ (bB_ (g:=a5) (o:=.cells #[.slice b8 t570.length b4,.slice b9 t573.length b5,.slice b0 t576.length ay,.slice b1 t579.length az,.slice b6 t582.length b2,.slice b7 t585.length b3] 34 (0,0)) (Bk_ a2) hb)
  replace a3:=Z_ (bB_ (g:=ao) (o:=.cells #[.int .i64 t589,.slice av t590.length au] 39 (0,0)) (Bk_ a3) hb)
  replace HB:=Z_ (lP_ Lb_ hb)
  (try clear hb)
  (try clear hb2)
  (try clear hk)
  (try clear hi)
  refine hK.out _ _ ⟨(blk_cell a2.out 0).trans rfl,(blk_cell a2.out 1).trans rfl,(blk_cell a2.out 2).trans rfl,(blk_cell a2.out 3).trans rfl,(blk_cell a2.out 4).trans rfl,(blk_cell a2.out 5).trans rfl,(blk_cell a0.out 0).trans rfl,(blk_cell a0.out 1).trans rfl,(blk_cell a0.out 2).trans rfl,(blk_cell a0.out 3).trans rfl,(blk_cell a0.out 4).trans rfl,(blk_cell a0.out 5).trans rfl⟩ (fun hHeld => ?_)
  clear hK K
  refine norm_ (a':=?_) ?_ ?_
  rotate_left
  ·show Act.put _ (some 30) _ = _
   simp only [Act.put,lA_,lZ_,lS_,i64_w,i32_w]
   rfl
  refine pu_ 4 (some 31) (Bt 5 31) (by kernel_rfl) ?_
  refine done_ (by kernel_rfl) ?_
  obtain ⟨_,_,_,_,_,_,_,_,_,_,_,_⟩:=bc6 a2.out
  go_upto_region 14 with (first | ((with_reducible refine gate_callee (f:=13) rfl ?_);refine goesA_ (some 34) rfl rfl Tryz.func13 (by kernel_rfl) rfl #[.agg #[.slice b8 t570.length b4,.slice b9 t573.length b5,.slice b0 t576.length ay,.slice b1 t579.length az,.slice b6 t582.length b2,.slice b7 t585.length b3],.int .i64 1] rfl ?_;(with_reducible refine (laws_markNet.calls k (fun k_ => some k_ = (.slice b8 t570.length b4 : Value).ownBlock) (.slice b8 t570.length b4) t570 (fun k_ => some k_ = (.slice b9 t573.length b5 : Value).ownBlock) (.slice b9 t573.length b5) t573 (fun k_ => some k_ = (.slice b0 t576.length ay : Value).ownBlock) (.slice b0 t576.length ay) t576 (fun k_ => some k_ = (.slice b1 t579.length az : Value).ownBlock) (.slice b1 t579.length az) t579 (fun k_ => some k_ = (.slice b6 t582.length b2 : Value).ownBlock) (.slice b6 t582.length b2) t582 (fun k_ => some k_ = (.slice b7 t585.length b3 : Value).ownBlock) (.slice b7 t585.length b3) t585 1 t614 w _ ?side1 ?side2 ?side3 ?side4 ?side5 ?side6 ?side7 ?side8 ?side9 ?side10 ?side11 f6.out).mono ?_);(case side1 => repeat (first | (with_reducible first | exact HB.out | apply lA1_ | apply lN_ | apply lD_ | refine lS1_ ?_ ah.out | refine lS1_ ?_ am.out | refine lS1_ ?_ aw.out | refine lS1_ ?_ ax.out) | exact HB.out));(case side2 => exact Kd.R_tight rfl a9.out);(case side3 => exact ⟨Kd.S_mono (aa.out) (fun _ _ => trivial),fun _ h => h⟩);(case side4 => exact Kd.R_tight rfl ad.out);(case side5 => exact fun k_ e_ => (ad.out.1 k_ e_.symm).1.1.1.1.1.1);(case side6 => exact Kd.R_tight rfl ae.out);(case side7 => exact fun k_ e_ => (ae.out.1 k_ e_.symm).1.1.1.1.1.1);(case side8 => exact Kd.R_tight rfl ab.out);(case side9 => exact fun k_ e_ => (ab.out.1 k_ e_.symm).1.1.1.1);(case side10 => exact Kd.R_tight rfl ac.out);(case side11 => exact fun k_ e_ => (ac.out.1 k_ e_.symm).1.1.1.1);rintro e w65 ⟨rfl,hb,hkp⟩;refine ⟨_,rfl,?_⟩;replace a0:=Z_ (blk_keptN (Bk_ a0) hkp (fun hs_ => Or.elim hs_ (fun e_ => (fun e_ => (Kd.R_ne a9.out a0.out (by decide)) e_) e_) (fun e_ => Or.elim e_ (fun e_ => (fun e_ => (Kd.S_ne aa.out a0.out (by decide)) e_) e_) (fun e_ => Or.elim e_ (fun e_ => (fun e_ => (Kd.R_ne ad.out a0.out (by decide)) e_) e_) (fun e_ => Or.elim e_ (fun e_ => (fun e_ => (Kd.R_ne ae.out a0.out (by decide)) e_) e_) (fun e_ => Or.elim e_ (fun e_ => (fun e_ => (Kd.R_ne ab.out a0.out (by decide)) e_) e_) (fun e_ => (fun e_ => (Kd.R_ne ac.out a0.out (by decide)) e_) e_)))))));replace ai:=Z_ (Kd.R_mono (ok':=fun k_ => some k_ ≠ (.slice dd t595.length de : Value).ownBlock) (R_keptN ((Kd.R_apart' (Kd.R_apart' (Kd.R_apart' (Kd.R_apart' (Kd.R_apart' ai.out (Kd.S_typed aa.out) (by decide)) (Kd.R_typed ad.out) (by decide)) (Kd.R_typed ae.out) (by decide)) (Kd.R_typed ab.out) (by decide)) (Kd.R_typed ac.out) (by decide))) hkp (fun k_ hk_ hs_ => Or.elim hs_ (fun e_ => (hk_.1.1.1.1.1.1.2) e_) (fun e_ => Or.elim e_ (fun e_ => (hk_.1.1.1.1.2) e_) (fun e_ => Or.elim e_ (fun e_ => (hk_.1.1.1.2) e_) (fun e_ => Or.elim e_ (fun e_ => (hk_.1.1.2) e_) (fun e_ => Or.elim e_ (fun e_ => (hk_.1.2) e_) (fun e_ => (hk_.2) e_))))))) (fun k_ hk_ => hk_.1.1.1.1.1.1.2));replace aj:=Z_ (S_gone w65 (base:=w.heap.size) (fun k_ => some k_ ≠ (.slice df t598.length dg : Value).ownBlock));replace a6:=Z_ (Kd.R_mono (ok':=fun k_ => some k_ ≠ (.slice bl t556.length bm : Value).ownBlock ∧ some k_ ≠ (.slice ar t566.length aq : Value).ownBlock ∧ some k_ ≠ (.slice av t590.length au : Value).ownBlock ∧ some k_ ≠ (.slice bz t601.length c0 : Value).ownBlock ∧ some k_ ≠ (.slice c2 t604.length c8 : Value).ownBlock) (R_keptN ((Kd.R_apart' (Kd.R_apart' (Kd.R_apart' (Kd.R_apart' a6.out (Kd.R_typed a9.out) (by decide)) (Kd.S_typed aa.out) (by decide)) (Kd.R_typed ab.out) (by decide)) (Kd.R_typed ac.out) (by decide))) hkp (fun k_ hk_ hs_ => Or.elim hs_ (fun e_ => (hk_.1.1.1.2) e_) (fun e_ => Or.elim e_ (fun e_ => (hk_.1.1.2) e_) (fun e_ => Or.elim e_ (fun e_ => (hk_.1.1.1.1.1.1.1.1.2) e_) (fun e_ => Or.elim e_ (fun e_ => (hk_.1.1.1.1.1.1.1.2) e_) (fun e_ => Or.elim e_ (fun e_ => (hk_.1.2) e_) (fun e_ => (hk_.2) e_))))))) (fun k_ hk_ => ⟨hk_.1.1.1.1.1.1.1.1.1.1.1,hk_.1.1.1.1.1.1.1.1.1.1.2,hk_.1.1.1.1.1.1.1.2,hk_.1.1.1.1.1.1.2,hk_.1.1.1.1.1.2⟩));replace a7:=Z_ (Kd.R_mono (ok':=fun k_ => some k_ ≠ (.slice bj t553.length bk : Value).ownBlock ∧ some k_ ≠ (.slice ar t566.length aq : Value).ownBlock ∧ some k_ ≠ (.slice av t590.length au : Value).ownBlock ∧ some k_ ≠ (.slice bz t601.length c0 : Value).ownBlock ∧ some k_ ≠ (.slice c2 t604.length c8 : Value).ownBlock) (R_keptN ((Kd.R_apart' (Kd.R_apart' (Kd.R_apart' (Kd.R_apart' a7.out (Kd.R_typed a9.out) (by decide)) (Kd.S_typed aa.out) (by decide)) (Kd.R_typed ab.out) (by decide)) (Kd.R_typed ac.out) (by decide))) hkp (fun k_ hk_ hs_ => Or.elim hs_ (fun e_ => (hk_.1.1.1.2) e_) (fun e_ => Or.elim e_ (fun e_ => (hk_.1.1.2) e_) (fun e_ => Or.elim e_ (fun e_ => (hk_.1.1.1.1.1.1.1.1.2) e_) (fun e_ => Or.elim e_ (fun e_ => (hk_.1.1.1.1.1.1.1.2) e_) (fun e_ => Or.elim e_ (fun e_ => (hk_.1.2) e_) (fun e_ => (hk_.2) e_))))))) (fun k_ hk_ => ⟨hk_.1.1.1.1.1.1.1.1.1.1.1,hk_.1.1.1.1.1.1.1.1.1.1.2,hk_.1.1.1.1.1.1.1.2,hk_.1.1.1.1.1.1.2,hk_.1.1.1.1.1.2⟩));replace af:=Z_ (Kd.R_mono (ok':=fun k_ => some k_ ≠ (.slice bw t562.length bx : Value).ownBlock ∧ some k_ ≠ (.slice ch t607.length ci : Value).ownBlock ∧ some k_ ≠ (.slice cj t610.length ck : Value).ownBlock) (R_keptN ((Kd.R_apart' (Kd.R_apart' (Kd.R_apart' (Kd.R_apart' af.out (Kd.R_typed a9.out) (by decide)) (Kd.S_typed aa.out) (by decide)) (Kd.R_typed ad.out) (by decide)) (Kd.R_typed ae.out) (by decide))) hkp (fun k_ hk_ hs_ => Or.elim hs_ (fun e_ => (hk_.1.1.1.2) e_) (fun e_ => Or.elim e_ (fun e_ => (hk_.1.1.2) e_) (fun e_ => Or.elim e_ (fun e_ => (hk_.1.2) e_) (fun e_ => Or.elim e_ (fun e_ => (hk_.2) e_) (fun e_ => Or.elim e_ (fun e_ => (hk_.1.1.1.1.1.1.1.2) e_) (fun e_ => (hk_.1.1.1.1.1.1.2) e_))))))) (fun k_ hk_ => ⟨hk_.1.1.1.1.1.1.1.1.1,hk_.1.1.1.1.1.1.2,hk_.1.1.1.1.1.2⟩));replace ag:=Z_ (Kd.R_mono (ok':=fun k_ => some k_ ≠ (.slice bu t559.length bv : Value).ownBlock ∧ some k_ ≠ (.slice ch t607.length ci : Value).ownBlock ∧ some k_ ≠ (.slice cj t610.length ck : Value).ownBlock) (R_keptN ((Kd.R_apart' (Kd.R_apart' (Kd.R_apart' (Kd.R_apart' ag.out (Kd.R_typed a9.out) (by decide)) (Kd.S_typed aa.out) (by decide)) (Kd.R_typed ad.out) (by decide)) (Kd.R_typed ae.out) (by decide))) hkp (fun k_ hk_ hs_ => Or.elim hs_ (fun e_ => (hk_.1.1.1.2) e_) (fun e_ => Or.elim e_ (fun e_ => (hk_.1.1.2) e_) (fun e_ => Or.elim e_ (fun e_ => (hk_.1.2) e_) (fun e_ => Or.elim e_ (fun e_ => (hk_.2) e_) (fun e_ => Or.elim e_ (fun e_ => (hk_.1.1.1.1.1.1.1.2) e_) (fun e_ => (hk_.1.1.1.1.1.1.2) e_))))))) (fun k_ hk_ => ⟨hk_.1.1.1.1.1.1.1.1.1,hk_.1.1.1.1.1.1.2,hk_.1.1.1.1.1.2⟩));replace a8:=Z_ (Kd.R_mono (ok':=fun k_ => some k_ ≠ (.slice bj t553.length bk : Value).ownBlock ∧ some k_ ≠ (.slice bl t556.length bm : Value).ownBlock ∧ some k_ ≠ (.slice av t590.length au : Value).ownBlock ∧ some k_ ≠ (.slice bz t601.length c0 : Value).ownBlock ∧ some k_ ≠ (.slice c2 t604.length c8 : Value).ownBlock) (R_keptN ((Kd.R_apart' (Kd.R_apart' (Kd.R_apart' (Kd.R_apart' a8.out (Kd.R_typed a9.out) (by decide)) (Kd.S_typed aa.out) (by decide)) (Kd.R_typed ab.out) (by decide)) (Kd.R_typed ac.out) (by decide))) hkp (fun k_ hk_ hs_ => Or.elim hs_ (fun e_ => (hk_.1.1.1.2) e_) (fun e_ => Or.elim e_ (fun e_ => (hk_.1.1.2) e_) (fun e_ => Or.elim e_ (fun e_ => (hk_.1.1.1.1.1.1.1.1.2) e_) (fun e_ => Or.elim e_ (fun e_ => (hk_.1.1.1.1.1.1.1.2) e_) (fun e_ => Or.elim e_ (fun e_ => (hk_.1.2) e_) (fun e_ => (hk_.2) e_))))))) (fun k_ hk_ => ⟨hk_.1.1.1.1.1.1.1.1.1.1.1.2,hk_.1.1.1.1.1.1.1.1.1.1.2,hk_.1.1.1.1.1.1.1.2,hk_.1.1.1.1.1.1.2,hk_.1.1.1.1.1.2⟩));replace a1:=Z_ (blk_keptN (Bk_ a1) hkp (fun hs_ => Or.elim hs_ (fun e_ => (fun e_ => (Kd.R_ne a9.out a1.out (by decide)) e_) e_) (fun e_ => Or.elim e_ (fun e_ => (fun e_ => (Kd.S_ne aa.out a1.out (by decide)) e_) e_) (fun e_ => Or.elim e_ (fun e_ => (fun e_ => (Kd.R_ne ad.out a1.out (by decide)) e_) e_) (fun e_ => Or.elim e_ (fun e_ => (fun e_ => (Kd.R_ne ae.out a1.out (by decide)) e_) e_) (fun e_ => Or.elim e_ (fun e_ => (fun e_ => (Kd.R_ne ab.out a1.out (by decide)) e_) e_) (fun e_ => (fun e_ => (Kd.R_ne ac.out a1.out (by decide)) e_) e_)))))));replace a2:=Z_ (blk_keptN (Bk_ a2) hkp (fun hs_ => Or.elim hs_ (fun e_ => (fun e_ => (Kd.R_ne a9.out a2.out (by decide)) e_) e_) (fun e_ => Or.elim e_ (fun e_ => (fun e_ => (Kd.S_ne aa.out a2.out (by decide)) e_) e_) (fun e_ => Or.elim e_ (fun e_ => (fun e_ => (Kd.R_ne ad.out a2.out (by decide)) e_) e_) (fun e_ => Or.elim e_ (fun e_ => (fun e_ => (Kd.R_ne ae.out a2.out (by decide)) e_) e_) (fun e_ => Or.elim e_ (fun e_ => (fun e_ => (Kd.R_ne ab.out a2.out (by decide)) e_) e_) (fun e_ => (fun e_ => (Kd.R_ne ac.out a2.out (by decide)) e_) e_)))))));replace an:=Z_ (Kd.R_mono (ok':=fun k_ => some k_ ≠ (.slice bj t553.length bk : Value).ownBlock ∧ some k_ ≠ (.slice bl t556.length bm : Value).ownBlock ∧ some k_ ≠ (.slice ar t566.length aq : Value).ownBlock ∧ some k_ ≠ (.slice bz t601.length c0 : Value).ownBlock ∧ some k_ ≠ (.slice c2 t604.length c8 : Value).ownBlock) (R_keptN ((Kd.R_apart' (Kd.R_apart' (Kd.R_apart' (Kd.R_apart' an.out (Kd.R_typed a9.out) (by decide)) (Kd.S_typed aa.out) (by decide)) (Kd.R_typed ab.out) (by decide)) (Kd.R_typed ac.out) (by decide))) hkp (fun k_ hk_ hs_ => Or.elim hs_ (fun e_ => (hk_.1.1.1.2) e_) (fun e_ => Or.elim e_ (fun e_ => (hk_.1.1.2) e_) (fun e_ => Or.elim e_ (fun e_ => (hk_.1.1.1.1.1.1.1.2) e_) (fun e_ => Or.elim e_ (fun e_ => (hk_.1.1.1.1.1.1.2) e_) (fun e_ => Or.elim e_ (fun e_ => (hk_.1.2) e_) (fun e_ => (hk_.2) e_))))))) (fun k_ hk_ => ⟨hk_.1.1.1.1.1.1.1.1.1.1.1.2,hk_.1.1.1.1.1.1.1.1.1.1.2,hk_.1.1.1.1.1.1.1.1.1.2,hk_.1.1.1.1.1.1.2,hk_.1.1.1.1.1.2⟩));replace a3:=Z_ (blk_keptN (Bk_ a3) hkp (fun hs_ => Or.elim hs_ (fun e_ => (fun e_ => (Kd.R_ne a9.out a3.out (by decide)) e_) e_) (fun e_ => Or.elim e_ (fun e_ => (fun e_ => (Kd.S_ne aa.out a3.out (by decide)) e_) e_) (fun e_ => Or.elim e_ (fun e_ => (fun e_ => (Kd.R_ne ad.out a3.out (by decide)) e_) e_) (fun e_ => Or.elim e_ (fun e_ => (fun e_ => (Kd.R_ne ae.out a3.out (by decide)) e_) e_) (fun e_ => Or.elim e_ (fun e_ => (fun e_ => (Kd.R_ne ab.out a3.out (by decide)) e_) e_) (fun e_ => (fun e_ => (Kd.R_ne ac.out a3.out (by decide)) e_) e_)))))));replace ba:=Z_ (Kd.R_mono (ok':=fun k_ => some k_ ≠ (.slice d1 t547.length d2 : Value).ownBlock) (R_keptN ((Kd.R_apart' (Kd.R_apart' (Kd.R_apart' (Kd.R_apart' (Kd.R_apart' ba.out (Kd.S_typed aa.out) (by decide)) (Kd.R_typed ad.out) (by decide)) (Kd.R_typed ae.out) (by decide)) (Kd.R_typed ab.out) (by decide)) (Kd.R_typed ac.out) (by decide))) hkp (fun k_ hk_ hs_ => Or.elim hs_ (fun e_ => (hk_.1.1.1.1.1.2) e_) (fun e_ => Or.elim e_ (fun e_ => (hk_.1.1.1.1.2) e_) (fun e_ => Or.elim e_ (fun e_ => (hk_.1.1.1.2) e_) (fun e_ => Or.elim e_ (fun e_ => (hk_.1.1.2) e_) (fun e_ => Or.elim e_ (fun e_ => (hk_.1.2) e_) (fun e_ => (hk_.2) e_))))))) (fun k_ hk_ => hk_.1.1.1.1.1.1.1.2));replace bb:=Z_ (S_gone w65 (base:=w.heap.size) (fun k_ => some k_ ≠ (.slice d3 t550.length d4 : Value).ownBlock));replace bc:=Z_ (Kd.R_mono (ok':=fun k_ => some k_ ≠ (.slice bj t553.length bk : Value).ownBlock ∧ some k_ ≠ (.slice bl t556.length bm : Value).ownBlock ∧ some k_ ≠ (.slice ar t566.length aq : Value).ownBlock ∧ some k_ ≠ (.slice av t590.length au : Value).ownBlock ∧ some k_ ≠ (.slice c2 t604.length c8 : Value).ownBlock) (R_keptN ((Kd.R_apart' (Kd.R_apart' (Kd.R_apart' (Kd.R_apart' bc.out (Kd.R_typed a9.out) (by decide)) (Kd.S_typed aa.out) (by decide)) (Kd.R_typed ab.out) (by decide)) (Kd.R_typed ac.out) (by decide))) hkp (fun k_ hk_ hs_ => Or.elim hs_ (fun e_ => (hk_.1.1.1.2) e_) (fun e_ => Or.elim e_ (fun e_ => (hk_.1.1.2) e_) (fun e_ => Or.elim e_ (fun e_ => (hk_.1.1.1.1.1.1.2) e_) (fun e_ => Or.elim e_ (fun e_ => (hk_.1.1.1.1.1.2) e_) (fun e_ => Or.elim e_ (fun e_ => (hk_.1.2) e_) (fun e_ => (hk_.2) e_))))))) (fun k_ hk_ => ⟨hk_.1.1.1.1.1.1.1.1.1.1.2,hk_.1.1.1.1.1.1.1.1.1.2,hk_.1.1.1.1.1.1.1.1.2,hk_.1.1.1.1.1.2,hk_.1.1.1.1.1.1.1.1.1.1.1⟩));replace bd:=Z_ (Kd.R_mono (ok':=fun k_ => some k_ ≠ (.slice bj t553.length bk : Value).ownBlock ∧ some k_ ≠ (.slice bl t556.length bm : Value).ownBlock ∧ some k_ ≠ (.slice ar t566.length aq : Value).ownBlock ∧ some k_ ≠ (.slice av t590.length au : Value).ownBlock ∧ some k_ ≠ (.slice bz t601.length c0 : Value).ownBlock) (R_keptN ((Kd.R_apart' (Kd.R_apart' (Kd.R_apart' (Kd.R_apart' bd.out (Kd.R_typed a9.out) (by decide)) (Kd.S_typed aa.out) (by decide)) (Kd.R_typed ab.out) (by decide)) (Kd.R_typed ac.out) (by decide))) hkp (fun k_ hk_ hs_ => Or.elim hs_ (fun e_ => (hk_.1.1.1.2) e_) (fun e_ => Or.elim e_ (fun e_ => (hk_.1.1.2) e_) (fun e_ => Or.elim e_ (fun e_ => (hk_.1.1.1.1.1.1.2) e_) (fun e_ => Or.elim e_ (fun e_ => (hk_.1.1.1.1.1.2) e_) (fun e_ => Or.elim e_ (fun e_ => (hk_.1.2) e_) (fun e_ => (hk_.2) e_))))))) (fun k_ hk_ => ⟨hk_.1.1.1.1.1.1.1.1.1.1.2,hk_.1.1.1.1.1.1.1.1.1.2,hk_.1.1.1.1.1.1.1.1.2,hk_.1.1.1.1.1.2,hk_.1.1.1.1.1.1.1.1.1.1.1⟩));replace be:=Z_ (Kd.R_mono (ok':=fun k_ => some k_ ≠ (.slice bu t559.length bv : Value).ownBlock ∧ some k_ ≠ (.slice bw t562.length bx : Value).ownBlock ∧ some k_ ≠ (.slice cj t610.length ck : Value).ownBlock) (R_keptN ((Kd.R_apart' (Kd.R_apart' (Kd.R_apart' (Kd.R_apart' be.out (Kd.R_typed a9.out) (by decide)) (Kd.S_typed aa.out) (by decide)) (Kd.R_typed ad.out) (by decide)) (Kd.R_typed ae.out) (by decide))) hkp (fun k_ hk_ hs_ => Or.elim hs_ (fun e_ => (hk_.1.1.1.2) e_) (fun e_ => Or.elim e_ (fun e_ => (hk_.1.1.2) e_) (fun e_ => Or.elim e_ (fun e_ => (hk_.1.2) e_) (fun e_ => Or.elim e_ (fun e_ => (hk_.2) e_) (fun e_ => Or.elim e_ (fun e_ => (hk_.1.1.1.1.1.2) e_) (fun e_ => (hk_.1.1.1.1.2) e_))))))) (fun k_ hk_ => ⟨hk_.1.1.1.1.1.1.1.1.2,hk_.1.1.1.1.1.1.1.2,hk_.1.1.1.1.1.1.1.1.1⟩));replace bf:=Z_ (Kd.R_mono (ok':=fun k_ => some k_ ≠ (.slice bu t559.length bv : Value).ownBlock ∧ some k_ ≠ (.slice bw t562.length bx : Value).ownBlock ∧ some k_ ≠ (.slice ch t607.length ci : Value).ownBlock) (R_keptN ((Kd.R_apart' (Kd.R_apart' (Kd.R_apart' (Kd.R_apart' bf.out (Kd.R_typed a9.out) (by decide)) (Kd.S_typed aa.out) (by decide)) (Kd.R_typed ad.out) (by decide)) (Kd.R_typed ae.out) (by decide))) hkp (fun k_ hk_ hs_ => Or.elim hs_ (fun e_ => (hk_.1.1.1.2) e_) (fun e_ => Or.elim e_ (fun e_ => (hk_.1.1.2) e_) (fun e_ => Or.elim e_ (fun e_ => (hk_.1.2) e_) (fun e_ => Or.elim e_ (fun e_ => (hk_.2) e_) (fun e_ => Or.elim e_ (fun e_ => (hk_.1.1.1.1.1.2) e_) (fun e_ => (hk_.1.1.1.1.2) e_))))))) (fun k_ hk_ => ⟨hk_.1.1.1.1.1.1.1.1.2,hk_.1.1.1.1.1.1.1.2,hk_.1.1.1.1.1.1.1.1.1⟩));replace HB:=Z_ (hb);clear a9 aa ad ae ab ac;(try clear hb);(try clear hkp)))
  (try simp only [Act.put,lA_,lZ_,lS_])
  go_cut [42] (fun v42 wc => ∃ (kq : Nat) (x42_16 : Bool),v42 = .bool x42_16 ∧ Aside0 (laws_FnExactKnownTo.j0 kq x42_16 l0_0 l0_1 l0_2 l0_3 l0_4 l0_5 t565 t566 t589 t590 = some true) ∧ Aside0 (kq ≤ k) ∧ Aside0 (Kd.R (Kd.int .i64) 2 wc w.heap.size (fun k_ => some k_ ≠ ((.slice av t590.length au) : Value).ownBlock) (.slice ar t566.length aq) t566) ∧ Aside0 (Kd.R (Kd.int .i64) 2 wc w.heap.size (fun k_ => some k_ ≠ ((.slice ar t566.length aq) : Value).ownBlock) (.slice av t590.length au) t590) ∧ Aside0 (wc.heap[ap]? = some (.cells #[(.slice A0_0 l0_0.length c0_0),(.slice A0_1 l0_1.length c0_1),(.slice A0_2 l0_2.length c0_2),(.slice A0_3 l0_3.length c0_3),(.slice A0_4 l0_4.length c0_4),(.slice A0_5 l0_5.length c0_5)] 27 (0,0))) ∧ Aside0 (wc.heap[ak]? = some (.cells #[.int .i64 t565,(.slice ar t566.length aq)] 39 (0,0))) ∧ Aside0 (wc.heap[ao]? = some (.cells #[.int .i64 t589,(.slice av t590.length au)] 39 (0,0))) ∧ Aside0 (Below w.heap.size w wc))
  case first =>
   have H:=d0.out
   clear d0
   replace H:=iD_ H
   obtain ⟨c66b0,H⟩ | ⟨c66b0,H⟩:=H
   ·(first | rw [c66b0] | (simp only [i64_w,i32_w];rw [c66b0]) | skip)
    have H':=Z_ H
    clear H
    go_wp2
    go_meet
    case rel => exact ⟨_,(true),Sr_,H',Ol_,⟨by (with_reducible repeat first | apply rA_ | apply rN_ | apply rD_);exact Kd.R_mono a8.out (fun _ hk => hk.2.2.1)⟩,⟨by (with_reducible repeat first | apply rA_ | apply rN_ | apply rD_);exact Kd.R_mono an.out (fun _ hk => hk.2.2.1)⟩,⟨Bk_ a0⟩,⟨Bk_ a1⟩,⟨Bk_ a3⟩,⟨Lb_⟩⟩
   (first | rw [c66b0] | (simp only [i64_w,i32_w];rw [c66b0]) | skip)
   replace H:=bS_ H
   obtain ⟨t615,f7,H⟩:=H
   have H':=Z_ H
   clear H
   have fw:=bq.out
   have fx:=bh.out
   have fy:=br.out
   have fz:=bi.out
   have g0:=cc.out
   have g1:=bs.out
   obtain ⟨_,_,_,_⟩:=bc2 a3.out
   have g2:=bo.out
   have g3:=bg.out
   have g4:=bp.out
   have g5:=cb.out
   obtain ⟨_,_,_,_⟩:=bc2 a1.out
   go_wp2_with (first | (go_at_call 12;(with_reducible refine (laws_eqIntsResult.calls k t589 _ _ t590 t565 _ _ t566 t615 _ ?side1 ?side2 ?side3 ?side4 f7.out).mono ?_);(case side1 => exact Rc_ an);(case side2 => exact (Kd.R_reads' an.out).2.1);(case side3 => exact Rc_ a8);(case side4 => exact (Kd.R_reads' a8.out).2.1);rintro e w75 ⟨rfl,hb⟩;replace ai:=Z_ (Kd.R_below (Rk_ ai) hb);replace aj:=Z_ (Kd.S_below (Sk_ aj) hb);replace a6:=Z_ (Kd.R_below (Rk_ a6) hb);replace a7:=Z_ (Kd.R_below (Rk_ a7) hb);replace af:=Z_ (Kd.R_below (Rk_ af) hb);replace ag:=Z_ (Kd.R_below (Rk_ ag) hb);replace a8:=Z_ (Kd.R_below (Rk_ a8) hb);replace an:=Z_ (Kd.R_below (Rk_ an) hb);replace ba:=Z_ (Kd.R_below (Rk_ ba) hb);replace bb:=Z_ (Kd.S_below (Sk_ bb) hb);replace bc:=Z_ (Kd.R_below (Rk_ bc) hb);replace bd:=Z_ (Kd.R_below (Rk_ bd) hb);replace be:=Z_ (Kd.R_below (Rk_ be) hb);replace bf:=Z_ (Kd.R_below (Rk_ bf) hb);replace a0:=Z_ (bB_ (g:=ap) (o:=.cells #[.slice A0_0 l0_0.length c0_0,.slice A0_1 l0_1.length c0_1,.slice A0_2 l0_2.length c0_2,.slice A0_3 l0_3.length c0_3,.slice A0_4 l0_4.length c0_4,.slice A0_5 l0_5.length c0_5] 27 (0,0)) (Bk_ a0) hb);replace a1:=Z_ (bB_ (g:=ak) (o:=.cells #[.int .i64 t565,.slice ar t566.length aq] 39 (0,0)) (Bk_ a1) hb);replace a2:=Z_ (bB_ (g:=a5) (o:=.cells #[.slice b8 t570.length b4,.slice b9 t573.length b5,.slice b0 t576.length ay,.slice b1 t579.length az,.slice b6 t582.length b2,.slice b7 t585.length b3] 34 (0,0)) (Bk_ a2) hb);replace a3:=Z_ (bB_ (g:=ao) (o:=.cells #[.int .i64 t589,.slice av t590.length au] 39 (0,0)) (Bk_ a3) hb);replace HB:=Z_ (lP_ Lb_ hb);(try clear hb)))
   go_meet
   case rel => exact ⟨_,(!t615),Sr_,H',Ol_,⟨by (with_reducible repeat first | apply rA_ | apply rN_ | apply rD_);exact Kd.R_mono a8.out (fun _ hk => hk.2.2.1)⟩,⟨by (with_reducible repeat first | apply rA_ | apply rN_ | apply rD_);exact Kd.R_mono an.out (fun _ hk => hk.2.2.1)⟩,⟨Bk_ a0⟩,⟨Bk_ a1⟩,⟨Bk_ a3⟩,⟨Lb_⟩⟩
  case rest =>
   clear d0
   try clear c1
   try clear p2
   try clear c3
   try clear c3b0
   try clear c4
   try clear c5
   try clear c6
   try clear c7
   try clear c9
   try clear c10
   try clear c11
   try clear c12
   try clear c13
   try clear c15
   try clear c31
   try clear c38
   try clear c39
   try clear c48
   try clear c49
   try clear c50
   try clear c66
   try clear c66b0
   try clear c68
   try clear c69
   try clear c70
   try clear c72
   try clear c73
   obtain ⟨kq,x42_16,rfl,HA,HJ16,al,a4,a0,a1,a3,HB⟩:=hcut
   cases kq with
   | zero => exact absurd HA.out (by simp [laws_FnExactKnownTo.j0])
   | succ kj16 =>
    have H:=HA.out
    clear HA
    simp only [laws_FnExactKnownTo.j0] at H
    replace H:=iB_ H
    obtain ⟨rfl,H⟩ | ⟨rfl,H⟩:=H
    rotate_left
    replace H:=bS_ H
    obtain ⟨⟨t616,t617⟩,f8,H⟩:=H
    try dsimp only at H
    replace H:=bS_ H
    obtain ⟨t618,f9,H⟩:=H
    replace H:=iD_ H
    obtain ⟨c79b0,H⟩ | ⟨c79b0,H⟩:=H
    rotate_left
    replace H:=iE_ H
    obtain ⟨c80b0,c80b1,H⟩ | ⟨c80b0,c80b1,H⟩:=H
    replace H:=bS_ H
    obtain ⟨⟨t619,t622,t625,t628,t631,t634⟩,fa,H⟩:=H
    try dsimp only at H
    replace H:=bS_ H
    obtain ⟨⟨t637,t638⟩,fb,H⟩:=H
    try dsimp only at H
    replace H:=bS_ H
    obtain ⟨t642,fc,H⟩:=H
    replace H:=iB_ H
    obtain ⟨rfl,H⟩ | ⟨rfl,H⟩:=H
    replace H:=bS_ H
    obtain ⟨t643,fd,H⟩:=H
    replace H:=iD_ H
    obtain ⟨c86b0,H⟩ | ⟨c86b0,H⟩:=H
    rotate_left
    replace H:=iE_ H
    obtain ⟨c87b0,c87b1,H⟩ | ⟨c87b0,c87b1,H⟩:=H
    ·clear H
     have g6:=bq.out
     have g7:=bh.out
     have g8:=br.out
     have g9:=bi.out
     obtain ⟨_,_,_,_⟩:=bc2 a3.out
     go_wp2_with (first | ((with_reducible refine gate_callee (f:=14) rfl ?_);refine goesA_ (some 45) rfl rfl Tryz.func14 (by kernel_rfl) rfl #[.agg #[.int .i64 t589,.slice av t590.length au],.int .i64 1] rfl ?_;(with_reducible refine (laws_markIntsResult.calls kj16 t589 (fun k_ => some k_ = (.slice av t590.length au : Value).ownBlock) (.slice av t590.length au) t590 1 t616 t617 w _ ?side1 ?side2 f8.out).mono ?_);(case side1 => repeat (first | (with_reducible first | exact HB.out | refine lS1_ ?_ ah.out | refine lS1_ ?_ am.out | refine lS1_ ?_ ax.out) | exact HB.out));(case side2 => exact Kd.R_tight rfl a4.out);rintro e w91 ⟨rfl,hy0,hb,hkp⟩;refine ⟨_,rfl,?_⟩;replace al:=Z_ (Kd.R_mono (ok':=fun k_ => some k_ ≠ (.slice av t590.length au : Value).ownBlock) (Kd.R_keptB (al.out) hkp (fun k_ hk_ hs_ => (hk_) hs_)) (fun k_ hk_ => hk_.1));replace a0:=Z_ (blk_kept a0.out hkp (fun hs_ => (fun e_ => (Kd.R_ne a4.out a0.out (by decide)) e_) hs_));replace a1:=Z_ (blk_kept a1.out hkp (fun hs_ => (fun e_ => (Kd.R_ne a4.out a1.out (by decide)) e_) hs_));replace a3:=Z_ (blk_kept a3.out hkp (fun hs_ => (fun e_ => (Kd.R_ne a4.out a3.out (by decide)) e_) hs_));replace a4:=Z_ (Kd.R_reok rfl hy0 (fun k_ e_ => a4.out.1 k_ e_));replace HB:=Z_ (hb);(try clear hb);(try clear hkp);(try clear hy0);obtain ⟨_,_,_,_⟩:=bc2 a3.out) | ((with_reducible refine gate_callee (f:=15) rfl ?_);refine goesL_ (some 48) rfl rfl Tryz.func15 (by kernel_rfl) rfl #[.agg #[.int .i64 t589,.slice av t617.length au],.int .i64 1] rfl (by (try simp only [List.map_toArray,List.map_cons,List.map_nil]);first | done | (rw [show t617.length = t590.length from (Kd.R_reads' a4.out).1.symm] <;> rfl) | rfl | (simp only [List.length_drop,List.length_take];rfl)) ?_;(with_reducible refine (laws_heldIntsResult.calls kj16 t589 _ _ t617 1 t618 _ ?side1 ?side2 f9.out).mono ?_);(case side1 => exact Rc_ a4);(case side2 => rw [show t617.length = t590.length from (Kd.R_reads' a4.out).1.symm];exact (Kd.R_reads' a4.out).2.1);rintro e w93 ⟨rfl,hb⟩;refine ⟨_,rfl,?_⟩;replace al:=Z_ (Kd.R_below al.out hb);replace a4:=Z_ (Kd.R_below a4.out hb);replace a0:=Z_ (bB_ a0.out hb);replace a1:=Z_ (bB_ a1.out hb);replace a3:=Z_ (bB_ a3.out hb);replace HB:=Z_ (lP_ HB.out hb);(try clear hb);have ga:=bg.out;have gb:=bo.out;obtain ⟨_,_,_,_,_,_,_,_,_,_,_,_⟩:=bc6 a0.out) | ((with_reducible refine gate_callee (f:=7) rfl ?_);refine goesA_ (some 55) rfl rfl Tryz.func7 (by kernel_rfl) rfl #[.agg #[.slice A0_0 l0_0.length c0_0,.slice A0_1 l0_1.length c0_1,.slice A0_2 l0_2.length c0_2,.slice A0_3 l0_3.length c0_3,.slice A0_4 l0_4.length c0_4,.slice A0_5 l0_5.length c0_5]] rfl ?_;(with_reducible refine (laws_toNet.calls kj16 _ _ l0_0 _ _ l0_1 _ _ l0_2 _ _ l0_3 _ _ l0_4 _ _ l0_5 t619 t622 t625 t628 t631 t634 _ ?side1 ?side2 ?side3 ?side4 ?side5 ?side6 ?side7 ?side8 ?side9 ?side10 ?side11 ?side12 fa.out).mono ?_);(case side1 => exact Cb_ HR0_0);(case side2 => exact HC0_0.out);(case side3 => exact Cb_ HR0_1);(case side4 => exact HC0_1.out);(case side5 => exact Cb_ HR0_2);(case side6 => exact HC0_2.out);(case side7 => exact Cb_ HR0_3);(case side8 => exact HC0_3.out);(case side9 => exact Cb_ HR0_4);(case side10 => exact HC0_4.out);(case side11 => exact Cb_ HR0_5);(case side12 => exact HC0_5.out);rintro e w96 ⟨v620,v623,v626,v629,v632,v635,rfl,ho0,ho1,ho2,ho3,ho4,ho5,hb⟩;refine ⟨_,rfl,?_⟩;have cl:=Z_ (Kd.R_lower ho0 (below_size HB.out));have cm:=Z_ (Kd.S_lower ho1 (below_size HB.out));have ce:=Z_ (Kd.R_lower (Kd.R_new' (Kd.R_new' ho2 (Kd.R_lt al.out)) (Kd.R_lt a4.out)) (below_size HB.out));have cf:=Z_ (Kd.R_lower (Kd.R_new' (Kd.R_new' ho3 (Kd.R_lt al.out)) (Kd.R_lt a4.out)) (below_size HB.out));replace al:=Z_ (Kd.R_mono (Kd.R_told (Kd.R_told (Kd.R_old al.out hb) (Kd.R_base ho2)) (Kd.R_base ho3)) (fun _ h_ => h_.1));replace a4:=Z_ (Kd.R_mono (Kd.R_told (Kd.R_told (Kd.R_old a4.out hb) (Kd.R_base ho2)) (Kd.R_base ho3)) (fun _ h_ => h_.1));have cn:=Z_ (Kd.R_lower ho4 (below_size HB.out));have co:=Z_ (Kd.R_lower ho5 (below_size HB.out));replace a0:=Z_ (bB_ a0.out hb);replace a1:=Z_ (bB_ a1.out hb);replace a3:=Z_ (bB_ a3.out hb);replace HB:=Z_ (lP_ HB.out hb);(try clear hb);(try clear ho0);(try clear ho1);(try clear ho2);(try clear ho3);(try clear ho4);(try clear ho5);obtain ⟨dy,dz,eo97⟩:=Kd.R_slice cl.out;subst eo97;obtain ⟨f0,f1,eo98⟩:=Kd.S_slice cm.out;subst eo98;obtain ⟨d5,d6,eo99⟩:=Kd.R_slice ce.out;subst eo99;obtain ⟨cp,cq,eo100⟩:=Kd.R_slice cf.out;subst eo100;obtain ⟨dp,dq,eo101⟩:=Kd.R_slice cn.out;subst eo101;obtain ⟨dr,dt,eo102⟩:=Kd.R_slice co.out;subst eo102) | ((with_reducible refine gate_callee (f:=11) rfl ?_);refine goesA_ (some 56) rfl rfl Tryz.func11 (by kernel_rfl) rfl #[.agg #[.slice dy t619.length dz,.slice f0 t622.length f1,.slice d5 t625.length d6,.slice cp t628.length cq,.slice dp t631.length dq,.slice dr t634.length dt]] rfl ?_;(with_reducible refine (impl_KnownTo.calls kj16 _ _ t619 _ _ t622 _ _ t625 _ _ t628 _ _ t631 _ _ t634 t637 t638 _ ?side1 ?side2 ?side3 ?side4 ?side5 ?side6 ?side7 ?side8 ?side9 ?side10 ?side11 ?side12 fb.out).mono ?_);(case side1 => exact Rc_ cl);(case side2 => exact (Kd.R_reads' cl.out).2.1);(case side3 => exact Sc_ cm);(case side4 => exact (Kd.S_reads' cm.out).2.1);(case side5 => exact Rc_ ce);(case side6 => exact (Kd.R_reads' ce.out).2.1);(case side7 => exact Rc_ cf);(case side8 => exact (Kd.R_reads' cf.out).2.1);(case side9 => exact Rc_ cn);(case side10 => exact (Kd.R_reads' cn.out).2.1);(case side11 => exact Rc_ co);(case side12 => exact (Kd.R_reads' co.out).2.1);rintro e w103 ⟨v639,rfl,ho0,hb⟩;refine ⟨_,rfl,?_⟩;have bt:=Z_ (Kd.R_lower (Kd.R_new' (Kd.R_new' (Kd.R_new' (Kd.R_new' ho0 (Kd.R_lt al.out)) (Kd.R_lt a4.out)) (Kd.R_lt ce.out)) (Kd.R_lt cf.out)) (below_size HB.out));replace al:=Z_ (Kd.R_elder' al.out (Kd.R_base ho0) hb);replace a4:=Z_ (Kd.R_elder' a4.out (Kd.R_base ho0) hb);replace a0:=Z_ (bB_ a0.out hb);replace a1:=Z_ (bB_ a1.out hb);replace a3:=Z_ (bB_ a3.out hb);replace HB:=Z_ (lP_ HB.out hb);(try clear hb);(try clear ho0)) | ((with_reducible refine gD_ 10 rfl ?_);refine bx_ #[.int .i64 0,.slice none 0 0] 39 ?_;intro bn hg w104 hbox hb;replace al:=Z_ (Kd.R_below al.out hb);replace a4:=Z_ (Kd.R_below a4.out hb);replace bt:=Z_ (Kd.R_below bt.out hb);have cg:=Z_ hbox;have cr:=Z_ ((by rw [hg];exact (below_size HB.out) : w.heap.size ≤ bn));replace HB:=Z_ (lP_ HB.out hb);have cv:=Z_ ((by rw [hg];exact Nat.ne_of_lt (blk_lt a0.out) : ap ≠ bn));have cw:=Z_ cv.out.symm;have cx:=Z_ ((by rw [hg];exact Nat.ne_of_lt (blk_lt a1.out) : ak ≠ bn));replace a1:=Z_ (bB_ a1.out hb);have cy:=Z_ cx.out.symm;have cd:=Z_ ((by rw [hg];exact Nat.ne_of_lt (blk_lt a3.out) : ao ≠ bn));replace a3:=Z_ (bB_ a3.out hb);have cz:=Z_ cd.out.symm;clear hb hbox hg;have fe:=cw.out;have ff:=cv.out;have fg:=cy.out;have fh:=cx.out;have fi:=cz.out;have fj:=cd.out;obtain ⟨_,_,_,_⟩:=bc2 cg.out;obtain ⟨d7,ct,eo109⟩:=Kd.R_slice bt.out;subst eo109;obtain ⟨_,_,_,_⟩:=bc2 a1.out) | ((with_reducible refine gate_callee (f:=12) rfl ?_);refine goesA_ (some 59) rfl rfl Tryz.func12 (by kernel_rfl) rfl #[.agg #[.int .i64 t637,.slice d7 t638.length ct],.agg #[.int .i64 t565,.slice ar t566.length aq]] rfl ?_;(with_reducible refine (laws_eqIntsResult.calls kj16 t637 _ _ t638 t565 _ _ t566 true _ ?side1 ?side2 ?side3 ?side4 fc.out).mono ?_);(case side1 => refine (Kd.R_reads' (e:=2) (base:=w.heap.size) (ok:=fun k_ => ((((True ∧ some k_ ≠ (.slice ar t566.length aq : Value).ownBlock) ∧ some k_ ≠ (.slice av t590.length au : Value).ownBlock) ∧ some k_ ≠ (.slice d5 t625.length d6 : Value).ownBlock) ∧ some k_ ≠ (.slice cp t628.length cq : Value).ownBlock)) (n:=t638.length) (c:=ct) ?_).2.2;exact (Kd.R_mono (rfar2 (g:=bn) (Kd.R_types bt.out cg.out (by decide)) (fun _ hk => hk.2)) (fun _ h_ => h_.1)));(case side2 => exact (Kd.R_reads' bt.out).2.1);(case side3 => refine (Kd.R_reads' (e:=2) (base:=w.heap.size) (ok:=fun k_ => (((some k_ ≠ (.slice av t590.length au : Value).ownBlock ∧ some k_ ≠ (.slice d5 t625.length d6 : Value).ownBlock) ∧ some k_ ≠ (.slice cp t628.length cq : Value).ownBlock) ∧ some k_ ≠ (.slice d7 t638.length ct : Value).ownBlock)) (n:=t566.length) (c:=aq) ?_).2.2;exact (Kd.R_mono (rfar2 (g:=bn) (Kd.R_types al.out cg.out (by decide)) (fun _ hk => hk.2)) (fun _ h_ => h_.1)));(case side4 => exact (Kd.R_reads' al.out).2.1);rintro e w111 ⟨rfl,hb⟩;refine ⟨_,rfl,?_⟩;replace a4:=Z_ (Kd.R_below (Kd.R_mono (rfar2 (g:=bn) (Kd.R_types a4.out cg.out (by decide)) (fun _ hk => hk.2)) (fun _ h_ => h_.1)) hb);replace a3:=Z_ (bB_ (g:=ao) (o:=.cells #[.int .i64 t589,.slice av t590.length au] 39 (0,0)) (by (iterate 2 (refine bF_ ?_ cd.out _));exact a3.out) hb);replace HB:=Z_ (lP_ Lb_ hb);(try clear hb);obtain ⟨_,_,_,_⟩:=bc2 a3.out) | ((with_reducible refine gate_callee (f:=15) rfl ?_);refine goesL_ (some 63) rfl rfl Tryz.func15 (by kernel_rfl) rfl #[.agg #[.int .i64 t589,.slice av t617.length au],.int .i64 1] rfl (by (try simp only [List.map_toArray,List.map_cons,List.map_nil]);first | done | (rw [show t617.length = t590.length from (Kd.R_reads' a4.out).1.symm] <;> rfl) | rfl | (simp only [List.length_drop,List.length_take];rfl)) ?_;(with_reducible refine (laws_heldIntsResult.calls kj16 t589 _ _ t617 1 t643 _ ?side1 ?side2 fd.out).mono ?_);(case side1 => exact Rc_ a4);(case side2 => rw [show t617.length = t590.length from (Kd.R_reads' a4.out).1.symm];exact (Kd.R_reads' a4.out).2.1);rintro e w113 ⟨rfl,hb⟩;refine ⟨_,rfl,?_⟩;replace HB:=Z_ (lP_ Lb_ hb);(try clear hb)))
     go_ret
     exact ⟨by first | rfl | (rw [hr_.out];first | done | rfl) | (simp [errW_none,errW_some] <;> rfl) | (simp [*,errW_none,errW_some] <;> rfl),Lb_⟩
    all_goals
     exact absurd (Option.some.inj H) (by decide)
 all_goals
  exact absurd (Option.some.inj H) (by decide)
end Go.Proofs.YtcafikgabidphaaGreat.G
