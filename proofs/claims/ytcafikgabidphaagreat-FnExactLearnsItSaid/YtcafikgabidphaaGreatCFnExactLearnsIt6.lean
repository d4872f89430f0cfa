/- Part 6 of the proof of FnExactLearnsIt: what the functions on its road do, and the plain laws. -/
import Derived.Test.YtcafikgabidphaaGreatCFnExactLearnsIt5
namespace Go.Proofs.YtcafikgabidphaaGreat.G
open Go.RowKit Go.Proofs.YtcafikgabidphaaGreatW.PrintWords Go.Proofs.YtcafikgabidphaaGreatW.PrintLast Go.Proofs.YtcafikgabidphaaGreatW.PrintMore
attribute [local go_sem] max2_int min2_int max_two min_two max_three min_three max_four min_four   -- for this text's walks alone
set_option linter.unusedVariables false
set_option linter.unusedSimpArgs false
def laws_FnExactLearnsIt.f (k : Nat) (l0_0 : List (S85)) (l0_1 : List (S71)) (l0_2 l0_3 : List Int) (l0_4 l0_5 : List (S90)) (a1 : Int) : Option (Bool):=(laws_szNet.f k l0_0 l0_1 l0_2 l0_3 l0_4 l0_5 1048576).bind fun t453 => (if t453 < 0 then (some true) else ((laws_toNet.f k l0_0 l0_1 l0_2 l0_3 l0_4 l0_5).bind fun bt454 => ((spec_LearnsIt.f k bt454.1 bt454.2.1 bt454.2.2.1 bt454.2.2.2.1 bt454.2.2.2.2.1 bt454.2.2.2.2.2 a1).bind fun t472 => ((laws_toNet.f k l0_0 l0_1 l0_2 l0_3 l0_4 l0_5).bind fun bt473 => ((impl_LearnsIt.f k bt473.1 bt473.2.1 bt473.2.2.1 bt473.2.2.2.1 bt473.2.2.2.2.1 bt473.2.2.2.2.2 a1).bind fun t492 => (if (t492 != t472) = true then (some false) else ((laws_toNet.f k l0_0 l0_1 l0_2 l0_3 l0_4 l0_5).bind fun bt493 => ((laws_eqNet.f k bt473.1 bt473.2.1 bt473.2.2.1 bt473.2.2.2.1 bt473.2.2.2.2.1 bt473.2.2.2.2.2 bt493.1 bt493.2.1 bt493.2.2.1 bt493.2.2.2.1 bt493.2.2.2.2.1 bt493.2.2.2.2.2).bind fun t511 => (if t511 = true then (some true) else (some false))))))))))
set_option maxHeartbeats 8000000 in
set_option maxRecDepth 100000 in
theorem laws_FnExactLearnsIt.calls (k : Nat) (A0_0 : Option Addr) (c0_0 : Nat) (l0_0 : List (S85)) (A0_1 : Option Addr) (c0_1 : Nat) (l0_1 : List (S71)) (A0_2 : Option Addr) (c0_2 : Nat) (l0_2 : List Int) (A0_3 : Option Addr) (c0_3 : Nat) (l0_3 : List Int) (A0_4 : Option Addr) (c0_4 : Nat) (l0_4 : List (S90)) (A0_5 : Option Addr) (c0_5 : Nat) (l0_5 : List (S90)) (a1 : Int) (w : World) (hr0_0 : Kd.C k85 w A0_0 l0_0.length l0_0) (hc0_0 : l0_0.length ≤ c0_0) (hr0_1 : Kd.C k71 w A0_1 l0_1.length l0_1) (hc0_1 : l0_1.length ≤ c0_1) (hr0_2 : Kd.C (Kd.int .i64) w A0_2 l0_2.length l0_2) (hc0_2 : l0_2.length ≤ c0_2) (hr0_3 : Kd.C (Kd.int .i64) w A0_3 l0_3.length l0_3) (hc0_3 : l0_3.length ≤ c0_3) (hr0_4 : Kd.C k90 w A0_4 l0_4.length l0_4) (hc0_4 : l0_4.length ≤ c0_4) (hr0_5 : Kd.C k90 w A0_5 l0_5.length l0_5) (hc0_5 : l0_5.length ≤ c0_5) (h : laws_FnExactLearnsIt.f k l0_0 l0_1 l0_2 l0_3 l0_4 l0_5 a1 = some true) :
  Calls Tryz.prog 3 #[.agg #[.slice A0_0 l0_0.length c0_0,.slice A0_1 l0_1.length c0_1,.slice A0_2 l0_2.length c0_2,.slice A0_3 l0_3.length c0_3,.slice A0_4 l0_4.length c0_4,.slice A0_5 l0_5.length c0_5],.int .i64 a1] w fun e w' => e = .returned (.bool true) ∧ Below w.heap.size w w':=by
 have hu27:=Tryz.underlying27
 have hu34:=Tryz.underlying34
 have HR0_0:=Z_ hr0_0
 have HC0_0:=Z_ hc0_0
 clear hr0_0 hc0_0
 have HR0_1:=Z_ hr0_1
 have HC0_1:=Z_ hc0_1
 clear hr0_1 hc0_1
 have HR0_2:=Z_ hr0_2
 have HC0_2:=Z_ hc0_2
 clear hr0_2 hc0_2
 have HR0_3:=Z_ hr0_3
 have HC0_3:=Z_ hc0_3
 clear hr0_3 hc0_3
 have HR0_4:=Z_ hr0_4
 have HC0_4:=Z_ hc0_4
 clear hr0_4 hc0_4
 have HR0_5:=Z_ hr0_5
 have HC0_5:=Z_ hc0_5
 clear hr0_5 hc0_5
 have HB:=Z_ (Below.refl w.heap.size w)
 unfold laws_FnExactLearnsIt.f at h
 have H:=h
 clear h
 replace H:=bS_ H
 obtain ⟨t453,A3,H⟩:=H
 replace H:=iD_ H
 obtain ⟨c4b0,H⟩ | ⟨c4b0,H⟩:=H
 ·clear H
  go_enter Tryz.func3,Tryz.ntmps3
  go_wp2_with (first | ((with_reducible refine gD_ 2 rfl ?_);refine bx_ #[.slice A0_0 l0_0.length c0_0,.slice A0_1 l0_1.length c0_1,.slice A0_2 l0_2.length c0_2,.slice A0_3 l0_3.length c0_3,.slice A0_4 l0_4.length c0_4,.slice A0_5 l0_5.length c0_5] 27 ?_;intro ah hg w5 hbox hb;have a0:=Z_ hbox;have aa:=Z_ ((by rw [hg];exact (below_size HB.out) : w.heap.size ≤ ah));replace HB:=Z_ (lP_ HB.out hb);clear hb hbox hg;obtain ⟨_,_,_,_,_,_,_,_,_,_,_,_⟩:=bc6 a0.out) | ((with_reducible refine gate_callee (f:=5) rfl ?_);refine goesA_ (some 11) rfl rfl Tryz.func5 (by kernel_rfl) rfl #[.agg #[.slice A0_0 l0_0.length c0_0,.slice A0_1 l0_1.length c0_1,.slice A0_2 l0_2.length c0_2,.slice A0_3 l0_3.length c0_3,.slice A0_4 l0_4.length c0_4,.slice A0_5 l0_5.length c0_5],.int .i64 1048576] rfl ?_;(with_reducible refine (laws_szNet.calls k _ _ l0_0 _ _ l0_1 _ _ l0_2 _ _ l0_3 _ _ l0_4 _ _ l0_5 1048576 t453 _ ?side1 ?side2 ?side3 ?side4 ?side5 ?side6 ?side7 ?side8 ?side9 ?side10 ?side11 ?side12 A3.out).mono ?_);(case side1 => exact Cb_ HR0_0);(case side2 => exact HC0_0.out);(case side3 => exact Cb_ HR0_1);(case side4 => exact HC0_1.out);(case side5 => exact Cb_ HR0_2);(case side6 => exact HC0_2.out);(case side7 => exact Cb_ HR0_3);(case side8 => exact HC0_3.out);(case side9 => exact Cb_ HR0_4);(case side10 => exact HC0_4.out);(case side11 => exact Cb_ HR0_5);(case side12 => exact HC0_5.out);rintro e w7 ⟨rfl,hb⟩;refine ⟨_,rfl,?_⟩;replace HB:=Z_ (lP_ Lb_ hb);(try clear hb)))
  go_ret
  exact ⟨by first | rfl | (rw [hr_.out];first | done | rfl) | (simp [errW_none,errW_some] <;> rfl) | (simp [*,errW_none,errW_some] <;> rfl),Lb_⟩
 replace H:=bS_ H
 obtain ⟨⟨t454,t457,t460,t463,t466,t469⟩,A8,H⟩:=H
 try dsimp only at H
 replace H:=bS_ H
 obtain ⟨t472,A9,H⟩:=H
 replace H:=bS_ H
 obtain ⟨⟨t473,t476,t479,t482,t485,t488⟩,c1,H⟩:=H
 try dsimp only at H
 replace H:=bS_ H
 obtain ⟨t492,c2,H⟩:=H
 replace H:=iC_ H
 obtain ⟨c12,H⟩ | ⟨c12,H⟩:=H
 focus
  have c12b0 : (t492 != t472) = true:=c12
  (try (have c12b1 : decide (t492 = t472) = false:=by simpa using c12))
  (try (have c12b2 : (t492 == t472) = false:=by simpa using c12))
  (try (have c12b3 : ¬ (t492 = t472):=by simpa using c12))
  clear c12
 rotate_left
 have c12b0 : (t492 != t472) = false:=by simpa using c12
 (try (have c12b1 : decide (t492 = t472) = true:=by simpa using c12))
 (try (have c12b2 : (t492 == t472) = true:=by simpa using c12))
 clear c12
 replace H:=bS_ H
 obtain ⟨⟨t493,t496,t499,t502,t505,t508⟩,c3,H⟩:=H
 try dsimp only at H
 replace H:=bS_ H
 obtain ⟨t511,c5,H⟩:=H
 replace H:=iB_ H
 obtain ⟨rfl,H⟩ | ⟨rfl,H⟩:=H
 ·clear H
  go_enter Tryz.func3,Tryz.ntmps3
  try go_wp2_with (first | ((with_reducible refine gD_ 2 rfl ?_);refine bx_ #[.slice A0_0 l0_0.length c0_0,.slice A0_1 l0_1.length c0_1,.slice A0_2 l0_2.length c0_2,.slice A0_3 l0_3.length c0_3,.slice A0_4 l0_4.length c0_4,.slice A0_5 l0_5.length c0_5] 27 ?_;intro ah hg w16 hbox hb;have a0:=Z_ hbox;have aa:=Z_ ((by rw [hg];exact (below_size HB.out) : w.heap.size ≤ ah));replace HB:=Z_ (lP_ HB.out hb);clear hb hbox hg;obtain ⟨_,_,_,_,_,_,_,_,_,_,_,_⟩:=bc6 a0.out) | ((with_reducible refine gate_callee (f:=5) rfl ?_);refine goesA_ (some 11) rfl rfl Tryz.func5 (by kernel_rfl) rfl #[.agg #[.slice A0_0 l0_0.length c0_0,.slice A0_1 l0_1.length c0_1,.slice A0_2 l0_2.length c0_2,.slice A0_3 l0_3.length c0_3,.slice A0_4 l0_4.length c0_4,.slice A0_5 l0_5.length c0_5],.int .i64 1048576] rfl ?_;(with_reducible refine (laws_szNet.calls k _ _ l0_0 _ _ l0_1 _ _ l0_2 _ _ l0_3 _ _ l0_4 _ _ l0_5 1048576 t453 _ ?side1 ?side2 ?side3 ?side4 ?side5 ?side6 ?side7 ?side8 ?side9 ?side10 ?side11 ?side12 A3.out).mono ?_);(case side1 => exact Cb_ HR0_0);(case side2 => exact HC0_0.out);(case side3 => exact Cb_ HR0_1);(case side4 => exact HC0_1.out);(case side5 => exact Cb_ HR0_2);(case side6 => exact HC0_2.out);(case side7 => exact Cb_ HR0_3);(case side8 => exact HC0_3.out);(case side9 => exact Cb_ HR0_4);(case side10 => exact HC0_4.out);(case side11 => exact Cb_ HR0_5);(case side12 => exact HC0_5.out);rintro e w18 ⟨rfl,hb⟩;refine ⟨_,rfl,?_⟩;replace a0:=Z_ (bB_ a0.out hb);replace HB:=Z_ (lP_ HB.out hb);(try clear hb);obtain ⟨_,_,_,_,_,_,_,_,_,_,_,_⟩:=bc6 a0.out) | ((with_reducible refine gate_callee (f:=7) rfl ?_);refine goesA_ (some 15) rfl rfl Tryz.func7 (by kernel_rfl) rfl #[.agg #[.slice A0_0 l0_0.length c0_0,.slice A0_1 l0_1.length c0_1,.slice A0_2 l0_2.length c0_2,.slice A0_3 l0_3.length c0_3,.slice A0_4 l0_4.length c0_4,.slice A0_5 l0_5.length c0_5]] rfl ?_;(with_reducible refine (laws_toNet.calls k _ _ l0_0 _ _ l0_1 _ _ l0_2 _ _ l0_3 _ _ l0_4 _ _ l0_5 t454 t457 t460 t463 t466 t469 _ ?side1 ?side2 ?side3 ?side4 ?side5 ?side6 ?side7 ?side8 ?side9 ?side10 ?side11 ?side12 A8.out).mono ?_);(case side1 => exact Cb_ HR0_0);(case side2 => exact HC0_0.out);(case side3 => exact Cb_ HR0_1);(case side4 => exact HC0_1.out);(case side5 => exact Cb_ HR0_2);(case side6 => exact HC0_2.out);(case side7 => exact Cb_ HR0_3);(case side8 => exact HC0_3.out);(case side9 => exact Cb_ HR0_4);(case side10 => exact HC0_4.out);(case side11 => exact Cb_ HR0_5);(case side12 => exact HC0_5.out);rintro e w20 ⟨v455,v458,v461,v464,v467,v470,rfl,ho0,ho1,ho2,ho3,ho4,ho5,hb⟩;refine ⟨_,rfl,?_⟩;have a8:=Z_ (Kd.R_lower ho0 (below_size HB.out));have a9:=Z_ (Kd.S_lower ho1 (below_size HB.out));have a4:=Z_ (Kd.R_lower ho2 (below_size HB.out));have a5:=Z_ (Kd.R_lower ho3 (below_size HB.out));have a6:=Z_ (Kd.R_lower ho4 (below_size HB.out));have a7:=Z_ (Kd.R_lower ho5 (below_size HB.out));replace a0:=Z_ (bB_ a0.out hb);replace HB:=Z_ (lP_ HB.out hb);(try clear hb);(try clear ho0);(try clear ho1);(try clear ho2);(try clear ho3);(try clear ho4);(try clear ho5);obtain ⟨bh,bi,eo21⟩:=Kd.R_slice a8.out;subst eo21;obtain ⟨bj,bk,eo22⟩:=Kd.S_slice a9.out;subst eo22;obtain ⟨b5,b6,eo23⟩:=Kd.R_slice a4.out;subst eo23;obtain ⟨b7,b8,eo24⟩:=Kd.R_slice a5.out;subst eo24;obtain ⟨b9,ba,eo25⟩:=Kd.R_slice a6.out;subst eo25;obtain ⟨bb,bc,eo26⟩:=Kd.R_slice a7.out;subst eo26) | ((with_reducible refine gate_callee (f:=6) rfl ?_);refine goesA_ (some 17) rfl rfl Tryz.func6 (by kernel_rfl) rfl #[.agg #[.slice bh t454.length bi,.slice bj t457.length bk,.slice b5 t460.length b6,.slice b7 t463.length b8,.slice b9 t466.length ba,.slice bb t469.length bc],.int .i64 a1] rfl ?_;(with_reducible refine (spec_LearnsIt.calls k _ _ t454 _ _ t457 _ _ t460 _ _ t463 _ _ t466 _ _ t469 a1 t472 _ ?side1 ?side2 ?side3 ?side4 ?side5 ?side6 ?side7 ?side8 ?side9 ?side10 ?side11 ?side12 A9.out).mono ?_);(case side1 => exact Rc_ a8);(case side2 => exact (Kd.R_reads' a8.out).2.1);(case side3 => exact Sc_ a9);(case side4 => exact (Kd.S_reads' a9.out).2.1);(case side5 => exact Rc_ a4);(case side6 => exact (Kd.R_reads' a4.out).2.1);(case side7 => exact Rc_ a5);(case side8 => exact (Kd.R_reads' a5.out).2.1);(case side9 => exact Rc_ a6);(case side10 => exact (Kd.R_reads' a6.out).2.1);(case side11 => exact Rc_ a7);(case side12 => exact (Kd.R_reads' a7.out).2.1);rintro e w27 ⟨rfl,hb⟩;refine ⟨_,rfl,?_⟩;replace a8:=Z_ (Kd.R_below a8.out hb);replace a9:=Z_ (Kd.S_below (Sk_ a9) hb);replace a4:=Z_ (Kd.R_below a4.out hb);replace a5:=Z_ (Kd.R_below a5.out hb);replace a6:=Z_ (Kd.R_below a6.out hb);replace a7:=Z_ (Kd.R_below a7.out hb);replace a0:=Z_ (bB_ (g:=ah) (o:=.cells #[.slice A0_0 l0_0.length c0_0,.slice A0_1 l0_1.length c0_1,.slice A0_2 l0_2.length c0_2,.slice A0_3 l0_3.length c0_3,.slice A0_4 l0_4.length c0_4,.slice A0_5 l0_5.length c0_5] 27 (0,0)) a0.out hb);replace HB:=Z_ (lP_ Lb_ hb);(try clear hb);obtain ⟨_,_,_,_,_,_,_,_,_,_,_,_⟩:=bc6 a0.out) | ((with_reducible refine gate_callee (f:=7) rfl ?_);refine goesA_ (some 19) rfl rfl Tryz.func7 (by kernel_rfl) rfl #[.agg #[.slice A0_0 l0_0.length c0_0,.slice A0_1 l0_1.length c0_1,.slice A0_2 l0_2.length c0_2,.slice A0_3 l0_3.length c0_3,.slice A0_4 l0_4.length c0_4,.slice A0_5 l0_5.length c0_5]] rfl ?_;(with_reducible refine (laws_toNet.calls k _ _ l0_0 _ _ l0_1 _ _ l0_2 _ _ l0_3 _ _ l0_4 _ _ l0_5 t473 t476 t479 t482 t485 t488 _ ?side1 ?side2 ?side3 ?side4 ?side5 ?side6 ?side7 ?side8 ?side9 ?side10 ?side11 ?side12 c1.out).mono ?_);(case side1 => exact Cb_ HR0_0);(case side2 => exact HC0_0.out);(case side3 => exact Cb_ HR0_1);(case side4 => exact HC0_1.out);(case side5 => exact Cb_ HR0_2);(case side6 => exact HC0_2.out);(case side7 => exact Cb_ HR0_3);(case side8 => exact HC0_3.out);(case side9 => exact Cb_ HR0_4);(case side10 => exact HC0_4.out);(case side11 => exact Cb_ HR0_5);(case side12 => exact HC0_5.out);rintro e w29 ⟨v474,v477,v480,v483,v486,v489,rfl,ho0,ho1,ho2,ho3,ho4,ho5,hb⟩;refine ⟨_,rfl,?_⟩;have af:=Z_ (Kd.R_lower (Kd.R_new' ho0 (Kd.R_lt a8.out)) (below_size Lb_));replace a8:=Z_ (Kd.R_elder' a8.out (Kd.R_base ho0) hb);have ag:=Z_ (Kd.S_lower (Kd.S_new' ho1 (Kd.S_lt (Sk_ a9))) (below_size Lb_));replace a9:=Z_ (Kd.S_elder' (Sk_ a9) (Kd.S_base ho1) hb);have ab:=Z_ (Kd.R_lower (Kd.R_new' (Kd.R_new' ho2 (Kd.R_lt a4.out)) (Kd.R_lt a5.out)) (below_size Lb_));have ac:=Z_ (Kd.R_lower (Kd.R_new' (Kd.R_new' ho3 (Kd.R_lt a4.out)) (Kd.R_lt a5.out)) (below_size Lb_));replace a4:=Z_ (Kd.R_mono (Kd.R_told (Kd.R_told (Kd.R_old a4.out hb) (Kd.R_base ho2)) (Kd.R_base ho3)) (fun _ h_ => h_.1));replace a5:=Z_ (Kd.R_mono (Kd.R_told (Kd.R_told (Kd.R_old a5.out hb) (Kd.R_base ho2)) (Kd.R_base ho3)) (fun _ h_ => h_.1));have ad:=Z_ (Kd.R_lower (Kd.R_new' (Kd.R_new' ho4 (Kd.R_lt a6.out)) (Kd.R_lt a7.out)) (below_size Lb_));have ae:=Z_ (Kd.R_lower (Kd.R_new' (Kd.R_new' ho5 (Kd.R_lt a6.out)) (Kd.R_lt a7.out)) (below_size Lb_));replace a6:=Z_ (Kd.R_mono (Kd.R_told (Kd.R_told (Kd.R_old a6.out hb) (Kd.R_base ho4)) (Kd.R_base ho5)) (fun _ h_ => h_.1));replace a7:=Z_ (Kd.R_mono (Kd.R_told (Kd.R_told (Kd.R_old a7.out hb) (Kd.R_base ho4)) (Kd.R_base ho5)) (fun _ h_ => h_.1));replace a0:=Z_ (bB_ (g:=ah) (o:=.cells #[.slice A0_0 l0_0.length c0_0,.slice A0_1 l0_1.length c0_1,.slice A0_2 l0_2.length c0_2,.slice A0_3 l0_3.length c0_3,.slice A0_4 l0_4.length c0_4,.slice A0_5 l0_5.length c0_5] 27 (0,0)) a0.out hb);replace HB:=Z_ (lP_ Lb_ hb);(try clear hb);(try clear ho0);(try clear ho1);(try clear ho2);(try clear ho3);(try clear ho4);(try clear ho5)) | ((with_reducible refine gD_ 7 rfl ?_);refine bx_ #[.slice none 0 0,.slice none 0 0,.slice none 0 0,.slice none 0 0,.slice none 0 0,.slice none 0 0] 34 ?_;intro a3 hg w30 hbox hb;replace a8:=Z_ (Kd.R_below a8.out hb);replace a9:=Z_ (Kd.S_below (Sk_ a9) hb);replace a4:=Z_ (Kd.R_below a4.out hb);replace a5:=Z_ (Kd.R_below a5.out hb);replace a6:=Z_ (Kd.R_below a6.out hb);replace a7:=Z_ (Kd.R_below a7.out hb);replace af:=Z_ (Kd.R_below af.out hb);replace ag:=Z_ (Kd.S_below (Sk_ ag) hb);replace ab:=Z_ (Kd.R_below ab.out hb);replace ac:=Z_ (Kd.R_below ac.out hb);replace ad:=Z_ (Kd.R_below ad.out hb);replace ae:=Z_ (Kd.R_below ae.out hb);have a2:=Z_ hbox;have ai:=Z_ ((by rw [hg];exact (below_size Lb_) : w.heap.size ≤ a3));replace HB:=Z_ (lP_ Lb_ hb);have b3:=Z_ ((by rw [hg];exact Nat.ne_of_lt (blk_lt (g:=ah) (o:=.cells #[.slice A0_0 l0_0.length c0_0,.slice A0_1 l0_1.length c0_1,.slice A0_2 l0_2.length c0_2,.slice A0_3 l0_3.length c0_3,.slice A0_4 l0_4.length c0_4,.slice A0_5 l0_5.length c0_5] 27 (0,0)) a0.out) : ah ≠ a3));replace a0:=Z_ (bB_ (g:=ah) (o:=.cells #[.slice A0_0 l0_0.length c0_0,.slice A0_1 l0_1.length c0_1,.slice A0_2 l0_2.length c0_2,.slice A0_3 l0_3.length c0_3,.slice A0_4 l0_4.length c0_4,.slice A0_5 l0_5.length c0_5] 27 (0,0)) a0.out hb);have b4:=Z_ b3.out.symm;clear hb hbox hg;obtain ⟨av,an,eo31⟩:=Kd.R_slice af.out;subst eo31;have c6:=b4.out;have c7:=b3.out;obtain ⟨_,_,_,_,_,_,_,_,_,_,_,_⟩:=bc6 a2.out;obtain ⟨aw,ao,eo34⟩:=Kd.S_slice ag.out;subst eo34;obtain ⟨ap,aj,eo35⟩:=Kd.R_slice ab.out;subst eo35;obtain ⟨aq,ak,eo36⟩:=Kd.R_slice ac.out;subst eo36;obtain ⟨ar,al,eo37⟩:=Kd.R_slice ad.out;subst eo37;obtain ⟨au,am,eo38⟩:=Kd.R_slice ae.out;subst eo38) | ((with_reducible refine gate_callee (f:=8) rfl ?_);refine goesA_ (some 22) rfl rfl Tryz.func8 (by kernel_rfl) rfl #[.agg #[.slice av t473.length an,.slice aw t476.length ao,.slice ap t479.length aj,.slice aq t482.length ak,.slice ar t485.length al,.slice au t488.length am],.int .i64 a1] rfl ?_;(with_reducible refine (impl_LearnsIt.calls k _ _ t473 _ _ t476 _ _ t479 _ _ t482 _ _ t485 _ _ t488 a1 t492 _ ?side1 ?side2 ?side3 ?side4 ?side5 ?side6 ?side7 ?side8 ?side9 ?side10 ?side11 ?side12 c2.out).mono ?_);(case side1 => refine (Kd.R_reads' (e:=83) (base:=w.heap.size) (ok:=fun k_ => (True ∧ some k_ ≠ (.slice bh t454.length bi : Value).ownBlock)) (n:=t473.length) (c:=an) ?_).2.2;exact (Kd.R_mono (rfar6 (g:=a3) (Kd.R_types af.out a2.out (by decide)) (fun _ hk => hk.2)) (fun _ h_ => h_.1)));(case side2 => exact (Kd.R_reads' af.out).2.1);(case side3 => refine (Kd.S_reads' (e:=76) (base:=w.heap.size) (ok:=fun k_ => (True ∧ some k_ ≠ (.slice bj t457.length bk : Value).ownBlock)) (n:=t476.length) (c:=ao) ?_).2.2;exact (by (with_reducible repeat (first | apply Kd.S_alloc | apply Kd.S_drewN | apply Kd.S_drew));exact (Kd.S_mono (Kd.S_far (p:=⟨a3,5,none⟩) (Kd.S_far (p:=⟨a3,4,none⟩) (Kd.S_far (p:=⟨a3,3,none⟩) (Kd.S_far (p:=⟨a3,2,none⟩) (Kd.S_far (p:=⟨a3,1,none⟩) (Kd.S_far (p:=⟨a3,0,none⟩) (Kd.S_types ag.out a2.out (by decide)) (fun _ hk => hk.2) (.slice av t473.length an)) (fun _ hk => hk.2) (.slice aw t476.length ao)) (fun _ hk => hk.2) (.slice ap t479.length aj)) (fun _ hk => hk.2) (.slice aq t482.length ak)) (fun _ hk => hk.2) (.slice ar t485.length al)) (fun _ hk => hk.2) (.slice au t488.length am)) (fun _ h_ => h_.1))));(case side4 => exact (Kd.S_reads' ag.out).2.1);(case side5 => refine (Kd.R_reads' (e:=2) (base:=w.heap.size) (ok:=fun k_ => ((some k_ ≠ (.slice aq t482.length ak : Value).ownBlock ∧ some k_ ≠ (.slice b5 t460.length b6 : Value).ownBlock) ∧ some k_ ≠ (.slice b7 t463.length b8 : Value).ownBlock)) (n:=t479.length) (c:=aj) ?_).2.2;exact (Kd.R_mono (rfar6 (g:=a3) (Kd.R_types ab.out a2.out (by decide)) (fun _ hk => hk.2)) (fun _ h_ => h_.1)));(case side6 => exact (Kd.R_reads' ab.out).2.1);(case side7 => refine (Kd.R_reads' (e:=2) (base:=w.heap.size) (ok:=fun k_ => ((some k_ ≠ (.slice ap t479.length aj : Value).ownBlock ∧ some k_ ≠ (.slice b5 t460.length b6 : Value).ownBlock) ∧ some k_ ≠ (.slice b7 t463.length b8 : Value).ownBlock)) (n:=t482.length) (c:=ak) ?_).2.2;exact (Kd.R_mono (rfar6 (g:=a3) (Kd.R_types ac.out a2.out (by decide)) (fun _ hk => hk.2)) (fun _ h_ => h_.1)));(case side8 => exact (Kd.R_reads' ac.out).2.1);(case side9 => refine (Kd.R_reads' (e:=88) (base:=w.heap.size) (ok:=fun k_ => ((some k_ ≠ (.slice au t488.length am : Value).ownBlock ∧ some k_ ≠ (.slice b9 t466.length ba : Value).ownBlock) ∧ some k_ ≠ (.slice bb t469.length bc : Value).ownBlock)) (n:=t485.length) (c:=al) ?_).2.2;exact (Kd.R_mono (rfar6 (g:=a3) (Kd.R_types ad.out a2.out (by decide)) (fun _ hk => hk.2)) (fun _ h_ => h_.1)));(case side10 => exact (Kd.R_reads' ad.out).2.1);(case side11 => refine (Kd.R_reads' (e:=88) (base:=w.heap.size) (ok:=fun k_ => ((some k_ ≠ (.slice ar t485.length al : Value).ownBlock ∧ some k_ ≠ (.slice b9 t466.length ba : Value).ownBlock) ∧ some k_ ≠ (.slice bb t469.length bc : Value).ownBlock)) (n:=t488.length) (c:=am) ?_).2.2;exact (Kd.R_mono (rfar6 (g:=a3) (Kd.R_types ae.out a2.out (by decide)) (fun _ hk => hk.2)) (fun _ h_ => h_.1)));(case side12 => exact (Kd.R_reads' ae.out).2.1);rintro e w39 ⟨rfl,hb⟩;refine ⟨_,rfl,?_⟩;replace a8:=Z_ (Kd.R_below (Kd.R_mono (rfar6 (g:=a3) (Kd.R_types a8.out a2.out (by decide)) (fun _ hk => hk.2)) (fun _ h_ => h_.1)) hb);replace a9:=Z_ (Kd.S_below (by (with_reducible repeat (first | apply Kd.S_alloc | apply Kd.S_drewN | apply Kd.S_drew));exact (Kd.S_mono (Kd.S_far (p:=⟨a3,5,none⟩) (Kd.S_far (p:=⟨a3,4,none⟩) (Kd.S_far (p:=⟨a3,3,none⟩) (Kd.S_far (p:=⟨a3,2,none⟩) (Kd.S_far (p:=⟨a3,1,none⟩) (Kd.S_far (p:=⟨a3,0,none⟩) (Kd.S_types a9.out a2.out (by decide)) (fun _ hk => hk.2) (.slice av t473.length an)) (fun _ hk => hk.2) (.slice aw t476.length ao)) (fun _ hk => hk.2) (.slice ap t479.length aj)) (fun _ hk => hk.2) (.slice aq t482.length ak)) (fun _ hk => hk.2) (.slice ar t485.length al)) (fun _ hk => hk.2) (.slice au t488.length am)) (fun _ h_ => h_.1))) hb);replace a4:=Z_ (Kd.R_below (Kd.R_mono (rfar6 (g:=a3) (Kd.R_types a4.out a2.out (by decide)) (fun _ hk => hk.2)) (fun _ h_ => h_.1)) hb);replace a5:=Z_ (Kd.R_below (Kd.R_mono (rfar6 (g:=a3) (Kd.R_types a5.out a2.out (by decide)) (fun _ hk => hk.2)) (fun _ h_ => h_.1)) hb);replace a6:=Z_ (Kd.R_below (Kd.R_mono (rfar6 (g:=a3) (Kd.R_types a6.out a2.out (by decide)) (fun _ hk => hk.2)) (fun _ h_ => h_.1)) hb);replace a7:=Z_ (Kd.R_below (Kd.R_mono (rfar6 (g:=a3) (Kd.R_types a7.out a2.out (by decide)) (fun _ hk => hk.2)) (fun _ h_ => h_.1)) hb);replace af:=Z_ (Kd.R_below (Kd.R_mono (rfar6 (g:=a3) (Kd.R_types af.out a2.out (by decide)) (fun _ hk => hk.2)) (fun _ h_ => h_.1)) hb);replace ag:=Z_ (Kd.S_below (by (with_reducible repeat (first | apply Kd.S_alloc | apply Kd.S_drewN | apply Kd.S_drew));exact (Kd.S_mono (Kd.S_far (p:=⟨a3,5,none⟩) (Kd.S_far (p:=⟨a3,4,none⟩) (Kd.S_far (p:=⟨a3,3,none⟩) (Kd.S_far (p:=⟨a3,2,none⟩) (Kd.S_far (p:=⟨a3,1,none⟩) (Kd.S_far (p:=⟨a3,0,none⟩) (Kd.S_types ag.out a2.out (by decide)) (fun _ hk => hk.2) (.slice av t473.length an)) (fun _ hk => hk.2) (.slice aw t476.length ao)) (fun _ hk => hk.2) (.slice ap t479.length aj)) (fun _ hk => hk.2) (.slice aq t482.length ak)) (fun _ hk => hk.2) (.slice ar t485.length al)) (fun _ hk => hk.2) (.slice au t488.length am)) (fun _ h_ => h_.1))) hb);replace ab:=Z_ (Kd.R_below (Kd.R_mono (rfar6 (g:=a3) (Kd.R_types ab.out a2.out (by decide)) (fun _ hk => hk.2)) (fun _ h_ => h_.1)) hb);replace ac:=Z_ (Kd.R_below (Kd.R_mono (rfar6 (g:=a3) (Kd.R_types ac.out a2.out (by decide)) (fun _ hk => hk.2)) (fun _ h_ => h_.1)) hb);replace ad:=Z_ (Kd.R_below (Kd.R_mono (rfar6 (g:=a3) (Kd.R_types ad.out a2.out (by decide)) (fun _ hk => hk.2)) (fun _ h_ => h_.1)) hb);replace ae:=Z_ (Kd.R_below (Kd.R_mono (rfar6 (g:=a3) (Kd.R_types ae.out a2.out (by decide)) (fun _ hk => hk.2)) (fun _ h_ => h_.1)) hb);replace a0:=Z_ (bB_ (g:=ah) (o:=.cells #[.slice A0_0 l0_0.length c0_0,.slice A0_1 l0_1.length c0_1,.slice A0_2 l0_2.length c0_2,.slice A0_3 l0_3.length c0_3,.slice A0_4 l0_4.length c0_4,.slice A0_5 l0_5.length c0_5] 27 (0,0)) (by (iterate 6 (refine bF_ ?_ b3.out _));exact a0.out) hb);replace a2:=Z_ (bB_ (g:=a3) (o:=.cells #[.slice av t473.length an,.slice aw t476.length ao,.slice ap t479.length aj,.slice aq t482.length ak,.slice ar t485.length al,.slice au t488.length am] 34 (0,0)) (by apply fill6;exact a2.out) hb);replace HB:=Z_ (lP_ Lb_ hb);(try clear hb)))
  replace a8:=Z_ (rD_ a8.out)
  replace a9:=Z_ (Kd.S_drew a9.out)
  replace a4:=Z_ (rD_ a4.out)
  replace a5:=Z_ (rD_ a5.out)
  replace a6:=Z_ (rD_ a6.out)
  replace a7:=Z_ (rD_ a7.out)
  replace af:=Z_ (rD_ af.out)
  replace ag:=Z_ (Kd.S_drew ag.out)
  replace ab:=Z_ (rD_ ab.out)
  replace ac:=Z_ (rD_ ac.out)
  replace ad:=Z_ (rD_ ad.out)
  replace ae:=Z_ (rD_ ae.out)
  replace a0:=Z_ (bD_ a0.out)
  replace a2:=Z_ (bD_ a2.out)
  replace HB:=Z_ (lD_ HB.out)
  refine start_ (n:=5) (S:=fun w' => w'.cell? ⟨a3,0,none⟩ = some (.slice av t473.length an) ∧ w'.cell? ⟨a3,1,none⟩ = some (.slice aw t476.length ao) ∧ w'.cell? ⟨a3,2,none⟩ = some (.slice ap t479.length aj) ∧ w'.cell? ⟨a3,3,none⟩ = some (.slice aq t482.length ak) ∧ w'.cell? ⟨a3,4,none⟩ = some (.slice ar t485.length al) ∧ w'.cell? ⟨a3,5,none⟩ = some (.slice au t488.length am) ∧ w'.cell? ⟨ah,0,none⟩ = some (.slice A0_0 l0_0.length c0_0) ∧ w'.cell? ⟨ah,1,none⟩ = some (.slice A0_1 l0_1.length c0_1) ∧ w'.cell? ⟨ah,2,none⟩ = some (.slice A0_2 l0_2.length c0_2) ∧ w'.cell? ⟨ah,3,none⟩ = some (.slice A0_3 l0_3.length c0_3) ∧ w'.cell? ⟨ah,4,none⟩ = some (.slice A0_4 l0_4.length c0_4) ∧ w'.cell? ⟨ah,5,none⟩ = some (.slice A0_5 l0_5.length c0_5)) (ds:=[]) #[false,false,false,false,false] (by kernel_rfl) rfl rfl ⟨(blk_cell a2.out 0).trans rfl,(blk_cell a2.out 1).trans rfl,(blk_cell a2.out 2).trans rfl,(blk_cell a2.out 3).trans rfl,(blk_cell a2.out 4).trans rfl,(blk_cell a2.out 5).trans rfl,(blk_cell a0.out 0).trans rfl,(blk_cell a0.out 1).trans rfl,(blk_cell a0.out 2).trans rfl,(blk_cell a0.out 3).trans rfl,(blk_cell a0.out 4).trans rfl,(blk_cell a0.out 5).trans rfl⟩ (fun hHeld => ?_)
  generalize w39.drew = w40 at a8 a9 a4 a5 a6 a7 af ag ab ac ad ae a0 a2 HB hHeld ⊢
  refine ta_ 0 (some 26) (Bt 5 1) (by kernel_rfl) hHeld ?_
  refine ta_ 1 (some 27) (Bt 5 3) (by kernel_rfl) hHeld ?_
  refine one_ (i:=2) (N:=some 28) #[true,true,true,false,false] rfl rfl (by kernel_rfl) (by decide) (fun K hK => ?_)
  refine goes_ Tryz.func7 (by kernel_rfl) rfl #[.agg #[.slice A0_0 l0_0.length c0_0,.slice A0_1 l0_1.length c0_1,.slice A0_2 l0_2.length c0_2,.slice A0_3 l0_3.length c0_3,.slice A0_4 l0_4.length c0_4,.slice A0_5 l0_5.length c0_5]] (by rfl) rfl rfl (by (try simp only [List.map_toArray,List.map_cons,List.map_nil]);first | done | rfl | (simp only [List.length_drop,List.length_take];rfl)) ?_
  with_reducible refine (laws_toNet.calls k _ _ l0_0 _ _ l0_1 _ _ l0_2 _ _ l0_3 _ _ l0_4 _ _ l0_5 t493 t496 t499 t502 t505 t508 _ ?side1 ?side2 ?side3 ?side4 ?side5 ?side6 ?side7 ?side8 ?side9 ?side10 ?side11 ?side12 c3.out).mono ?_
  (case side1 => exact Cb_ HR0_0)
  (case side2 => exact HC0_0.out)
  (case side3 => exact Cb_ HR0_1)
  (case side4 => exact HC0_1.out)
  (case side5 => exact Cb_ HR0_2)
  (case side6 => exact HC0_2.out)
  (case side7 => exact Cb_ HR0_3)
  (case side8 => exact HC0_3.out)
  (case side9 => exact Cb_ HR0_4)
  (case side10 => exact HC0_4.out)
  (case side11 => exact Cb_ HR0_5)
  (case side12 => exact HC0_5.out)
  rintro e w41 ⟨v494,v497,v500,v503,v506,v509,rfl,ho0,ho1,ho2,ho3,ho4,ho5,hb⟩
  refine ⟨_,rfl,?_⟩
  have n0_:=Z_ (Kd.R_elder' (Rk_ a8) (Kd.R_base ho0) hb)
  have n1_:=Z_ (Kd.S_elder' (Sk_ a9) (Kd.S_base ho1) hb)
  have n2_:=Z_ (Kd.R_mono (Kd.R_told (Kd.R_told (Kd.R_old (Rk_ a4) hb) (Kd.R_base ho2)) (Kd.R_base ho3)) (fun _ h_ => h_.1))
  have n3_:=Z_ (Kd.R_mono (Kd.R_told (Kd.R_told (Kd.R_old (Rk_ a5) hb) (Kd.R_base ho2)) (Kd.R_base ho3)) (fun _ h_ => h_.1))
  have n4_:=Z_ (Kd.R_mono (Kd.R_told (Kd.R_told (Kd.R_old (Rk_ a6) hb) (Kd.R_base ho4)) (Kd.R_base ho5)) (fun _ h_ => h_.1))
  have n5_:=Z_ (Kd.R_mono (Kd.R_told (Kd.R_told (Kd.R_old (Rk_ a7) hb) (Kd.R_base ho4)) (Kd.R_base ho5)) (fun _ h_ => h_.1))
  have n6_:=Z_ (Kd.R_elder' (Rk_ af) (Kd.R_base ho0) hb)
  have n7_:=Z_ (Kd.S_elder' (Sk_ ag) (Kd.S_base ho1) hb)
  have n8_:=Z_ (Kd.R_mono (Kd.R_told (Kd.R_told (Kd.R_old (Rk_ ab) hb) (Kd.R_base ho2)) (Kd.R_base ho3)) (fun _ h_ => h_.1))
  have n9_:=Z_ (Kd.R_mono (Kd.R_told (Kd.R_told (Kd.R_old (Rk_ ac) hb) (Kd.R_base ho2)) (Kd.R_base ho3)) (fun _ h_ => h_.1))
  have n10_:=Z_ (Kd.R_mono (Kd.R_told (Kd.R_told (Kd.R_old (Rk_ ad) hb) (Kd.R_base ho4)) (Kd.R_base ho5)) (fun _ h_ => h_.1))
  have n11_:=Z_ (Kd.R_mono (Kd.R_told (Kd.R_told (Kd.R_old (Rk_ ae) hb) (Kd.R_base ho4)) (Kd.R_base ho5)) (fun _ h_ => h_.1))
  have n12_:=Z_ (Kd.R_lower (Kd.R_new' (Kd.R_new' ho0 (Kd.R_lt (Rk_ a8))) (Kd.R_lt (Rk_ af))) (below_size Lb_))
  have n13_:=Z_ (Kd.S_lower (Kd.S_new' (Kd.S_new' ho1 (Kd.S_lt (Sk_ a9))) (Kd.S_lt (Sk_ ag))) (below_size Lb_))
  have n14_:=Z_ (Kd.R_lower (Kd.R_new' (Kd.R_new' (Kd.R_new' (Kd.R_new' ho2 (Kd.R_lt (Rk_ a4))) (Kd.R_lt (Rk_ a5))) (Kd.R_lt (Rk_ ab))) (Kd.R_lt (Rk_ ac))) (below_size Lb_))
  have n15_:=Z_ (Kd.R_lower (Kd.R_new' (Kd.R_new' (Kd.R_new' (Kd.R_new' ho3 (Kd.R_lt (Rk_ a4))) (Kd.R_lt (Rk_ a5))) (Kd.R_lt (Rk_ ab))) (Kd.R_lt (Rk_ ac))) (below_size Lb_))
  have n16_:=Z_ (Kd.R_lower (Kd.R_new' (Kd.R_new' (Kd.R_new' (Kd.R_new' ho4 (Kd.R_lt (Rk_ a6))) (Kd.R_lt (Rk_ a7))) (Kd.R_lt (Rk_ ad))) (Kd.R_lt (Rk_ ae))) (below_size Lb_))
  have n17_:=Z_ (Kd.R_lower (Kd.R_new' (Kd.R_new' (Kd.R_new' (Kd.R_new' ho5 (Kd.R_lt (Rk_ a6))) (Kd.R_lt (Rk_ a7))) (Kd.R_lt (Rk_ ad))) (Kd.R_lt (Rk_ ae))) (below_size Lb_))
  have n18_:=Z_ (bB_ (g:=ah) (o:=.cells #[.slice A0_0 l0_0.length c0_0,.slice A0_1 l0_1.length c0_1,.slice A0_2 l0_2.length c0_2,.slice A0_3 l0_3.length c0_3,.slice A0_4 l0_4.length c0_4,.slice A0_5 l0_5.length c0_5] 27 (0,0)) (Bk_ a0) hb)
  have n19_:=Z_ (bB_ (g:=a3) (o:=.cells #[.slice av t473.length an,.slice aw t476.length ao,.slice ap t479.length aj,.slice aq t482.length ak,.slice ar t485.length al,.slice au t488.length am] 34 (0,0)) (Bk_ a2) hb)
  have n20_:=Z_ (lP_ Lb_ hb)
  clear a8
  clear a9
  clear a4
  clear a5
  clear a6
  clear a7
  clear af
  clear ag
  clear ab
  clear ac
  clear ad
  clear ae
  clear a0
  clear a2
  clear HB
  have a8:=n0_
  have a9:=n1_
  have a4:=n2_
  have a5:=n3_
  have a6:=n4_
  have a7:=n5_
  have af:=n6_
  have ag:=n7_
  have ab:=n8_
  have ac:=n9_
  have ad:=n10_
  have ae:=n11_
  have ax:=n12_
  have ay:=n13_
  have az:=n14_
  have b0:=n15_
  have b1:=n16_
  have b2:=n17_
  have a0:=n18_
  have a2:=n19_
  have HB:=n20_
  clear n0_ n1_ n2_ n3_ n4_ n5_ n6_ n7_ n8_ n9_ n10_ n11_ n12_ n13_ n14_ n15_ n16_ n17_ n18_ n19_ n20_
  (try clear hb)
  (try clear hb2)
  (try clear hk)
  (try clear hi)
  (try clear ho0)
  (try clear ho1)
  (try clear ho2)
  (try clear ho3)
  (try clear ho4)
  (try clear ho5)
  obtain ⟨bo,bp,eo42⟩:=Kd.R_slice ax.out
  (first | subst eo42 | (injection eo42 with f1_ f2_ f3_;have f4_:=f1_.symm;have f5_:=f3_.symm;clear f1_ f2_ f3_;subst f4_;subst f5_))
  obtain ⟨bq,br,eo43⟩:=Kd.S_slice ay.out
  (first | subst eo43 | (injection eo43 with f1_ f2_ f3_;have f4_:=f1_.symm;have f5_:=f3_.symm;clear f1_ f2_ f3_;subst f4_;subst f5_))
  obtain ⟨bs,bt,eo44⟩:=Kd.R_slice az.out
  (first | subst eo44 | (injection eo44 with f1_ f2_ f3_;have f4_:=f1_.symm;have f5_:=f3_.symm;clear f1_ f2_ f3_;subst f4_;subst f5_))
  obtain ⟨bu,bv,eo45⟩:=Kd.R_slice b0.out
  (first | subst eo45 | (injection eo45 with f1_ f2_ f3_;have f4_:=f1_.symm;have f5_:=f3_.symm;clear f1_ f2_ f3_;subst f4_;subst f5_))
  obtain ⟨bw,bx,eo46⟩:=Kd.R_slice b1.out
  (first | subst eo46 | (injection eo46 with f1_ f2_ f3_;have f4_:=f1_.symm;have f5_:=f3_.symm;clear f1_ f2_ f3_;subst f4_;subst f5_))
  obtain ⟨bz,c0,eo47⟩:=Kd.R_slice b2.out
  (first | subst eo47 | (injection eo47 with f1_ f2_ f3_;have f4_:=f1_.symm;have f5_:=f3_.symm;clear f1_ f2_ f3_;subst f4_;subst f5_))
  refine hK.out _ _ ⟨(blk_cell a2.out 0).trans rfl,(blk_cell a2.out 1).trans rfl,(blk_cell a2.out 2).trans rfl,(blk_cell a2.out 3).trans rfl,(blk_cell a2.out 4).trans rfl,(blk_cell a2.out 5).trans rfl,(blk_cell a0.out 0).trans rfl,(blk_cell a0.out 1).trans rfl,(blk_cell a0.out 2).trans rfl,(blk_cell a0.out 3).trans rfl,(blk_cell a0.out 4).trans rfl,(blk_cell a0.out 5).trans rfl⟩ (fun hHeld => ?_)
  clear hK K
  refine norm_ (a':=?_) ?_ ?_
  rotate_left
  ·show Act.put _ (some 28) _ = _
   simp only [Act.put,lA_,lZ_,lS_,i64_w,i32_w]
   rfl
  refine one_ (i:=3) (N:=some 29) #[true,true,true,true,false] rfl rfl (by kernel_rfl) (by decide) (fun K hK => ?_)
  refine goes_ Tryz.func9 (by kernel_rfl) rfl #[.agg #[.slice av t473.length an,.slice aw t476.length ao,.slice ap t479.length aj,.slice aq t482.length ak,.slice ar t485.length al,.slice au t488.length am],.agg #[.slice bo t493.length bp,.slice bq t496.length br,.slice bs t499.length bt,.slice bu t502.length bv,.slice bw t505.length bx,.slice bz t508.length c0]] (by rfl) rfl rfl (by (try simp only [List.map_toArray,List.map_cons,List.map_nil]);first | done | rfl | (simp only [List.length_drop,List.length_take];rfl)) ?_
  with_reducible refine (laws_eqNet.calls k _ _ t473 _ _ t476 _ _ t479 _ _ t482 _ _ t485 _ _ t488 _ _ t493 _ _ t496 _ _ t499 _ _ t502 _ _ t505 _ _ t508 true _ ?side1 ?side2 ?side3 ?side4 ?side5 ?side6 ?side7 ?side8 ?side9 ?side10 ?side11 ?side12 ?side13 ?side14 ?side15 ?side16 ?side17 ?side18 ?side19 ?side20 ?side21 ?side22 ?side23 ?side24 c5.out).mono ?_
  (case side1 => exact Rc_ af)
  (case side2 => exact (Kd.R_reads' af.out).2.1)
  (case side3 => exact Sc_ ag)
  (case side4 => exact (Kd.S_reads' ag.out).2.1)
  (case side5 => exact Rc_ ab)
  (case side6 => exact (Kd.R_reads' ab.out).2.1)
  (case side7 => exact Rc_ ac)
  (case side8 => exact (Kd.R_reads' ac.out).2.1)
  (case side9 => exact Rc_ ad)
  (case side10 => exact (Kd.R_reads' ad.out).2.1)
  (case side11 => exact Rc_ ae)
  (case side12 => exact (Kd.R_reads' ae.out).2.1)
  (case side13 => exact Rc_ ax)
  (case side14 => exact (Kd.R_reads' ax.out).2.1)
  (case side15 => exact Sc_ ay)
  (case side16 => exact (Kd.S_reads' ay.out).2.1)
  (case side17 => exact Rc_ az)
  (case side18 => exact (Kd.R_reads' az.out).2.1)
  (case side19 => exact Rc_ b0)
  (case side20 => exact (Kd.R_reads' b0.out).2.1)
  (case side21 => exact Rc_ b1)
  (case side22 => exact (Kd.R_reads' b1.out).2.1)
  (case side23 => exact Rc_ b2)
  (case side24 => exact (Kd.R_reads' b2.out).2.1)
  rintro e w48 ⟨rfl,hb⟩
  refine ⟨_,rfl,?_⟩
  replace a8:=Z_ (Kd.R_below (Rk_ a8) hb)
  replace a9:=Z_ (Kd.S_below (Sk_ a9) hb)
  replace a4:=Z_ (Kd.R_below (Rk_ a4) hb)
  replace a5:=Z_ (Kd.R_below (Rk_ a5) hb)
  replace a6:=Z_ (Kd.R_below (Rk_ a6) hb)
  replace a7:=Z_ (Kd.R_below (Rk_ a7) hb)
  replace af:=Z_ (Kd.R_below (Rk_ af) hb)
  replace ag:=Z_ (Kd.S_below (Sk_ ag) hb)
  replace ab:=Z_ (Kd.R_below (Rk_ ab) hb)
  replace ac:=Z_ (Kd.R_below (Rk_ ac) hb)
  replace ad:=Z_ (Kd.R_below (Rk_ ad) hb)
  replace ae:=Z_ (Kd.R_below (Rk_ ae) hb)
  replace ax:=Z_ (Kd.R_below (Rk_ ax) hb)
  replace ay:=Z_ (Kd.S_below (Sk_ ay) hb)
  replace az:=Z_ (Kd.R_below (Rk_ az) hb)
  replace b0:=Z_ (Kd.R_below (Rk_ b0) hb)
  replace b1:=Z_ (Kd.R_below (Rk_ b1) hb)
  replace b2:=Z_ (Kd.R_below (Rk_ b2) hb)
  replace a0:=Z_ (bB_ (g:=ah) (o:=.cells #[.slice A0_0 l0_0.length c0_0,.slice A0_1 l0_1.length c0_1,.slice A0_2 l0_2.length c0_2,.slice A0_3 l0_3.length c0_3,.slice A0_4 l0_4.length c0_4,.slice A0_5 l0_5.length c0_5] 27 (0,0)) (Bk_ a0) hb)
  replace a2:=Z_ (bB_ (g:=a3) (o:=.cells #[.slice av t473.length an,.slice aw t476.length ao,.slice ap t479.length aj,.slice aq t482.length ak,.slice ar t485.length al,.slice au t488.length am] 34 (0,0)) (Bk_ a2) hb)
  replace HB:=Z_ (lP_ Lb_ hb)
  (try clear hb)
  (try clear hb2)
  (try clear hk)
  (try clear hi)
  refine hK.out _ _ ⟨(blk_cell a2.out 0).trans rfl,(blk_cell a2.out 1).trans rfl,(blk_cell a2.out 2).trans rfl,(blk_cell a2.out 3).trans rfl,(blk_cell a2.out 4).trans rfl,(blk_cell a2.out 5).trans rfl,(blk_cell a0.out 0).trans rfl,(blk_cell a0.out 1).trans rfl,(blk_cell a0.out 2).trans rfl,(blk_cell a0.out 3).trans rfl,(blk_cell a0.out 4).trans rfl,(blk_cell a0.out 5).trans rfl⟩ (fun hHeld => ?_)
  clear hK K
  refine norm_ (a':=?_) ?_ ?_
  rotate_left
  ·show Act.put _ (some 29) _ = _
   simp only [Act.put,lA_,lZ_,lS_,i64_w,i32_w]
   rfl
  refine pu_ 4 (some 30) (Bt 5 31) (by kernel_rfl) ?_
  refine done_ (by kernel_rfl) ?_
  try go_wp2
  go_ret
  exact ⟨by first | rfl | (rw [hr_.out];first | done | rfl) | (simp [errW_none,errW_some] <;> rfl) | (simp [*,errW_none,errW_some] <;> rfl),Lb_⟩
 all_goals
  exact absurd (Option.some.inj H) (by decide)
end Go.Proofs.YtcafikgabidphaaGreat.G
