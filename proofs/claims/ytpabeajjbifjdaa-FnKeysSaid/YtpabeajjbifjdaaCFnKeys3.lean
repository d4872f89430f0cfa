/- Part 3 of the proof of FnKeys: what the functions on its road do, and the plain laws. -/
import Derived.Test.YtpabeajjbifjdaaCFnKeys2
import Derived.Shelf.Abstract
import Derived.Maps.OwnOps
import Derived.DeepKeys4
import Derived.Maps.Views
import Derived.RangeFuncNested
import Derived.RangeFuncBound
import Derived.RangeFuncCalls
import Derived.RangeFuncLeaves
import Derived.RangeFuncWrites
import Derived.RangeFuncBox
import Derived.OwnWalkIn
import Derived.TacticsInMore
import Derived.LoopNIn
import Derived.LoopIn
namespace Go.Proofs.Ytpabeajjbifjdaa.G
open Go.RowKit Go.Proofs.YtpabeajjbifjdaaW.PrintWords Go.Proofs.YtpabeajjbifjdaaW.PrintLast Go.Proofs.YtpabeajjbifjdaaW.PrintMore
attribute [local go_sem] max2_int min2_int max_two min_two max_three min_three max_four min_four   -- for this text's walks alone
set_option linter.unusedVariables false
set_option linter.unusedSimpArgs false
def spec_DrawMakeKeys.f (k : Nat) (l0 : List Int) : Option ((List (S36)) × Int × Int × Int × Int × Int × Int):=(spec_l1Source.f l0).bind fun bt240 => ((spec_l5Bent.f k bt240.1 bt240.2).bind fun bt243 => ((spec_l1Max.f 1 (bt243.1.length : Int)).bind fun t247 => ((spec_l9Op.f k bt240.1 bt243.2 bt243.1 2).bind fun bt248 => ((spec_l9Op.f k bt240.1 bt248.2 bt243.1 6).bind fun bt250 => ((spec_l1Next.f bt240.1 bt250.2 t247).bind fun bt252 => ((spec_l1Next.f bt240.1 bt252.2 t247).bind fun bt254 => ((spec_l1Pick.f bt240.1 bt254.2 (([100,5,9999,10000] : List Int))).bind fun bt259 => ((spec_l1Pick.f bt240.1 bt259.2 (([200,0,7,(-1)] : List Int))).bind fun bt264 => (some (bt243.1,bt252.1,bt254.1,bt248.1,bt250.1,bt259.1,bt264.1))))))))))
set_option maxHeartbeats 8000000 in
set_option maxRecDepth 100000 in
theorem spec_DrawMakeKeys.calls (k : Nat) (A0 : Option Addr) (c0 : Nat) (l0 : List Int) (r1 : List (S36)) (r2 r3 r4 r5 r6 r7 : Int) (w : World) (hr0 : Kd.C (Kd.int .u8) w A0 l0.length l0) (hc0 : l0.length ≤ c0) (h : spec_DrawMakeKeys.f k l0 = some (r1,r2,r3,r4,r5,r6,r7)) :
  Calls Try.prog 7 #[.slice A0 l0.length c0] w fun e w' => ∃ v0_ : Value,e = .returned (.tuple #[v0_,.int .i64 r2,.int .i64 r3,.int .i64 r4,.int .i64 r5,.int .i64 r6,.int .i64 r7]) ∧ Kd.R k36 36 w' w.heap.size (fun _ => True) v0_ r1 ∧ Below w.heap.size w w':=by
 have ak:=Z_ hr0
 have al:=Z_ hc0
 clear hr0 hc0
 have HB:=Z_ (Below.refl w.heap.size w)
 unfold spec_DrawMakeKeys.f at h
 have H:=h
 clear h
 replace H:=bS_ H
 obtain ⟨⟨t240,t241⟩,A2,H⟩:=H
 try dsimp only at H
 replace H:=bS_ H
 obtain ⟨⟨t243,t246⟩,A3,H⟩:=H
 try dsimp only at H
 replace H:=bS_ H
 obtain ⟨t247,A4,H⟩:=H
 replace H:=bS_ H
 obtain ⟨⟨t248,t249⟩,A5,H⟩:=H
 try dsimp only at H
 replace H:=bS_ H
 obtain ⟨⟨t250,t251⟩,A6,H⟩:=H
 try dsimp only at H
 replace H:=bS_ H
 obtain ⟨⟨t252,t253⟩,A7,H⟩:=H
 try dsimp only at H
 replace H:=bS_ H
 obtain ⟨⟨t254,t255⟩,A8,H⟩:=H
 try dsimp only at H
 obtain ⟨y256,hy256⟩ : ∃ y_ : List Int,y_ = (([100,5,9999,10000] : List Int)):=⟨_,rfl⟩
 replace H : ((spec_l1Pick.f t240 t255 y256).bind fun bt259 => ((spec_l1Pick.f t240 bt259.2 (([200,0,7,(-1)] : List Int))).bind fun bt264 => (some (t243,t252,t254,t248,t250,bt259.1,bt264.1)))) = some (r1,r2,r3,r4,r5,r6,r7):=by first | (rw [hy256];with_reducible exact H) | (have H2_:=(Option.bind_some _ _).symm.trans H;rw [hy256];with_reducible exact H2_) | (have H2_:=(Option.bind_some _ _).symm.trans H;with_reducible exact H2_) | with_reducible exact H | (rw [hy256];exact H) | exact H
 have a3:=Z_ hy256
 clear hy256
 replace H:=bS_ H
 obtain ⟨⟨t259,t260⟩,A9,H⟩:=H
 try dsimp only at H
 obtain ⟨y261,hy261⟩ : ∃ y_ : List Int,y_ = (([200,0,7,(-1)] : List Int)):=⟨_,rfl⟩
 replace H : ((spec_l1Pick.f t240 t260 y261).bind fun bt264 => (some (t243,t252,t254,t248,t250,t259,bt264.1))) = some (r1,r2,r3,r4,r5,r6,r7):=by first | (rw [hy261];with_reducible exact H) | (have H2_:=(Option.bind_some _ _).symm.trans H;rw [hy261];with_reducible exact H2_) | (have H2_:=(Option.bind_some _ _).symm.trans H;with_reducible exact H2_) | with_reducible exact H | (rw [hy261];exact H) | exact H
 have a4:=Z_ hy261
 clear hy261
 replace H:=bS_ H
 obtain ⟨⟨t264,t265⟩,am,H⟩:=H
 try dsimp only at H
 simp only [Option.some.injEq,Prod.mk.injEq] at H
 obtain ⟨rfl,rfl,rfl,rfl,rfl,rfl,rfl⟩:=H
 go_enter Try.func7,Try.ntmps7
 go_wp2_with (first | ((with_reducible refine gate_callee (f:=35) rfl ?_);refine goesA_ (some 15) rfl rfl Try.func35 (by kernel_rfl) rfl #[.slice A0 l0.length c0] rfl ?_;(with_reducible refine (spec_l1Source.calls _ _ l0 t240 t241 w _ ?side1 ?side2 ?side3 A2.out).mono ?_);(case side1 => repeat (first | (with_reducible first | exact HB.out) | exact HB.out));(case side2 => exact ak.out);(case side3 => exact al.out);rintro e w11 ⟨g242,rfl,hi,hb,hb2⟩;refine ⟨_,rfl,?_⟩;replace HB:=Z_ (hb);have HI242:=Z_ (hi);(try clear hb);(try clear hb2);(try clear hi)) | ((with_reducible refine gate_callee (f:=36) rfl ?_);refine goesA_ (some 17) rfl rfl Try.func36 (by kernel_rfl) rfl #[.pointer (some ⟨g242,0,none⟩)] rfl ?_;(with_reducible refine (spec_l5Bent.calls k g242 t240 t241 t243 t246 w _ ?side1 ?side2 A3.out).mono ?_);(case side1 => repeat (first | (with_reducible first | exact HI242.out | apply IsS117.set_1) | exact HI242.out));(case side2 => repeat (first | (with_reducible first | exact HB.out | refine lS1_ ?_ (IsS117.ge HI242.out)) | exact HB.out));rintro e w12 ⟨v244,rfl,ho0,hi,hb,hk⟩;refine ⟨_,rfl,?_⟩;have a0:=Z_ (Kd.R_lower ho0 (below_size (by repeat (first | (with_reducible first | exact HB.out | refine lS1_ ?_ (IsS117.ge HI242.out)) | exact HB.out))));replace HB:=Z_ (hb);replace HI242:=Z_ (hi);(try clear hb);(try clear hk);(try clear hi);(try clear ho0);obtain ⟨a6,a7,eo13⟩:=Kd.R_slice a0.out;subst eo13) | ((with_reducible refine gate_callee (f:=37) rfl ?_);refine goesA_ (some 20) rfl rfl Try.func37 (by kernel_rfl) rfl #[.int .i64 1,.int .i64 (t243.length : Int)] rfl ?_;(with_reducible refine (spec_l1Max.calls 1 (t243.length : Int) t247 _ A4.out).mono ?_);rintro e w' ⟨rfl,⟨nd,rfl⟩⟩;refine ⟨_,rfl,?_⟩) | ((with_reducible refine gate_callee (f:=38) rfl ?_);refine goesA_ (some 23) rfl rfl Try.func38 (by kernel_rfl) rfl #[.pointer (some ⟨g242,0,none⟩),.slice a6 t243.length a7,.int .i64 2] rfl ?_;(with_reducible refine (spec_l9Op.calls k g242 t240 t246 _ _ t243 2 t248 t249 w _ ?side1 ?side2 ?side3 ?side4 A5.out).mono ?_);(case side1 => repeat (first | (with_reducible first | exact HI242.out | apply IsS117.alloc | apply IsS117.drewN | apply IsS117.drew | apply IsS117.set_1) | exact HI242.out));(case side2 => repeat (first | (with_reducible first | exact HB.out | apply lA1_ | apply lN_ | apply lD_ | refine lS1_ ?_ (IsS117.ge HI242.out)) | exact HB.out));(case side3 => exact Kd.C_foot_own (IsS117.apart (show IsS117 w _ g242 t240 t246 from by repeat (first | (with_reducible first | exact HI242.out | apply IsS117.alloc | apply IsS117.drewN | apply IsS117.drew | apply IsS117.set_1) | exact HI242.out)) (Rk_ a0) (by decide)) (fun _ h_ => h_.2));(case side4 => exact (Kd.R_reads' a0.out).2.1);rintro e w14 ⟨rfl,hi,hb,hk⟩;refine ⟨_,rfl,?_⟩;replace a0:=Z_ (Kd.R_mono (Kd.R_keep (IsS117.apart (show IsS117 w _ g242 t240 t246 from by repeat (first | (with_reducible first | exact HI242.out | apply IsS117.alloc | apply IsS117.drewN | apply IsS117.drew | apply IsS117.set_1) | exact HI242.out)) (Rk_ a0) (by decide)) hk (fun _ h => h.2)) (fun _ h => h.1));replace HB:=Z_ (hb);replace HI242:=Z_ (hi);(try clear hb);(try clear hk);(try clear hi)) | ((with_reducible refine gate_callee (f:=38) rfl ?_);refine goesA_ (some 26) rfl rfl Try.func38 (by kernel_rfl) rfl #[.pointer (some ⟨g242,0,none⟩),.slice a6 t243.length a7,.int .i64 6] rfl ?_;(with_reducible refine (spec_l9Op.calls k g242 t240 t249 _ _ t243 6 t250 t251 w _ ?side1 ?side2 ?side3 ?side4 A6.out).mono ?_);(case side1 => repeat (first | (with_reducible first | exact HI242.out | apply IsS117.set_1) | exact HI242.out));(case side2 => repeat (first | (with_reducible first | exact HB.out | refine lS1_ ?_ (IsS117.ge HI242.out)) | exact HB.out));(case side3 => exact Kd.C_foot_own (IsS117.apart (show IsS117 w _ g242 t240 t249 from by repeat (first | (with_reducible first | exact HI242.out | apply IsS117.set_1) | exact HI242.out)) a0.out (by decide)) (fun _ h_ => h_.2));(case side4 => exact (Kd.R_reads' a0.out).2.1);rintro e w15 ⟨rfl,hi,hb,hk⟩;refine ⟨_,rfl,?_⟩;replace a0:=Z_ (Kd.R_mono (Kd.R_keep (IsS117.apart (show IsS117 w _ g242 t240 t249 from by repeat (first | (with_reducible first | exact HI242.out | apply IsS117.set_1) | exact HI242.out)) a0.out (by decide)) hk (fun _ h => h.2)) (fun _ h => h.1));replace HB:=Z_ (hb);replace HI242:=Z_ (hi);(try clear hb);(try clear hk);(try clear hi)) | ((with_reducible refine gate_callee (f:=39) rfl ?_);refine goesA_ (some 30) rfl rfl Try.func39 (by kernel_rfl) rfl #[.pointer (some ⟨g242,0,none⟩),.int .i64 t247] rfl ?_;(with_reducible refine (spec_l1Next.calls g242 t240 t251 t247 t252 t253 w _ ?side1 ?side2 A7.out).mono ?_);(case side1 => repeat (first | (with_reducible first | exact HI242.out | apply IsS117.set_1) | exact HI242.out));(case side2 => repeat (first | (with_reducible first | exact HB.out | refine lS1_ ?_ (IsS117.ge HI242.out)) | exact HB.out));rintro e w16 ⟨rfl,hi,hb,hk⟩;refine ⟨_,rfl,?_⟩;replace a0:=Z_ (Kd.R_mono (Kd.R_keep (IsS117.apart (show IsS117 w _ g242 t240 t251 from by repeat (first | (with_reducible first | exact HI242.out | apply IsS117.set_1) | exact HI242.out)) a0.out (by decide)) hk (fun _ h => h.2)) (fun _ h => h.1));replace HB:=Z_ (hb);replace HI242:=Z_ (hi);(try clear hb);(try clear hk);(try clear hi)) | ((with_reducible refine gate_callee (f:=39) rfl ?_);refine goesA_ (some 33) rfl rfl Try.func39 (by kernel_rfl) rfl #[.pointer (some ⟨g242,0,none⟩),.int .i64 t247] rfl ?_;(with_reducible refine (spec_l1Next.calls g242 t240 t253 t247 t254 t255 w _ ?side1 ?side2 A8.out).mono ?_);(case side1 => repeat (first | (with_reducible first | exact HI242.out | apply IsS117.set_1) | exact HI242.out));(case side2 => repeat (first | (with_reducible first | exact HB.out | refine lS1_ ?_ (IsS117.ge HI242.out)) | exact HB.out));rintro e w17 ⟨rfl,hi,hb,hk⟩;refine ⟨_,rfl,?_⟩;replace a0:=Z_ (Kd.R_mono (Kd.R_keep (IsS117.apart (show IsS117 w _ g242 t240 t253 from by repeat (first | (with_reducible first | exact HI242.out | apply IsS117.set_1) | exact HI242.out)) a0.out (by decide)) hk (fun _ h => h.2)) (fun _ h => h.1));replace HB:=Z_ (hb);replace HI242:=Z_ (hi);(try clear hb);(try clear hk);(try clear hi)) | ((with_reducible refine gD_ 37 rfl ?_);refine Kd.R_lit (Kd.int .i64) _ 2 ?hg (N:=37) ?hd (xs:=([100,5,9999,10000] : List Int)) (inner:=[.int .i64 100,.int .i64 5,.int .i64 9999,.int .i64 10000]) (ok:=fun _ => True) (okp:=fun _ => True) ?hr ?hp (fun _ hk => hk) trivial (Below.refl _ _) (Nat.le_refl _) (by simp) ?_;(case hd => rfl);(case hg => rfl);(case hr => first | (go_simp;done) | (go_simp;rfl));(case hp => exact (Reps.one (show Kd.M (Kd.int .i64) _ _ _ 100 [.int .i64 100] from rfl) (Reps.one (show Kd.M (Kd.int .i64) _ _ _ 5 [.int .i64 5] from rfl) (Reps.one (show Kd.M (Kd.int .i64) _ _ _ 9999 [.int .i64 9999] from rfl) (Reps.one (show Kd.M (Kd.int .i64) _ _ _ 10000 [.int .i64 10000] from rfl) (Reps.none _ _))))));intro v257 w18 ho19 hb hg_ hnew_;clear hg_ hnew_;(first | rw [← a3.out] at ho19 | (simp only [Int.reduceToNat] at ho19;rw [← a3.out] at ho19));replace a0:=Z_ (Kd.R_below a0.out hb);have a1:=Z_ (Kd.R_lower ho19 (below_size (by repeat (first | (with_reducible first | exact HB.out | refine lS1_ ?_ (IsS117.ge HI242.out)) | exact HB.out))));replace HB:=Z_ (lP_ (by repeat (first | (with_reducible first | exact HB.out | refine lS1_ ?_ (IsS117.ge HI242.out)) | exact HB.out)) hb);replace HI242:=Z_ (IsS117.below (by repeat (first | (with_reducible first | exact HI242.out | apply IsS117.set_1) | exact HI242.out)) hb);clear hb ho19;obtain ⟨ag,ah,eo20⟩:=Kd.R_slice a1.out;subst eo20) | ((with_reducible refine gate_callee (f:=40) rfl ?_);refine goesA_ (some 38) rfl rfl Try.func40 (by kernel_rfl) rfl #[.pointer (some ⟨g242,0,none⟩),.slice ag y256.length ah] rfl ?_;(with_reducible refine (spec_l1Pick.calls g242 t240 t255 _ _ y256 t259 t260 w _ ?side1 ?side2 ?side3 ?side4 ?side5 A9.out).mono ?_);(case side1 => repeat (first | (with_reducible first | exact HI242.out | apply IsS117.set_1) | exact HI242.out));(case side2 => repeat (first | (with_reducible first | exact HB.out | refine lS1_ ?_ (IsS117.ge HI242.out)) | exact HB.out));(case side3 => exact Rc_ a1);(case side4 => exact (Kd.R_reads' a1.out).2.1);(case side5 => exact far_slice (IsS117.own_ne HI242.out a1.out (by decide)));rintro e w21 ⟨rfl,hi,hb,hk⟩;refine ⟨_,rfl,?_⟩;replace a0:=Z_ (Kd.R_mono (Kd.R_keep (IsS117.apart (show IsS117 w _ g242 t240 t255 from by repeat (first | (with_reducible first | exact HI242.out | apply IsS117.set_1) | exact HI242.out)) a0.out (by decide)) hk (fun _ h => h.2)) (fun _ h => h.1));replace a1:=Z_ (Kd.R_mono (Kd.R_keep (IsS117.apart (show IsS117 w _ g242 t240 t255 from by repeat (first | (with_reducible first | exact HI242.out | apply IsS117.set_1) | exact HI242.out)) a1.out (by decide)) hk (fun _ h => h.2)) (fun _ h => h.1));replace HB:=Z_ (hb);replace HI242:=Z_ (hi);(try clear hb);(try clear hk);(try clear hi)) | ((with_reducible refine gD_ 40 rfl ?_);refine Kd.R_lit (Kd.int .i64) _ 2 ?hg (N:=40) ?hd (xs:=([200,0,7,(-1)] : List Int)) (inner:=[.int .i64 200,.int .i64 0,.int .i64 7,.int .i64 (-1)]) (ok:=fun _ => True) (okp:=fun _ => True) ?hr ?hp (fun _ hk => hk) trivial (Below.refl _ _) (Nat.le_refl _) (by simp) ?_;(case hd => rfl);(case hg => rfl);(case hr => first | (go_simp;done) | (go_simp;rfl));(case hp => exact (Reps.one (show Kd.M (Kd.int .i64) _ _ _ 200 [.int .i64 200] from rfl) (Reps.one (show Kd.M (Kd.int .i64) _ _ _ 0 [.int .i64 0] from rfl) (Reps.one (show Kd.M (Kd.int .i64) _ _ _ 7 [.int .i64 7] from rfl) (Reps.one (show Kd.M (Kd.int .i64) _ _ _ (-1) [.int .i64 (-1)] from rfl) (Reps.none _ _))))));intro v262 w22 ho23 hb hg_ hnew_;clear hg_ hnew_;(first | rw [← a4.out] at ho23 | (simp only [Int.reduceToNat] at ho23;rw [← a4.out] at ho23));replace a0:=Z_ (Kd.R_below a0.out hb);have a2:=Z_ (Kd.R_lower (Kd.R_new' ho23 (Kd.R_lt a1.out)) (below_size (by repeat (first | (with_reducible first | exact HB.out | refine lS1_ ?_ (IsS117.ge HI242.out)) | exact HB.out))));replace HB:=Z_ (lP_ (by repeat (first | (with_reducible first | exact HB.out | refine lS1_ ?_ (IsS117.ge HI242.out)) | exact HB.out)) hb);replace HI242:=Z_ (IsS117.below (by repeat (first | (with_reducible first | exact HI242.out | apply IsS117.set_1) | exact HI242.out)) hb);clear hb ho23;obtain ⟨ai,aj,eo24⟩:=Kd.R_slice a2.out;subst eo24) | ((with_reducible refine gate_callee (f:=40) rfl ?_);refine goesA_ (some 41) rfl rfl Try.func40 (by kernel_rfl) rfl #[.pointer (some ⟨g242,0,none⟩),.slice ai y261.length aj] rfl ?_;(with_reducible refine (spec_l1Pick.calls g242 t240 t260 _ _ y261 t264 t265 w _ ?side1 ?side2 ?side3 ?side4 ?side5 am.out).mono ?_);(case side1 => repeat (first | (with_reducible first | exact HI242.out | apply IsS117.set_1) | exact HI242.out));(case side2 => repeat (first | (with_reducible first | exact HB.out | refine lS1_ ?_ (IsS117.ge HI242.out)) | exact HB.out));(case side3 => exact Rc_ a2);(case side4 => exact (Kd.R_reads' a2.out).2.1);(case side5 => exact far_slice (IsS117.own_ne HI242.out a2.out (by decide)));rintro e w25 ⟨rfl,hi,hb,hk⟩;refine ⟨_,rfl,?_⟩;replace a0:=Z_ (Kd.R_mono (Kd.R_keep (IsS117.apart (show IsS117 w _ g242 t240 t260 from by repeat (first | (with_reducible first | exact HI242.out | apply IsS117.set_1) | exact HI242.out)) a0.out (by decide)) hk (fun _ h => h.2)) (fun _ h => h.1));replace HB:=Z_ (hb);replace HI242:=Z_ (hi);(try clear hb);(try clear hk);(try clear hi)))
 refine bodyPost_ret (results_list (rs:=[.tmp 2,.tmp 3,.tmp 4,.tmp 5,.tmp 6,.tmp 7,.tmp 8]) rfl (by simp) (.tmp (.tmp (.tmp (.tmp (.tmp (.tmp (.tmp .nil)))))))) rfl ?_
 exact ⟨_,Er_,Rk_ a0,by repeat (first | (with_reducible first | exact HB.out | apply lA1_ | apply lN_ | apply lD_ | refine lS1_ ?_ (IsS117.ge HI242.out)) | exact HB.out)⟩
def impl_in.f (a0 a1 a2 : Int) : Option (Bool):=if a0 ≥ a1 then (some (decide (a0 ≤ a2))) else (some false)
set_option maxHeartbeats 8000000 in
set_option maxRecDepth 100000 in
theorem impl_in.calls (a0 a1 a2 : Int) (r : Bool) (w : World) (h : impl_in.f a0 a1 a2 = some r) :
  Calls Try.prog 88 #[.int .i64 a0,.int .i64 a1,.int .i64 a2] w fun e w' => e = .returned (.bool r) ∧ Drawn0 w w':=by
 unfold impl_in.f at h
 have H:=h
 clear h
 replace H:=iD_ H
 obtain ⟨c4b0,H⟩ | ⟨c4b0,H⟩:=H
 rotate_left
 focus replace c4b0 : decide (a1 ≤ a0) = false:=c4b0
 rotate_right
 replace c4b0 : decide (a1 ≤ a0) = true:=c4b0
 all_goals
  obtain rfl:=Option.some.inj H
  go_enter Try.func88,Try.ntmps88
  go_wp2
  go_ret
  exact ⟨by first | rfl | (simp;done) | (simp [*];done),by repeat (first | exact Drawn0.refl _ | apply Drawn0.step)⟩
def impl_namesOf.j0 : Nat → Int → Bool → Option (Bool × Bool × Bool)
 | 0,_,_ => none
 | k + 1,x3,x4 => if x4 = true then (some (false,false,true)) else (if x3 = 6 then (some (true,false,false)) else (some (true,true,false)))
def impl_namesOf.f (k : Nat) (a0 : Int) : Option (Bool × Bool × Bool):=if a0 = 1 then (impl_namesOf.j0 k a0 (a0 == 1)) else (impl_namesOf.j0 k a0 (a0 == 2))
set_option maxHeartbeats 8000000 in
set_option maxRecDepth 100000 in
theorem impl_namesOf.calls (k : Nat) (a0 : Int) (r1 r2 r3 : Bool) (w : World) (h : impl_namesOf.f k a0 = some (r1,r2,r3)) :
  Calls Try.prog 89 #[.int .i64 a0] w fun e w' => e = .returned (.agg #[.bool r1,.bool r2,.bool r3]) ∧ Below w.heap.size w w':=by
 have hu125:=Try.underlying125
 have HB:=Z_ (Below.refl w.heap.size w)
 unfold impl_namesOf.f at h
 have H:=h
 clear h
 have a4:=Z_ H
 clear H
 go_enter Try.func89,Try.ntmps89
 go_upto_if 4 with (first | ((with_reducible refine gate_dst (N:=2) rfl ?_);refine box_event ?hg (N:=2) ?hd (cs:=#[.bool false,.bool false,.bool false]) (t:=125) ?hr ?_;(case hd => rfl);(case hg => rfl);(case hr => first | (go_simp;done) | (go_simp;rfl));intro a2 hg w3 hbox hb;have n0_:=Z_ (lP_ Lb_ hb);have n1_:=Z_ hbox;have n2_:=Z_ ((by rw [hg];exact (below_size Lb_) : w.heap.size ≤ a2));have n3_:=Z_ ((by rw [hg];exact (below_size Lb_) : w.heap.size ≤ a2));clear HB;have HB:=n0_;have a1:=n1_;have a5:=n2_;have a3:=n3_;clear n0_ n1_ n2_ n3_ hb hbox hg))
 (try simp only [Act.put,lA_,lZ_,lS_])
 go_cut [4] (fun v4 wc => ∃ (kq : Nat) (x4_1 : Bool),v4 = .bool x4_1 ∧ Aside0 (impl_namesOf.j0 kq a0 x4_1 = some (r1,r2,r3)) ∧ Aside0 (kq ≤ k) ∧ Aside0 (wc.heap[a2]? = some (.cells #[.bool false,.bool false,.bool false] 125 (0,0))) ∧ Aside0 (Below w.heap.size w wc))
 case first =>
  have H:=a4.out
  clear a4
  replace H:=iE_ H
  obtain ⟨c4b0,c4b1,H⟩ | ⟨c4b0,c4b1,H⟩:=H
  all_goals
   (first | rw [c4b0] | (simp only [i64_w,i32_w];rw [c4b0]) | skip)
   have H':=Z_ H
   clear H
   go_wp2
   go_meet
   case rel => exact ⟨_,_,Sr_,H',Ol_,⟨Bk_ a1⟩,⟨Lb_⟩⟩
 case rest =>
  clear a4
  try clear p2
  try clear c4
  try clear c4b0
  try clear c4b1
  obtain ⟨kq,x4_1,rfl,HA,HJ1,a1,HB⟩:=hcut
  cases kq with
  | zero => exact absurd HA.out (by simp [impl_namesOf.j0])
  | succ kj1 =>
   have H:=HA.out
   clear HA
   simp only [impl_namesOf.j0] at H
   replace H:=iB_ H
   obtain ⟨rfl,H⟩ | ⟨rfl,H⟩:=H
   ·simp only [Option.some.injEq,Prod.mk.injEq] at H
    obtain ⟨rfl,rfl,rfl⟩:=H
    obtain ⟨_,_,_,_,_,_⟩:=bc3 a1.out
    go_wp2
    refine bodyPost_ret (results_cell_row rfl _ _ a2 125 #[.bool false,.bool false,.bool true] (0,0) _ rfl (by (with_reducible repeat first | apply bN_ | apply bD_ | apply bA_);apply fill3;(with_reducible repeat first | apply bN_ | apply bD_ | apply bA_);exact a1.out) Try.underlying125 rfl (by kernel_rfl)) rfl ?_
    exact ⟨Er_,Lb_⟩
   replace H:=iE_ H
   obtain ⟨c7b0,c7b1,H⟩ | ⟨c7b0,c7b1,H⟩:=H
   rotate_left
   ·simp only [Option.some.injEq,Prod.mk.injEq] at H
    obtain ⟨rfl,rfl,rfl⟩:=H
    obtain ⟨_,_,_,_,_,_⟩:=bc3 a1.out
    go_wp2
    refine bodyPost_ret (results_cell_row rfl _ _ a2 125 #[.bool true,.bool true,.bool false] (0,0) _ rfl (by (with_reducible repeat first | apply bN_ | apply bD_ | apply bA_);apply fill3;(with_reducible repeat first | apply bN_ | apply bD_ | apply bA_);exact a1.out) Try.underlying125 rfl (by kernel_rfl)) rfl ?_
    exact ⟨Er_,Lb_⟩
   rotate_right
   simp only [Option.some.injEq,Prod.mk.injEq] at H
   obtain ⟨rfl,rfl,rfl⟩:=H
   obtain ⟨_,_,_,_,_,_⟩:=bc3 a1.out
   go_wp2
   refine bodyPost_ret (results_cell_row rfl _ _ a2 125 #[.bool true,.bool false,.bool false] (0,0) _ rfl (by (with_reducible repeat first | apply bN_ | apply bD_ | apply bA_);apply fill3;(with_reducible repeat first | apply bN_ | apply bD_ | apply bA_);exact a1.out) Try.underlying125 rfl (by kernel_rfl)) rfl ?_
   exact ⟨Er_,Lb_⟩
set_option maxHeartbeats 4000000 in
set_option maxRecDepth 100000 in
theorem slices_IndexFunc_int64_int64.calls (g : Nat) (lb : Array Value) (p : Int → Bool) (A0 : Option Addr) (c0 : Nat) (l0 : List Int) (w : World) (eg : ∀ args w,(callFunc g args).run Try.prog w = .ok (.enter g args) w)
    (hp : ∀ (W : World) (x : Int),x ∈ l0 → Below w.heap.size w W → Calls Try.prog g (#[.int .i64 x] ++ lb) W fun e w' => e = .returned (.bool (p x)) ∧ Below w.heap.size w w')
    (hr0 : Kd.C (Kd.int .i64) w A0 l0.length l0) (hl : l0.length ≤ 9223372036854775807) :
    Calls Try.prog 116 #[.slice A0 l0.length c0,.func (.func g) #[] lb] w fun e w' => ∃ v : Int,e = .returned (.int .i64 v) ∧ Aside0 (decide (0 ≤ v) = l0.any p) ∧ Below w.heap.size w w':=by
 have HR:=Z_ hr0
 clear hr0
 go_enter Try.func116,Try.ntmps116
 go_wp2
 go_loopg [5,8] l0.length (fun gg _ s8 wr => ∃ kk : Nat,kk ≤ l0.length ∧ l0.length - kk ≤ gg ∧ s8 = .int .i64 kk ∧ Aside0 (Below w.heap.size w wr) ∧ Aside0 (∀ j : Nat,j < kk → p (rd l0 j) = false))
 case atStart => exact ⟨0,Nat.zero_le _,by omega,rfl,Z_ (Below.refl _ w),Z_ (fun j hj => absurd hj (Nat.not_lt_zero _))⟩
 case round =>
  obtain ⟨kk,hkk,hg,rfl,BW,HA⟩:=hrel
  by_cases hlt : kk < l0.length
  ·have hltz : (kk : Int) < (l0.length : Int):=by omega
   obtain ⟨ad,e,hx⟩:=Kd.at_int (Kd.C_below HR.out BW.out) (kk : Int) (by omega) (by omega)
   rw [Int.toNat_natCast] at hx
   subst e
   have hm : rd l0 (kk : Int) ∈ l0:=by
     have : rd l0 (kk : Int) = l0[kk]:=by simp [rd,List.getD,List.getElem?_eq_getElem hlt]
     rw [this];exact List.getElem_mem hlt
   have HM:=Z_ hm
   have hcall:=hp wr (rd l0 (kk : Int)) hm BW.out
   clear hp hm
   generalize hy : rd l0 (kk : Int) = y at hx hcall
   have HY:=Z_ hy
   clear hy
   cases hq : p y with
   | true =>
    rw [hq] at hcall
    go_wp2_with (go_at_fn g;refine hcall.mono ?_;rintro e w' ⟨rfl,hb'⟩)
    go_ret
    refine ⟨_,rfl,Z_ ?_,hb'⟩
    rw [decide_eq_true (show (0 : Int) ≤ (kk : Int) by omega)]
    symm
    exact List.any_eq_true.2 ⟨_,HM.out,by rw [HY.out];exact hq⟩
   | false =>
    rw [hq] at hcall
    go_wp2_with (go_at_fn g;refine hcall.mono ?_;rintro e w' ⟨rfl,hb'⟩)
    go_roundg (l0.length - (kk + 1))
    case measure => omega
    case rel =>
     refine ⟨kk + 1,by omega,by omega,by go_num,Z_ hb',Z_ (fun j hj => ?_)⟩
     by_cases e : j = kk
     ·subst e
      rw [HY.out];exact hq
     ·exact HA.out j (by omega)
  ·have hltz : ¬ (kk : Int) < (l0.length : Int):=by omega
   obtain rfl : kk = l0.length:=by omega
   go_wp2
   go_ret
   refine ⟨_,rfl,Z_ ?_,BW.out⟩
   rw [decide_eq_false (show ¬ (0 : Int) ≤ -1 by omega)]
   symm
   rw [List.any_eq_false]
   intro x hx
   obtain ⟨j,hj,rfl⟩:=List.getElem_of_mem hx
   have:=HA.out j hj
   have e : rd l0 (j : Int) = l0[j]:=by simp [rd,List.getD,List.getElem?_eq_getElem hj]
   rw [e] at this
   simp [this]
set_option maxHeartbeats 4000000 in
set_option maxRecDepth 100000 in
theorem slices_ContainsFunc_int64_int64.calls (g : Nat) (lb : Array Value) (p : Int → Bool) (A0 : Option Addr) (c0 : Nat) (l0 : List Int) (w : World) (eg : ∀ args w,(callFunc g args).run Try.prog w = .ok (.enter g args) w)
    (hp : ∀ (W : World) (x : Int),x ∈ l0 → Below w.heap.size w W → Calls Try.prog g (#[.int .i64 x] ++ lb) W fun e w' => e = .returned (.bool (p x)) ∧ Below w.heap.size w w')
    (hr0 : Kd.C (Kd.int .i64) w A0 l0.length l0) (hl : l0.length ≤ 9223372036854775807) :
    Calls Try.prog 90 #[.slice A0 l0.length c0,.func (.func g) #[] lb] w fun e w' => e = .returned (.bool (l0.any p)) ∧ Below w.heap.size w w':=by
 have hC:=slices_IndexFunc_int64_int64.calls g lb p A0 c0 l0 w eg hp hr0 hl
 clear hp hr0
 go_enter Try.func90,Try.ntmps90
 go_wp2_with (go_at_call 116;refine hC.mono ?_;rintro e w' ⟨v,rfl,hv,hb⟩)
 go_ret
 exact ⟨congrArg (fun b => Ending.returned (Value.bool b)) hv.out,hb⟩
def impl_Term_parts.f (k : Nat) (a0_0 a0_1 a0_2 a0_3 : Int) : Option (List Int):=(impl_namesOf.f k a0_0).bind fun bt268 => (if bt268.2.2 = true then (some ([] : List Int)) else (if bt268.2.1 = true then (some (([a0_1,a0_2] : List Int))) else (some (([a0_1] : List Int)))))
set_option maxHeartbeats 8000000 in
set_option maxRecDepth 100000 in
theorem impl_Term_parts.calls (k : Nat) (a0_0 a0_1 a0_2 a0_3 : Int) (r : List Int) (w : World) (h : impl_Term_parts.f k a0_0 a0_1 a0_2 a0_3 = some r) :
  Calls Try.prog 91 #[.agg #[.int .i64 a0_0,.int .i64 a0_1,.int .i64 a0_2,.int .i64 a0_3]] w fun e w' => ∃ v0_ : Value,e = .returned (v0_) ∧ Kd.R (Kd.int .i64) 2 w' w.heap.size (fun _ => True) v0_ r ∧ Below w.heap.size w w':=by
 have hu36:=Try.underlying36
 have hu125:=Try.underlying125
 have HB:=Z_ (Below.refl w.heap.size w)
 unfold impl_Term_parts.f at h
 have H:=h
 clear h
 replace H:=bS_ H
 obtain ⟨⟨t268,t269,t270⟩,A2,H⟩:=H
 try dsimp only at H
 replace H:=iB_ H
 obtain ⟨rfl,H⟩ | ⟨rfl,H⟩:=H
 ·obtain rfl:=Option.some.inj H
  go_enter Try.func91,Try.ntmps91
  go_wp2_with (first | ((with_reducible refine gD_ 1 rfl ?_);refine bx_ #[.int .i64 a0_0,.int .i64 a0_1,.int .i64 a0_2,.int .i64 a0_3] 36 ?_;intro a4 hg w4 hbox hb;have a0:=Z_ hbox;have a1:=Z_ ((by rw [hg];exact (below_size HB.out) : w.heap.size ≤ a4));replace HB:=Z_ (lP_ HB.out hb);clear hb hbox hg;obtain ⟨_,_,_,_,_,_,_,_⟩:=bc4 a0.out) | ((with_reducible refine gate_callee (f:=89) rfl ?_);refine goesA_ (some 6) rfl rfl Try.func89 (by kernel_rfl) rfl #[.int .i64 a0_0] rfl ?_;(with_reducible refine (impl_namesOf.calls k a0_0 t268 t269 true _ A2.out).mono ?_);rintro e w6 ⟨rfl,hb⟩;refine ⟨_,rfl,?_⟩;replace a0:=Z_ (bB_ a0.out hb);replace HB:=Z_ (lP_ HB.out hb);(try clear hb)) | ((with_reducible refine gD_ 3 rfl ?_);refine bx_ #[.bool false,.bool false,.bool false] 125 ?_;intro a6 hg w7 hbox hb;have a7:=Z_ hbox;have a5:=Z_ ((by rw [hg];exact (below_size Lb_) : w.heap.size ≤ a6));replace HB:=Z_ (lP_ Lb_ hb);have a2:=Z_ ((by rw [hg];exact Nat.ne_of_lt (blk_lt (g:=a4) (o:=.cells #[.int .i64 a0_0,.int .i64 a0_1,.int .i64 a0_2,.int .i64 a0_3] 36 (0,0)) a0.out) : a4 ≠ a6));have a3:=Z_ a2.out.symm;clear hb hbox hg;have ah:=a3.out;have ai:=a2.out;obtain ⟨_,_,_,_,_,_⟩:=bc3 a7.out))
  go_ret
  exact ⟨_,Er_,by first | exact Kd.R_nil _ _ _ _ _ | exact Kd.N_nil _ _ _ _ _ | exact Kd.V_nil _ _ _ _ _ | exact Kd.Q_nil _ _ _ _ _ | exact Kd.S_nil _ _ _ _ _,Lb_⟩
 replace H:=iB_ H
 obtain ⟨rfl,H⟩ | ⟨rfl,H⟩:=H
 rotate_left
 ·obtain ⟨y275,hy275⟩ : ∃ y_ : List Int,y_ = (([a0_1] : List Int)):=⟨_,rfl⟩
  replace H : (some y275) = some r:=by first | (rw [hy275];with_reducible exact H) | (have H2_:=(Option.bind_some _ _).symm.trans H;rw [hy275];with_reducible exact H2_) | (have H2_:=(Option.bind_some _ _).symm.trans H;with_reducible exact H2_) | with_reducible exact H | (rw [hy275];exact H) | exact H
  have a9:=Z_ hy275
  clear hy275
  obtain rfl:=Option.some.inj H
  go_enter Try.func91,Try.ntmps91
  go_wp2_with (first | ((with_reducible refine gD_ 1 rfl ?_);refine bx_ #[.int .i64 a0_0,.int .i64 a0_1,.int .i64 a0_2,.int .i64 a0_3] 36 ?_;intro a4 hg w20 hbox hb;have a0:=Z_ hbox;have a1:=Z_ ((by rw [hg];exact (below_size Lb_) : w.heap.size ≤ a4));replace HB:=Z_ (lP_ Lb_ hb);clear hb hbox hg;obtain ⟨_,_,_,_,_,_,_,_⟩:=bc4 a0.out) | ((with_reducible refine gate_callee (f:=89) rfl ?_);refine goesA_ (some 6) rfl rfl Try.func89 (by kernel_rfl) rfl #[.int .i64 a0_0] rfl ?_;(with_reducible refine (impl_namesOf.calls k a0_0 t268 false false _ A2.out).mono ?_);rintro e w22 ⟨rfl,hb⟩;refine ⟨_,rfl,?_⟩;replace a0:=Z_ (bB_ a0.out hb);replace HB:=Z_ (lP_ HB.out hb);(try clear hb)) | ((with_reducible refine gD_ 3 rfl ?_);refine bx_ #[.bool false,.bool false,.bool false] 125 ?_;intro a6 hg w23 hbox hb;have a7:=Z_ hbox;have a5:=Z_ ((by rw [hg];exact (below_size HB.out) : w.heap.size ≤ a6));replace HB:=Z_ (lP_ HB.out hb);have a2:=Z_ ((by rw [hg];exact Nat.ne_of_lt (blk_lt a0.out) : a4 ≠ a6));replace a0:=Z_ (bB_ a0.out hb);have a3:=Z_ a2.out.symm;clear hb hbox hg;have af:=a3.out;have ag:=a2.out;obtain ⟨_,_,_,_,_,_⟩:=bc3 a7.out;obtain ⟨_,_,_,_,_,_,_,_⟩:=bc4 a0.out) | ((with_reducible refine gD_ 16 rfl ?_);refine Kd.R_lit (Kd.int .i64) _ 2 ?hg (N:=16) ?hd (xs:=([a0_1] : List Int)) (inner:=[.int .i64 a0_1]) (ok:=fun _ => True) (okp:=fun _ => True) ?hr ?hp (fun _ hk => hk) trivial (Below.refl _ _) (Nat.le_refl _) (by simp) ?_;(case hd => rfl);(case hg => rfl);(case hr => first | (go_simp;done) | (go_simp;rfl));(case hp => exact (Reps.one (show Kd.M (Kd.int .i64) _ _ _ a0_1 [.int .i64 a0_1] from rfl) (Reps.none _ _)));intro v276 w27 ho28 hb hg_ hnew_;clear hg_ hnew_;(first | rw [← a9.out] at ho28 | (simp only [Int.reduceToNat] at ho28;rw [← a9.out] at ho28));have ab:=Z_ (Kd.R_lower ho28 (below_size Lb_));replace HB:=Z_ (lP_ Lb_ hb);clear hb ho28))
  go_ret
  exact ⟨_,Er_,Rk_ ab,Lb_⟩
 rotate_right
 obtain ⟨y272,hy272⟩ : ∃ y_ : List Int,y_ = (([a0_1,a0_2] : List Int)):=⟨_,rfl⟩
 replace H : (some y272) = some r:=by first | (rw [hy272];with_reducible exact H) | (have H2_:=(Option.bind_some _ _).symm.trans H;rw [hy272];with_reducible exact H2_) | (have H2_:=(Option.bind_some _ _).symm.trans H;with_reducible exact H2_) | with_reducible exact H | (rw [hy272];exact H) | exact H
 have a8:=Z_ hy272
 clear hy272
 obtain rfl:=Option.some.inj H
 go_enter Try.func91,Try.ntmps91
 go_wp2_with (first | ((with_reducible refine gD_ 1 rfl ?_);refine bx_ #[.int .i64 a0_0,.int .i64 a0_1,.int .i64 a0_2,.int .i64 a0_3] 36 ?_;intro a4 hg w11 hbox hb;have a0:=Z_ hbox;have a1:=Z_ ((by rw [hg];exact (below_size Lb_) : w.heap.size ≤ a4));replace HB:=Z_ (lP_ Lb_ hb);clear hb hbox hg;obtain ⟨_,_,_,_,_,_,_,_⟩:=bc4 a0.out) | ((with_reducible refine gate_callee (f:=89) rfl ?_);refine goesA_ (some 6) rfl rfl Try.func89 (by kernel_rfl) rfl #[.int .i64 a0_0] rfl ?_;(with_reducible refine (impl_namesOf.calls k a0_0 t268 true false _ A2.out).mono ?_);rintro e w13 ⟨rfl,hb⟩;refine ⟨_,rfl,?_⟩;replace a0:=Z_ (bB_ a0.out hb);replace HB:=Z_ (lP_ HB.out hb);(try clear hb)) | ((with_reducible refine gD_ 3 rfl ?_);refine bx_ #[.bool false,.bool false,.bool false] 125 ?_;intro a6 hg w14 hbox hb;have a7:=Z_ hbox;have a5:=Z_ ((by rw [hg];exact (below_size HB.out) : w.heap.size ≤ a6));replace HB:=Z_ (lP_ HB.out hb);have a2:=Z_ ((by rw [hg];exact Nat.ne_of_lt (blk_lt a0.out) : a4 ≠ a6));replace a0:=Z_ (bB_ a0.out hb);have a3:=Z_ a2.out.symm;clear hb hbox hg;have ad:=a3.out;have ae:=a2.out;obtain ⟨_,_,_,_,_,_⟩:=bc3 a7.out;obtain ⟨_,_,_,_,_,_,_,_⟩:=bc4 a0.out) | ((with_reducible refine gD_ 21 rfl ?_);refine Kd.R_lit (Kd.int .i64) _ 2 ?hg (N:=21) ?hd (xs:=([a0_1,a0_2] : List Int)) (inner:=[.int .i64 a0_1,.int .i64 a0_2]) (ok:=fun _ => True) (okp:=fun _ => True) ?hr ?hp (fun _ hk => hk) trivial (Below.refl _ _) (Nat.le_refl _) (by simp) ?_;(case hd => rfl);(case hg => rfl);(case hr => first | (go_simp;done) | (go_simp;rfl));(case hp => exact (Reps.one (show Kd.M (Kd.int .i64) _ _ _ a0_1 [.int .i64 a0_1] from rfl) (Reps.one (show Kd.M (Kd.int .i64) _ _ _ a0_2 [.int .i64 a0_2] from rfl) (Reps.none _ _))));intro v273 w18 ho19 hb hg_ hnew_;clear hg_ hnew_;(first | rw [← a8.out] at ho19 | (simp only [Int.reduceToNat] at ho19;rw [← a8.out] at ho19));have aa:=Z_ (Kd.R_lower ho19 (below_size Lb_));replace HB:=Z_ (lP_ Lb_ hb);clear hb ho19))
 go_ret
 exact ⟨_,Er_,Rk_ aa,Lb_⟩
theorem impl_in_eq (a b c : Int) : impl_in.f a b c = some (decide (b ≤ a ∧ a ≤ c)):=by
  unfold impl_in.f;split
  · congr 1;simp;omega
  · congr 1;simp;omega
set_option maxHeartbeats 4000000 in
set_option maxRecDepth 100000 in
theorem impl_isPlace.callsF (A0 : Option Addr) (n c0 : Nat) (x : Int) (hn : n ≤ 9223372036854775807) (w : World) :
    Calls Try.prog 54 #[.slice A0 n c0,.int .i64 x] w fun e w' => e = .returned (.bool (decide (0 ≤ x ∧ x ≤ (n : Int) - 1))) ∧ Below w.heap.size w w':=by
  have HI:=Z_ (impl_in_eq x 0 ((n : Int) - 1))
  obtain ⟨r,hr⟩ : ∃ r,r = decide (0 ≤ x ∧ x ≤ (n : Int) - 1):=⟨_,rfl⟩
  rw [← hr] at HI ⊢
  clear hr
  have e1 : wrap64 ((n : Int) - 1) = (n : Int) - 1:=by unfold wrap64;omega
  go_enter Try.func54,Try.ntmps54
  go_wp2_with (go_at_call 88;refine (impl_in.calls _ _ _ _ _ HI.out).mono ?_;rintro e w' ⟨rfl,⟨nd,rfl⟩⟩)
  go_ret
  exact ⟨rfl,lN_ (Below.refl _ _) _⟩
set_option maxHeartbeats 4000000 in
set_option maxRecDepth 100000 in
theorem impl_fault_1.calls (A0 : Option Addr) (n c0 B : Nat) (x : Int) (hn : n ≤ 9223372036854775807) (W : World) (hc : W.cell? ⟨B,0,none⟩ = some (.slice A0 n c0)) :
    Calls Try.prog 92 (#[.int .i64 x] ++ #[.pointer (some ⟨B,0,none⟩)]) W fun e w' => e = .returned (.bool (!decide (0 ≤ x ∧ x ≤ (n : Int) - 1))) ∧ Below W.heap.size W w':=by
 have hC:=fun W' => impl_isPlace.callsF A0 n c0 x hn W'
 generalize decide (0 ≤ x ∧ x ≤ (n : Int) - 1) = r at hC ⊢
 go_enter Try.func92,Try.ntmps92
 go_wp2_with (go_at_call 54;refine (hC _).mono ?_;rintro e w' ⟨rfl,hb⟩)
 go_ret
 exact ⟨rfl,hb⟩
set_option maxHeartbeats 4000000 in
set_option maxRecDepth 100000 in
theorem impl_fault_2.calls (A0 : Option Addr) (l : List (S36)) (c0 B : Nat) (x : Int) (W : World) (hc : W.cell? ⟨B,0,none⟩ = some (.slice A0 l.length c0)) (hr : Kd.C k36 W A0 l.length l) (h0 : 0 ≤ x) (h1 : x < (l.length : Int)) :
    Calls Try.prog 93 (#[.int .i64 x] ++ #[.pointer (some ⟨B,0,none⟩)]) W fun e w' => e = .returned (.bool ((rd_T36 l x).f0 != 2)) ∧ Below W.heap.size W w':=by
 obtain ⟨ad,e,hx0,_⟩:=at_T36 hr x h0 h1
 clear hr
 subst e
 generalize (rd_T36 l x).f0 = y at hx0 ⊢
 obtain ⟨i,rfl⟩:=Int.eq_ofNat_of_zero_le h0
 rw [Int.toNat_natCast] at hx0
 have hlt : i < l.length:=by omega
 go_enter Try.func93,Try.ntmps93
 go_wp2
 go_ret
 exact ⟨rfl,Below.refl _ _⟩
def notIn (l : List S36) (x : Int) : Bool:=!decide (0 ≤ x ∧ x ≤ (l.length : Int) - 1)
def notFresh (l : List S36) (x : Int) : Bool:=(rd_T36 l x).f0 != 2
def tfault (a0 a1 a2 a3 : Int) (l : List S36) : Int :=
  if 1 ≤ a0 ∧ a0 ≤ 7 then
    (if a0 = 1 ∨ a0 = 2 then (if a1 = 0 ∧ a2 = 0 then (if 0 ≤ a3 ∧ a3 ≤ 9999 then 0 else 3) else 1)
    else if a0 = 6 then (if a2 = 0 ∧ a3 = 0 then (if ([a1] : List Int).any (notIn l) = true then 3 else (if ([a1] : List Int).any (notFresh l) = true then 1 else 0)) else 1)
    else (if a3 = 0 then (if ([a1,a2] : List Int).any (notIn l) = true then 3 else (if a0 = 7 then (if ([a1,a2] : List Int).any (notFresh l) = true ∨ a1 > a2 then 1 else 0) else 0)) else 1))
  else 5
def impl_Term_fault.f (a0_0 a0_1 a0_2 a0_3 : Int) (l1 : List S36) : Option Int:=some (tfault a0_0 a0_1 a0_2 a0_3 l1)
theorem gF_ {P : Program} {f : FuncId} {x : Value} {a b : Array Value} {w : World} {Q : Ending → World → Prop} (g : Fn) (h : Calls P f #[x,.func g a b] w Q) : Calls P f #[x,.func g a b] w Q:=h
theorem tc4_ {w : World} {g : Nat} {t : TypeId} {c0 c1 c2 c3 : Value} (h : w.heap[g]? = some (.cells #[c0,c1,c2,c3] t (0,0))) : w.cell? ⟨g,0,none⟩ = some c0 ∧ w.cell? ⟨g,1,none⟩ = some c1 ∧ w.cell? ⟨g,2,none⟩ = some c2 ∧ w.cell? ⟨g,3,none⟩ = some c3:=⟨(blk_cell h 0).trans rfl,(blk_cell h 1).trans rfl,(blk_cell h 2).trans rfl,(blk_cell h 3).trans rfl⟩
theorem fault_in (l1 : List S36) (ps : List Int) (hp : ps.any (notIn l1) = false) : ∀ x ∈ ps,0 ≤ x ∧ x < (l1.length : Int):=by
  intro x hx
  have:=List.any_eq_false.1 hp x hx
  simp [notIn] at this
  omega
theorem eqT_ {a b : Int} (h : a = b) : (a == b) = true ∧ (a != b) = false ∧ decide (a = b) = true:=by simp [h]
theorem eqF_ {a b : Int} (h : ¬ a = b) : (a == b) = false ∧ (a != b) = true ∧ decide (a = b) = false:=by simp [h]
set_option maxHeartbeats 8000000 in
set_option maxRecDepth 100000 in
theorem impl_Term_fault.calls (a0_0 a0_1 a0_2 a0_3 : Int) (A1 : Option Addr) (c1 : Nat) (l1 : List S36) (r : Int) (w : World) (hr1 : Kd.C k36 w A1 l1.length l1) (hc1 : l1.length ≤ c1) (h : impl_Term_fault.f a0_0 a0_1 a0_2 a0_3 l1 = some r) :
    Calls Try.prog 48 #[.agg #[.int .i64 a0_0,.int .i64 a0_1,.int .i64 a0_2,.int .i64 a0_3],.slice A1 l1.length c1] w fun e w' => e = .returned (.int .i64 r) ∧ Below w.heap.size w w':=by
 have hmf : ∀ (fn : Fn) (first cap : Array Value) (w : World),(Instr.makeFunc fn first cap).run Try.prog w = .ok (.func fn first cap) w:=fun _ _ _ _ => rfl
 have HB:=Z_ (Below.refl w.heap.size w)
 have HR:=Z_ hr1
 have HL:=Z_ hr1.2.1
 clear hr1 hc1
 replace h : tfault a0_0 a0_1 a0_2 a0_3 l1 = r:=Option.some.inj h
 unfold tfault at h
 refine if hop : 1 ≤ a0_0 ∧ a0_0 ≤ 7 then (if hn : a0_0 = 1 ∨ a0_0 = 2 then (if ha : a0_1 = 0 then (if hb : a0_2 = 0 then (if hr : 0 ≤ a0_3 ∧ a0_3 ≤ 9999 then ?_ else ?_) else ?_) else ?_) else if k6 : a0_0 = 6 then (if hb : a0_2 = 0 then (if h3 : a0_3 = 0 then (if hp : ([a0_1] : List Int).any (notIn l1) = true then ?_ else if hq : ([a0_1] : List Int).any (notFresh l1) = true then ?_ else ?_) else ?_) else ?_) else if h3 : a0_3 = 0 then (if hp : ([a0_1,a0_2] : List Int).any (notIn l1) = true then ?_ else if k7 : a0_0 = 7 then (if hq : ([a0_1,a0_2] : List Int).any (notFresh l1) = true then ?_ else if hg : a0_1 > a0_2 then ?_ else ?_) else ?_) else ?_) else ?_
 obtain rfl : 0 = r:=by rw [if_pos hop,if_pos hn,if_pos ⟨ha,hb⟩,if_pos hr] at h;exact h
 clear h
 have HI:=Z_ ((impl_in_eq a0_0 1 7).trans (congrArg some (decide_eq_true hop)))
 have HN:=Z_ (show impl_namesOf.f 1 a0_0 = some (false,false,true) by rcases hn with rfl | rfl <;> simp [impl_namesOf.f,impl_namesOf.j0])
 have HP:=Z_ (show impl_Term_parts.f 1 a0_0 a0_1 a0_2 a0_3 = some ([] : List Int) by unfold impl_Term_parts.f;rw [HN.out];rfl)
 have HI2:=Z_ ((impl_in_eq a0_3 0 9999).trans (congrArg some (decide_eq_true (by omega))))
 have k6 : ¬ a0_0 = 6:=by omega
 have k7 : ¬ a0_0 = 7:=by omega
 obtain ⟨_,_,_⟩:=eqT_ ha
 obtain ⟨_,_,_⟩:=eqT_ hb
 obtain ⟨_,_,_⟩:=eqF_ k6
 obtain ⟨_,_,_⟩:=eqF_ k7
 have HANY:=Z_ (show ([] : List Int).any (notIn l1) = false from rfl)
 clear ha hb hn hop hr
 rotate_left
 obtain rfl : 3 = r:=by rw [if_pos hop,if_pos hn,if_pos ⟨ha,hb⟩,if_neg hr] at h;exact h
 clear h
 have HI:=Z_ ((impl_in_eq a0_0 1 7).trans (congrArg some (decide_eq_true hop)))
 have HN:=Z_ (show impl_namesOf.f 1 a0_0 = some (false,false,true) by rcases hn with rfl | rfl <;> simp [impl_namesOf.f,impl_namesOf.j0])
 have HI2:=Z_ ((impl_in_eq a0_3 0 9999).trans (congrArg some (decide_eq_false (by omega))))
 obtain ⟨_,_,_⟩:=eqT_ ha
 obtain ⟨_,_,_⟩:=eqT_ hb
 clear ha hb hn hop hr
 rotate_left
 obtain rfl : 1 = r:=by rw [if_pos hop,if_pos hn,if_neg (fun h => hb h.2)] at h;exact h
 clear h
 have HI:=Z_ ((impl_in_eq a0_0 1 7).trans (congrArg some (decide_eq_true hop)))
 have HN:=Z_ (show impl_namesOf.f 1 a0_0 = some (false,false,true) by rcases hn with rfl | rfl <;> simp [impl_namesOf.f,impl_namesOf.j0])
 obtain ⟨_,_,_⟩:=eqT_ ha
 obtain ⟨_,_,_⟩:=eqF_ hb
 clear hb hn hop
 rotate_left
 obtain rfl : 1 = r:=by rw [if_pos hop,if_pos hn,if_neg (fun h => ha h.1)] at h;exact h
 clear h
 have HI:=Z_ ((impl_in_eq a0_0 1 7).trans (congrArg some (decide_eq_true hop)))
 have HN:=Z_ (show impl_namesOf.f 1 a0_0 = some (false,false,true) by rcases hn with rfl | rfl <;> simp [impl_namesOf.f,impl_namesOf.j0])
 obtain ⟨_,_,_⟩:=eqF_ ha
 clear ha hn hop
 rotate_left
 obtain rfl : 3 = r:=by rw [if_pos hop,if_neg hn,if_pos k6,if_pos ⟨hb,h3⟩,if_pos hp] at h;exact h
 clear h
 have HI:=Z_ ((impl_in_eq a0_0 1 7).trans (congrArg some (decide_eq_true hop)))
 have HN:=Z_ (show impl_namesOf.f 1 a0_0 = some (true,false,false) by rw [k6];simp [impl_namesOf.f,impl_namesOf.j0])
 have HP:=Z_ (show impl_Term_parts.f 1 a0_0 a0_1 a0_2 a0_3 = some ([a0_1] : List Int) by unfold impl_Term_parts.f;rw [HN.out];rfl)
 have HI2:=Z_ ((impl_in_eq a0_3 0 9999).trans (congrArg some (decide_eq_true (by omega))))
 obtain ⟨_,_,_⟩:=eqT_ hb
 obtain ⟨_,_,_⟩:=eqT_ h3
 obtain ⟨_,_,_⟩:=eqT_ k6
 have HANY:=Z_ hp
 clear h3 hb hn hop hp k6
 rotate_left
 obtain rfl : 1 = r:=by rw [if_pos hop,if_neg hn,if_pos k6,if_pos ⟨hb,h3⟩,if_neg hp,if_pos hq] at h;exact h
 clear h
 have HI:=Z_ ((impl_in_eq a0_0 1 7).trans (congrArg some (decide_eq_true hop)))
 have HN:=Z_ (show impl_namesOf.f 1 a0_0 = some (true,false,false) by rw [k6];simp [impl_namesOf.f,impl_namesOf.j0])
 have HP:=Z_ (show impl_Term_parts.f 1 a0_0 a0_1 a0_2 a0_3 = some ([a0_1] : List Int) by unfold impl_Term_parts.f;rw [HN.out];rfl)
 have HI2:=Z_ ((impl_in_eq a0_3 0 9999).trans (congrArg some (decide_eq_true (by omega))))
 obtain ⟨_,_,_⟩:=eqT_ hb
 obtain ⟨_,_,_⟩:=eqT_ h3
 obtain ⟨_,_,_⟩:=eqT_ k6
 have HANY:=Z_ (Bool.eq_false_iff.mpr hp)
 have HIN:=Z_ (fault_in l1 _ HANY.out)
 have HANY2:=Z_ hq
 clear h3 hb hn hop hp hq k6
 rotate_left
 obtain rfl : 0 = r:=by rw [if_pos hop,if_neg hn,if_pos k6,if_pos ⟨hb,h3⟩,if_neg hp,if_neg hq] at h;exact h
 clear h
 have HI:=Z_ ((impl_in_eq a0_0 1 7).trans (congrArg some (decide_eq_true hop)))
 have HN:=Z_ (show impl_namesOf.f 1 a0_0 = some (true,false,false) by rw [k6];simp [impl_namesOf.f,impl_namesOf.j0])
 have HP:=Z_ (show impl_Term_parts.f 1 a0_0 a0_1 a0_2 a0_3 = some ([a0_1] : List Int) by unfold impl_Term_parts.f;rw [HN.out];rfl)
 have HI2:=Z_ ((impl_in_eq a0_3 0 9999).trans (congrArg some (decide_eq_true (by omega))))
 obtain ⟨_,_,_⟩:=eqT_ hb
 obtain ⟨_,_,_⟩:=eqT_ h3
 obtain ⟨_,_,_⟩:=eqT_ k6
 have k7 : ¬ a0_0 = 7:=by omega
 obtain ⟨_,_,_⟩:=eqF_ k7
 have HANY:=Z_ (Bool.eq_false_iff.mpr hp)
 have HIN:=Z_ (fault_in l1 _ HANY.out)
 have HANY2:=Z_ (Bool.eq_false_iff.mpr hq)
 clear h3 hb hn hop hp hq k6
 rotate_left
 obtain rfl : 1 = r:=by rw [if_pos hop,if_neg hn,if_pos k6,if_neg (fun h => h3 h.2)] at h;exact h
 clear h
 have HI:=Z_ ((impl_in_eq a0_0 1 7).trans (congrArg some (decide_eq_true hop)))
 have HN:=Z_ (show impl_namesOf.f 1 a0_0 = some (true,false,false) by rw [k6];simp [impl_namesOf.f,impl_namesOf.j0])
 obtain ⟨_,_,_⟩:=eqT_ hb
 obtain ⟨_,_,_⟩:=eqF_ h3
 clear h3 hn hop k6
 rotate_left
 obtain rfl : 1 = r:=by rw [if_pos hop,if_neg hn,if_pos k6,if_neg (fun h => hb h.1)] at h;exact h
 clear h
 have HI:=Z_ ((impl_in_eq a0_0 1 7).trans (congrArg some (decide_eq_true hop)))
 have HN:=Z_ (show impl_namesOf.f 1 a0_0 = some (true,false,false) by rw [k6];simp [impl_namesOf.f,impl_namesOf.j0])
 obtain ⟨_,_,_⟩:=eqF_ hb
 clear hb hn hop k6
 rotate_left
 obtain rfl : 3 = r:=by rw [if_pos hop,if_neg hn,if_neg k6,if_pos h3,if_pos hp] at h;exact h
 clear h
 have HI:=Z_ ((impl_in_eq a0_0 1 7).trans (congrArg some (decide_eq_true hop)))
 have HN:=Z_ (show impl_namesOf.f 1 a0_0 = some (true,true,false) by have h1 : ¬ a0_0 = 1:=fun e => hn (.inl e);have h2 : (a0_0 == 2) = false:=(by simpa using (fun e => hn (.inr e) : ¬ a0_0 = 2));simp [impl_namesOf.f,impl_namesOf.j0,h1,h2,k6])
 have HP:=Z_ (show impl_Term_parts.f 1 a0_0 a0_1 a0_2 a0_3 = some ([a0_1,a0_2] : List Int) by unfold impl_Term_parts.f;rw [HN.out];rfl)
 have HI2:=Z_ ((impl_in_eq a0_3 0 9999).trans (congrArg some (decide_eq_true (by omega))))
 obtain ⟨_,_,_⟩:=eqT_ h3
 have HANY:=Z_ hp
 clear h3 hn hop hp k6
 rotate_left
 obtain rfl : 1 = r:=by rw [if_pos hop,if_neg hn,if_neg k6,if_pos h3,if_neg hp,if_pos k7,if_pos (.inl hq)] at h;exact h
 clear h
 have HI:=Z_ ((impl_in_eq a0_0 1 7).trans (congrArg some (decide_eq_true hop)))
 have HN:=Z_ (show impl_namesOf.f 1 a0_0 = some (true,true,false) by have h1 : ¬ a0_0 = 1:=fun e => hn (.inl e);have h2 : (a0_0 == 2) = false:=(by simpa using (fun e => hn (.inr e) : ¬ a0_0 = 2));simp [impl_namesOf.f,impl_namesOf.j0,h1,h2,k6])
 have HP:=Z_ (show impl_Term_parts.f 1 a0_0 a0_1 a0_2 a0_3 = some ([a0_1,a0_2] : List Int) by unfold impl_Term_parts.f;rw [HN.out];rfl)
 have HI2:=Z_ ((impl_in_eq a0_3 0 9999).trans (congrArg some (decide_eq_true (by omega))))
 obtain ⟨_,_,_⟩:=eqT_ h3
 obtain ⟨_,_,_⟩:=eqF_ k6
 obtain ⟨_,_,_⟩:=eqT_ k7
 have HANY:=Z_ (Bool.eq_false_iff.mpr hp)
 have HIN:=Z_ (fault_in l1 _ HANY.out)
 have HANY2:=Z_ hq
 clear h3 hn hop hp hq k6 k7
 rotate_left
 obtain rfl : 1 = r:=by rw [if_pos hop,if_neg hn,if_neg k6,if_pos h3,if_neg hp,if_pos k7,if_pos (.inr hg)] at h;exact h
 clear h
 have HI:=Z_ ((impl_in_eq a0_0 1 7).trans (congrArg some (decide_eq_true hop)))
 have HN:=Z_ (show impl_namesOf.f 1 a0_0 = some (true,true,false) by have h1 : ¬ a0_0 = 1:=fun e => hn (.inl e);have h2 : (a0_0 == 2) = false:=(by simpa using (fun e => hn (.inr e) : ¬ a0_0 = 2));simp [impl_namesOf.f,impl_namesOf.j0,h1,h2,k6])
 have HP:=Z_ (show impl_Term_parts.f 1 a0_0 a0_1 a0_2 a0_3 = some ([a0_1,a0_2] : List Int) by unfold impl_Term_parts.f;rw [HN.out];rfl)
 have HI2:=Z_ ((impl_in_eq a0_3 0 9999).trans (congrArg some (decide_eq_true (by omega))))
 obtain ⟨_,_,_⟩:=eqT_ h3
 obtain ⟨_,_,_⟩:=eqF_ k6
 obtain ⟨_,_,_⟩:=eqT_ k7
 have HANY:=Z_ (Bool.eq_false_iff.mpr hp)
 have HIN:=Z_ (fault_in l1 _ HANY.out)
 have HANY2:=Z_ (Bool.eq_false_iff.mpr hq)
 have hg0 : decide (a0_1 > a0_2) = true:=decide_eq_true hg
 have hg1 : decide (a0_2 < a0_1) = true:=hg0
 clear h3 hg hn hop hp k6 k7
 rotate_left
 obtain rfl : 0 = r:=by rw [if_pos hop,if_neg hn,if_neg k6,if_pos h3,if_neg hp,if_pos k7,if_neg (fun h => h.elim hq hg)] at h;exact h
 clear h
 have HI:=Z_ ((impl_in_eq a0_0 1 7).trans (congrArg some (decide_eq_true hop)))
 have HN:=Z_ (show impl_namesOf.f 1 a0_0 = some (true,true,false) by have h1 : ¬ a0_0 = 1:=fun e => hn (.inl e);have h2 : (a0_0 == 2) = false:=(by simpa using (fun e => hn (.inr e) : ¬ a0_0 = 2));simp [impl_namesOf.f,impl_namesOf.j0,h1,h2,k6])
 have HP:=Z_ (show impl_Term_parts.f 1 a0_0 a0_1 a0_2 a0_3 = some ([a0_1,a0_2] : List Int) by unfold impl_Term_parts.f;rw [HN.out];rfl)
 have HI2:=Z_ ((impl_in_eq a0_3 0 9999).trans (congrArg some (decide_eq_true (by omega))))
 obtain ⟨_,_,_⟩:=eqT_ h3
 obtain ⟨_,_,_⟩:=eqF_ k6
 obtain ⟨_,_,_⟩:=eqT_ k7
 have HANY:=Z_ (Bool.eq_false_iff.mpr hp)
 have HIN:=Z_ (fault_in l1 _ HANY.out)
 have HANY2:=Z_ (Bool.eq_false_iff.mpr hq)
 have hg0 : decide (a0_1 > a0_2) = false:=decide_eq_false hg
 have hg1 : decide (a0_2 < a0_1) = false:=hg0
 clear h3 hg hn hop hp hq k6 k7
 rotate_left
 obtain rfl : 0 = r:=by rw [if_pos hop,if_neg hn,if_neg k6,if_pos h3,if_neg hp,if_neg k7] at h;exact h
 clear h
 have HI:=Z_ ((impl_in_eq a0_0 1 7).trans (congrArg some (decide_eq_true hop)))
 have HN:=Z_ (show impl_namesOf.f 1 a0_0 = some (true,true,false) by have h1 : ¬ a0_0 = 1:=fun e => hn (.inl e);have h2 : (a0_0 == 2) = false:=(by simpa using (fun e => hn (.inr e) : ¬ a0_0 = 2));simp [impl_namesOf.f,impl_namesOf.j0,h1,h2,k6])
 have HP:=Z_ (show impl_Term_parts.f 1 a0_0 a0_1 a0_2 a0_3 = some ([a0_1,a0_2] : List Int) by unfold impl_Term_parts.f;rw [HN.out];rfl)
 have HI2:=Z_ ((impl_in_eq a0_3 0 9999).trans (congrArg some (decide_eq_true (by omega))))
 obtain ⟨_,_,_⟩:=eqT_ h3
 obtain ⟨_,_,_⟩:=eqF_ k6
 obtain ⟨_,_,_⟩:=eqF_ k7
 have HANY:=Z_ (Bool.eq_false_iff.mpr hp)
 clear h3 hn hop hp k6 k7
 rotate_left
 obtain rfl : 1 = r:=by rw [if_pos hop,if_neg hn,if_neg k6,if_neg h3] at h;exact h
 clear h
 have HI:=Z_ ((impl_in_eq a0_0 1 7).trans (congrArg some (decide_eq_true hop)))
 have HN:=Z_ (show impl_namesOf.f 1 a0_0 = some (true,true,false) by have h1 : ¬ a0_0 = 1:=fun e => hn (.inl e);have h2 : (a0_0 == 2) = false:=(by simpa using (fun e => hn (.inr e) : ¬ a0_0 = 2));simp [impl_namesOf.f,impl_namesOf.j0,h1,h2,k6])
 obtain ⟨_,_,_⟩:=eqF_ h3
 clear h3 hn hop k6
 rotate_left
 obtain rfl : 5 = r:=by rw [if_neg hop] at h;exact h
 clear h
 have HI:=Z_ ((impl_in_eq a0_0 1 7).trans (congrArg some (decide_eq_false hop)))
 clear hop
 rotate_left
 all_goals
   go_enter Try.func48,Try.ntmps48
   go_wp2_with (first | ((with_reducible refine gD_ 2 rfl ?_);refine bx_ #[.int .i64 a0_0,.int .i64 a0_1,.int .i64 a0_2,.int .i64 a0_3] 36 ?_;intro g2 hg w2 hbox hb;replace HB:=Z_ (lP_ HB.out hb);have a0:=Z_ hbox;clear hb hbox hg) | ((with_reducible refine gD_ 3 rfl ?_);refine bx_ #[.slice A1 l1.length c1] 24 ?_;intro g3 hg w3 hbox hb;replace HB:=Z_ (lP_ HB.out hb);replace a0:=Z_ (bB_ a0.out hb);have a1:=Z_ hbox;clear hb hbox hg;obtain ⟨_,_,_,_⟩:=tc4_ a0.out) | (go_at_call 88;(with_reducible refine (impl_in.calls a0_0 1 7 _ _ HI.out).mono ?_);rintro e w4 ⟨rfl,hd⟩;have hb:=hd.below;clear hd;replace HB:=Z_ (lP_ HB.out hb);replace a0:=Z_ (bB_ a0.out hb);replace a1:=Z_ (bB_ a1.out hb);clear hb;obtain ⟨_,_,_,_⟩:=tc4_ a0.out) | (go_at_call 89;(with_reducible refine (impl_namesOf.calls 1 a0_0 _ _ _ _ HN.out).mono ?_);rintro e w5 ⟨rfl,hb⟩;replace HB:=Z_ (lP_ HB.out hb);replace a0:=Z_ (bB_ a0.out hb);replace a1:=Z_ (bB_ a1.out hb);clear hb) | ((with_reducible refine gD_ 5 rfl ?_);refine bx_ #[.bool false,.bool false,.bool false] 125 ?_;intro g5 hg w6 hbox hb;have a3:=Z_ (show w.heap.size ≤ g5 by rw [hg];exact below_size HB.out);have NB25:=Z_ (show g2 ≠ g5 by rw [hg];exact Nat.ne_of_lt (blk_lt a0.out));have NB35:=Z_ (show g3 ≠ g5 by rw [hg];exact Nat.ne_of_lt (blk_lt a1.out));replace HB:=Z_ (lP_ HB.out hb);replace a0:=Z_ (bB_ a0.out hb);replace a1:=Z_ (bB_ a1.out hb);clear hb;have a2:=Z_ hbox;clear hbox hg;have hnb_:=NB25.out;have hnc_:=NB25.out.symm;obtain ⟨_,_,_,_⟩:=tc4_ a0.out;have p0_ : w6.cell? ⟨g5,0,none⟩ = some (.bool false):=(blk_cell a2.out 0).trans rfl;have p1_ : w6.cell? ⟨g5,1,none⟩ = some (.bool false):=(blk_cell a2.out 1).trans rfl;have p2_ : w6.cell? ⟨g5,2,none⟩ = some (.bool false):=(blk_cell a2.out 2).trans rfl;have f0_:=blk_frozen a2.out 0;have f1_:=blk_frozen a2.out 1;have f2_:=blk_frozen a2.out 2) | (go_at_call 88;(with_reducible refine (impl_in.calls a0_3 0 9999 _ _ HI2.out).mono ?_);rintro e w7 ⟨rfl,hd⟩;have hb:=hd.below;clear hd;replace HB:=Z_ (lP_ Lb_ hb);replace a0:=Z_ (bB_ (o:=.cells #[.int .i64 a0_0,.int .i64 a0_1,.int .i64 a0_2,.int .i64 a0_3] 36 (0,0)) (by repeat (first | exact a0.out | refine bF_ ?_ NB25.out _)) hb);replace a1:=Z_ (bB_ (o:=.cells #[.slice A1 l1.length c1] 24 (0,0)) (by repeat (first | exact a1.out | refine bF_ ?_ NB35.out _)) hb);clear hb;obtain ⟨_,_,_,_⟩:=tc4_ a0.out) | (go_at_call 91;(with_reducible refine (impl_Term_parts.calls 1 a0_0 a0_1 a0_2 a0_3 _ _ HP.out).mono ?_);rintro e w8 ⟨v8,rfl,ho,hb⟩;have HO:=Z_ ho;clear ho;obtain ⟨Ao,co,eo⟩:=Kd.R_slice HO.out;subst eo;replace HB:=Z_ (lP_ Lb_ hb);replace a0:=Z_ (bB_ (o:=.cells #[.int .i64 a0_0,.int .i64 a0_1,.int .i64 a0_2,.int .i64 a0_3] 36 (0,0)) (by repeat (first | exact a0.out | refine bF_ ?_ NB25.out _)) hb);replace a1:=Z_ (bB_ (o:=.cells #[.slice A1 l1.length c1] 24 (0,0)) (by repeat (first | exact a1.out | refine bF_ ?_ NB35.out _)) hb);clear hb;obtain ⟨_,_,_,_⟩:=tc4_ a0.out) | (go_at_call 90;(with_reducible refine gF_ (.func 92) ?_);refine (slices_ContainsFunc_int64_int64.calls 92 #[.pointer (some ⟨g3,0,none⟩)] (notIn l1) Ao co _ _ (enters_of Try.func92 (by kernel_rfl) rfl) (fun W x _ hB => (impl_fault_1.calls A1 l1.length c1 g3 x HL.out W ((hB.cell (p:=⟨g3,0,none⟩) (blk_lt a1.out)).trans ((blk_cell a1.out 0).trans rfl))).mono (fun _ _ h => ⟨h.1,lP_ hB h.2⟩)) (Kd.R_reads' HO.out).2.2 (by simp)).mono ?_;rintro e w9 ⟨he,hb⟩;rw [HANY.out] at he;subst he;replace HB:=Z_ (lP_ Lb_ hb);replace a0:=Z_ (bB_ (o:=.cells #[.int .i64 a0_0,.int .i64 a0_1,.int .i64 a0_2,.int .i64 a0_3] 36 (0,0)) (by repeat (first | exact a0.out | refine bF_ ?_ NB25.out _)) hb);replace a1:=Z_ (bB_ (o:=.cells #[.slice A1 l1.length c1] 24 (0,0)) (by repeat (first | exact a1.out | refine bF_ ?_ NB35.out _)) hb);clear hb;obtain ⟨_,_,_,_⟩:=tc4_ a0.out) | (go_at_call 90;(with_reducible refine gF_ (.func 93) ?_);refine (slices_ContainsFunc_int64_int64.calls 93 #[.pointer (some ⟨g3,0,none⟩)] (notFresh l1) Ao co _ _ (enters_of Try.func93 (by kernel_rfl) rfl) (fun W x hx hB => (impl_fault_2.calls A1 l1 c1 g3 x W ((hB.cell (p:=⟨g3,0,none⟩) (blk_lt a1.out)).trans ((blk_cell a1.out 0).trans rfl)) (Kd.C_below HR.out (lP_ HB.out hB)) (HIN.out x hx).1 (HIN.out x hx).2).mono (fun _ _ h => ⟨h.1,lP_ hB h.2⟩)) (Kd.R_reads' HO.out).2.2 (by simp)).mono ?_;rintro e w10 ⟨he,hb⟩;rw [HANY2.out] at he;subst he;replace HB:=Z_ (lP_ Lb_ hb);replace a0:=Z_ (bB_ (o:=.cells #[.int .i64 a0_0,.int .i64 a0_1,.int .i64 a0_2,.int .i64 a0_3] 36 (0,0)) (by repeat (first | exact a0.out | refine bF_ ?_ NB25.out _)) hb);replace a1:=Z_ (bB_ (o:=.cells #[.slice A1 l1.length c1] 24 (0,0)) (by repeat (first | exact a1.out | refine bF_ ?_ NB35.out _)) hb);clear hb;obtain ⟨_,_,_,_⟩:=tc4_ a0.out))
   go_ret
   exact ⟨rfl,Lb_⟩
end Go.Proofs.Ytpabeajjbifjdaa.G
namespace Go.Proofs.Ytpabeajjbifjdaa.G
open Go.RowKit Go.Proofs.YtpabeajjbifjdaaW.PrintWords Go.Proofs.YtpabeajjbifjdaaW.PrintLast Go.Proofs.YtpabeajjbifjdaaW.PrintMore
attribute [local go_sem] max2_int min2_int max_two min_two max_three min_three max_four min_four   -- for this text's walks alone
set_option linter.unusedVariables false
set_option linter.unusedSimpArgs false
open Go.Maps (Keyed IsMap isMap_empty atKey_put_same atKey_put_other)
theorem term_laid : laidOutB Try.prog = true:=by kernel_rfl
theorem term_row : 36 < Try.prog.types.size:=of_decide_eq_true (by kernel_rfl)
theorem term_wide : (match Try.prog.underlying 36 with | some (.array _ _) | some (.struct _) => true | _ => false) = true:=by rw [Try.underlying36]
set_option maxRecDepth 100000 in
theorem term_keyed : Keyed Try.prog 36:=Keyed.of_law (deep_law_laid term_laid (m:=2) (by omega) term_row (by kernel_rfl) term_wide)
def wf4 (x : S36) : Bool:=(Lit.int .i64 x.f0).wf && (Lit.int .i64 x.f1).wf && (Lit.int .i64 x.f2).wf && (Lit.int .i64 x.f3).wf
theorem term_kt : Try.prog.keyType 36 = true:=by kernel_rfl
theorem term_c39 : Try.prog.cellsOf 36 = 4:=by kernel_rfl
theorem term_c2 : Try.prog.cellsOf 2 = 1:=by kernel_rfl
theorem term_sz : ∃ m,Try.prog.types.size = m + 1:=⟨Try.prog.types.size - 1,by have:=term_row;omega⟩
theorem keyOf_term (x : S36) (h : wf4 x = true) : ∃ kl,keyOf Try.prog 36 (.agg #[.int .i64 x.f0,.int .i64 x.f1,.int .i64 x.f2,.int .i64 x.f3]) = some kl:=by
  unfold wf4 at h
  simp only [Bool.and_eq_true] at h
  obtain ⟨⟨⟨h0,h1⟩,h2⟩,h3⟩:=h
  obtain ⟨m,hm⟩:=term_sz
  have hf : (Value.agg #[.int .i64 x.f0,.int .i64 x.f1,.int .i64 x.f2,.int .i64 x.f3]).formed Try.prog 36 = true:=by
    simp [Value.formed,Try.underlying36,term_c39]
  unfold keyOf
  rw [Try.underlying36]
  simp only [term_kt,hf,Bool.and_self,if_true,hm]
  simp [Program.keyLits,Try.underlying36,Try.underlying2,term_c39,term_c2,Value.cells,h0,h1,h2,h3]
theorem plainElem_bool_inv {H : Type} {P : Program} {e : TypeId} (he : P.underlying e = some .bool) {v : Value} {z : DataW H × List MemPlace} (h : plainElem P e v = some z) : ∃ a,v = .bool a ∧ z = (.lit (.bool a),[]):=by
  unfold plainElem at h
  rw [he] at h
  cases v <;> simp at h
  exact ⟨_,rfl,h.symm⟩
theorem wpList_lookup_own_bool {H : Type} {P : Program} (w : World) {ops : Array Oper} {rest : List Oper} {o : Oper} {a : Act} {Q : Exit → Act → World → Prop}
    (hg : o.guard = none) (m x : Operand) (t : TypeId) (hop : o.op = Op.lookup t m x false)
    (k e : TypeId) (K : Keyed P k) (ht : P.underlying t = some (.map k e)) (he : P.underlying e = some .bool) (hz : (zeroValue e).run P w = .ok (.bool false) w) (b n : Nat) (D : DataW H)
    (hm : a.eval m = .map (some b)) (hown : w.ownsMap P k (plainElem P e) b n D) (key : Value) (kl : Lit) (hx : a.eval x = key) (hkey : keyOf P k key = some kl)
    (hK : ∀ c : Bool,D.atKey kl (.lit (.bool false)) = .lit (.bool c) → wpList P ops Q rest (a.put o.dst (.bool c)) w) :
    wpList P ops Q (o :: rest) a w:=by
  refine wpList_plain hg fun K' hK' => ?_
  obtain ⟨v,ps,hrun,hv⟩:=hown.lookup K ht hz (plainElem_bool he false) hkey
  obtain ⟨c,rfl,hc⟩:=plainElem_bool_inv he hv
  simp only [Prod.mk.injEq] at hc
  unfold Oper.wp
  simp [execOp,hop,hm,hx,hrun,Result.andThen]
  exact hK' _ _ (hK c hc.1)
theorem own_map_below {w w' : World} {P : Program} {k e : TypeId} {b n : Nat} {D : DataW Unit} (h : w.ownsMap P k (plainElem P e) b n D) (hb : Below w.heap.size w w') : w'.ownsMap P k (plainElem P e) b n D:=h.kept (grown_of_below hb none) (by simp)
theorem own_map_set {w : World} {P : Program} {k e : TypeId} {b n : Nat} {D : DataW Unit} (h : w.ownsMap P k (plainElem P e) b n D) {g j : Nat} {u : Value} (hne : b ≠ g) : (w.setCell ⟨g,j,none⟩ u).ownsMap P k (plainElem P e) b n D:=by
  obtain ⟨es,clock,hb,r⟩:=h
  exact ⟨es,clock,(Below.heap_setCell w ⟨g,j,none⟩ u b hne).trans hb,r⟩
def eq4 (y x : S36) : Bool:=y.f0 == x.f0 && (y.f1 == x.f1 && (y.f2 == x.f2 && (y.f3 == x.f3)))
theorem eq4_iff {y x : S36} : eq4 y x = true ↔ y = x:=by
  cases x;cases y;simp [eq4]
def tv (x : S36) : Value:=.agg #[.int .i64 x.f0,.int .i64 x.f1,.int .i64 x.f2,.int .i64 x.f3]
theorem tv_inj {x y : S36} (h : tv x = tv y) : x = y:=by
  unfold tv at h
  injection h with h
  have h:=congrArg Array.toList h
  simp at h
  obtain ⟨h0,h1,h2,h3⟩:=h
  cases x;cases y
  simp_all
def Seen (D : DataW Unit) (pre : List S36) : Prop:=∀ (y : S36) (kl : Lit),keyOf Try.prog 36 (tv y) = some kl → D.atKey kl (.lit (.bool false)) = .lit (.bool (pre.any (eq4 y)))
theorem seen_nil : Seen (.map []) []:=fun y kl _ => rfl
theorem seen_put {D : DataW Unit} {pre : List S36} {x : S36} {kl : Lit} (h : Seen D pre) (hD : IsMap D) (hx : keyOf Try.prog 36 (tv x) = some kl) : Seen (D.put kl (.lit (.bool true))) (pre ++ [x]):=by
  intro y kl' hy
  rw [List.any_append]
  by_cases e : kl' = kl
  · subst e
    have : y = x:=tv_inj (term_keyed.inj hy hx)
    subst this
    rw [atKey_put_same hD (term_keyed.key hx)]
    have : [y].any (eq4 y) = true:=by simp [eq4]
    rw [this,Bool.or_true]
  · rw [atKey_put_other e,h y kl' hy]
    have : [x].any (eq4 y) = false:=by
      simp only [List.any_cons,List.any_nil,Bool.or_false]
      cases hq : eq4 y x
      · rfl
      · exact absurd (by rw [eq4_iff.1 hq,hx] at hy;exact (Option.some.inj hy).symm) e
    rw [this,Bool.or_false]
def TFs : List S36 → List S36 → Int
  | _,[] => 0
  | pre,x :: r => if tfault x.f0 x.f1 x.f2 x.f3 pre = 0 then (if pre.any (eq4 x) = true then 7 else TFs (pre ++ [x]) r) else tfault x.f0 x.f1 x.f2 x.f3 pre
def impl_TermsFault.f (l0 : List S36) : Option Int:=if l0.all wf4 = true then some (if 400 < l0.length then 2 else TFs [] l0) else none
theorem C_take39 {w W : World} {A : Option Addr} {l : List S36} (h : Kd.C k36 w A l.length l) (hb : Below w.heap.size w W) (k : Nat) : Kd.C k36 W A (l.take k).length (l.take k):=by
  obtain ⟨h1,h2,h3⟩:=Kd.C_below h hb
  refine ⟨rfl,by rw [List.length_take];omega,fun hp => ?_⟩
  obtain ⟨ad,e,hh⟩:=h3 (by rw [List.length_take] at hp;omega)
  refine ⟨ad,e,fun j p hj => hh j p ?_⟩
  rw [List.getElem?_take] at hj
  split at hj
  · exact hj
  · cases hj
set_option maxHeartbeats 8000000 in
set_option maxRecDepth 100000 in
theorem impl_TermsFault.calls (A0 : Option Addr) (c0 : Nat) (l0 : List S36) (r : Int) (w : World) (hr0 : Kd.C k36 w A0 l0.length l0) (hc0 : l0.length ≤ c0) (h : impl_TermsFault.f l0 = some r) :
    Calls Try.prog 13 #[.slice A0 l0.length c0] w fun e w' => e = .returned (.int .i64 r) ∧ Below w.heap.size w w':=by
 unfold impl_TermsFault.f at h
 by_cases hwf : l0.all wf4 = true
 ·rw [if_pos hwf] at h
  obtain rfl:=Option.some.inj h
  clear h
  have HW:=Z_ hwf
  have HR:=Z_ hr0
  have HC:=Z_ hc0
  have HB:=Z_ (Below.refl w.heap.size w)
  clear hr0 hc0 hwf
  by_cases hbig : 400 < l0.length
  ·rw [if_pos hbig]
   have hb0 : decide ((l0.length : Int) > 400) = true:=decide_eq_true (by omega)
   have hb1 : decide ((400 : Int) < (l0.length : Int)) = true:=decide_eq_true (by omega)
   go_enter Try.func13,Try.ntmps13
   go_wp2
   go_ret
   exact ⟨rfl,HB.out⟩
  ·rw [if_neg hbig]
   have hb0 : decide ((l0.length : Int) > 400) = false:=decide_eq_false (by omega)
   have hb1 : decide ((400 : Int) < (l0.length : Int)) = false:=decide_eq_false (by omega)
   have hl : l0.length ≤ 400:=by omega
   have hmm:=@run_makeMap
   go_enter Try.func13,Try.ntmps13
   go_wp2_with fail
   have HO : Aside0 ((w.alloc (.map #[] 0)).ownsMap Try.prog 36 (plainElem (H:=Unit) Try.prog 4) w.heap.size 0 (.map [])):=Z_ (World.ownsMap_made w _ _ _)
   replace HB:=Z_ (lA1_ (o:=.map #[] 0) HB.out)
   obtain ⟨B,hB⟩ : ∃ B,B = w.heap.size:=⟨_,rfl⟩
   have GB : Aside0 (w.heap.size ≤ B):=⟨by omega⟩
   rw [← hB] at HO ⊢
   clear hB
   go_loopg [13] l0.length (fun gg s13 wr => ∃ (kk : Nat) (D : DataW Unit),kk ≤ l0.length ∧ l0.length - kk ≤ gg ∧ s13 = .int .i64 kk ∧ Aside0 (TFs (l0.take kk) (l0.drop kk) = TFs [] l0) ∧ Aside0 (wr.ownsMap Try.prog 36 (plainElem Try.prog 4) B kk D) ∧ Aside0 (IsMap D) ∧ Aside0 (Seen D (l0.take kk)) ∧ Aside0 (Below w.heap.size w wr))
   case atStart => exact ⟨0,.map [],Nat.zero_le _,by omega,rfl,⟨rfl⟩,HO,⟨isMap_empty⟩,⟨seen_nil⟩,HB⟩
   case round =>
    clear HO HB
    obtain ⟨kk,D,hkn,hgg,rfl,HT,HO,HD,HS,HB⟩:=hrel
    by_cases hlt : kk < l0.length
    ·have hltz : (kk : Int) < (l0.length : Int):=by omega
     have hltd : decide ((kk : Int) < (l0.length : Int)) = true:=decide_eq_true hltz
     obtain ⟨ad,e,hx0,hx1,hx2,hx3⟩:=at_T36 (Kd.C_below HR.out HB.out) (kk : Int) (by omega) (by omega)
     rw [Int.toNat_natCast] at hx0 hx1 hx2 hx3
     subst e
     have hm : rd_T36 l0 (kk : Int) = l0[kk]:=by simp [rd_T36,List.getD,List.getElem?_eq_getElem hlt]
     have htk : l0.take (kk + 1) = l0.take kk ++ [rd_T36 l0 (kk : Int)]:=by rw [hm,List.take_succ_eq_append_getElem hlt]
     have hdr : l0.drop kk = rd_T36 l0 (kk : Int) :: l0.drop (kk + 1):=by rw [hm,List.drop_eq_getElem_cons hlt]
     have hxw : wf4 (rd_T36 l0 (kk : Int)) = true:=by rw [hm];exact List.all_eq_true.1 HW.out _ (List.getElem_mem hlt)
     have ht:=HT.out
     rw [hdr] at ht
     simp only [TFs] at ht
     have HTK:=Z_ htk
     clear hm htk hdr HT
     generalize rd_T36 l0 (kk : Int) = x at hx0 hx1 hx2 hx3 hxw ht HTK
     obtain ⟨kl,hkl⟩:=keyOf_term x hxw
     have HK:=Z_ (show keyOf Try.prog 36 (tv x) = some kl from hkl)
     clear hkl hxw
     obtain ⟨c,hc⟩ : ∃ c,c = tfault x.f0 x.f1 x.f2 x.f3 (l0.take kk):=⟨_,rfl⟩
     have HF:=Z_ (show impl_Term_fault.f x.f0 x.f1 x.f2 x.f3 (l0.take kk) = some c by rw [hc];rfl)
     rw [← hc] at ht
     clear hc
     have hkc : kk ≤ c0:=by have:=HC.out;omega
     obtain ⟨y,hy⟩ : ∃ y,y = l0.take kk:=⟨_,rfl⟩
     have hyl : y.length = ((kk : Nat) : Int).toNat:=by rw [hy,List.length_take];omega
     have hCy:=C_take39 HR.out (Below.refl _ w) kk
     rw [← hy] at HS HTK HF ht hCy
     have HCY:=Z_ hCy
     have HY:=Z_ hyl
     obtain ⟨i0,hi0,_,hsz0,_⟩:=info_parts info36
     have hcut:=cut_to (P:=Try.prog) 24 36 .i64 Try.underlying24 hi0 (some ad) l0.length c0 (kk : Int) (by omega) (by omega) HC.out
     rw [← hyl] at hcut
     clear hi0 hsz0 hCy
     have HYE:=Z_ hy
     clear hy hyl
     go_wp2_with (first | ((with_reducible refine gD_ 5 rfl ?_);refine bx_ #[.int .i64 0,.int .i64 0,.int .i64 0,.int .i64 0] 36 ?_;intro g5 hg w3 hbox hb;have n0_:=Z_ (lP_ HB.out hb);have n1_:=Z_ hbox;have n2_:=Z_ (show w.heap.size ≤ g5 by rw [hg];exact below_size HB.out);have n3_:=Z_ (show B ≠ g5 by rw [hg];exact Nat.ne_of_lt HO.out.lt);have n4_:=Z_ (own_map_below HO.out hb);replace hx0:=(hb.cell (World.block_lt_of_cell? wr _ hx0)).trans hx0;replace hx1:=(hb.cell (World.block_lt_of_cell? wr _ hx1)).trans hx1;replace hx2:=(hb.cell (World.block_lt_of_cell? wr _ hx2)).trans hx2;replace hx3:=(hb.cell (World.block_lt_of_cell? wr _ hx3)).trans hx3;clear HB HO;have HB:=n0_;have a0:=n1_;have a1:=n2_;have NE5:=n3_;have HO:=n4_;clear n0_ n1_ n2_ n3_ n4_ hb hbox hg;have p0_ : w3.cell? ⟨g5,0,none⟩ = some (.int .i64 0):=(blk_cell a0.out 0).trans rfl;have p1_ : w3.cell? ⟨g5,1,none⟩ = some (.int .i64 0):=(blk_cell a0.out 1).trans rfl;have p2_ : w3.cell? ⟨g5,2,none⟩ = some (.int .i64 0):=(blk_cell a0.out 2).trans rfl;have p3_ : w3.cell? ⟨g5,3,none⟩ = some (.int .i64 0):=(blk_cell a0.out 3).trans rfl;have f0_:=blk_frozen a0.out 0;have f1_:=blk_frozen a0.out 1;have f2_:=blk_frozen a0.out 2;have f3_:=blk_frozen a0.out 3))
     have n0_:=Z_ (blk_put (blk_put (blk_put (blk_put a0.out 0 (.int .i64 x.f0) rfl) 1 (.int .i64 x.f1) rfl) 2 (.int .i64 x.f2) rfl) 3 (.int .i64 x.f3) rfl)
     have n1_:=Z_ (own_map_set (own_map_set (own_map_set (own_map_set HO.out NE5.out (j:=0) (u:=.int .i64 x.f0)) NE5.out (j:=1) (u:=.int .i64 x.f1)) NE5.out (j:=2) (u:=.int .i64 x.f2)) NE5.out (j:=3) (u:=.int .i64 x.f3))
     have n2_:=Z_ (lS1_ (j:=3) (v:=.int .i64 x.f3) (lS1_ (j:=2) (v:=.int .i64 x.f2) (lS1_ (j:=1) (v:=.int .i64 x.f1) (lS1_ (j:=0) (v:=.int .i64 x.f0) HB.out a1.out) a1.out) a1.out) a1.out)
     clear a0 HO HB hx0 hx1 hx2 hx3 p0_ p1_ p2_ p3_ f0_ f1_ f2_ f3_
     have a0:=n0_;have HO:=n1_;have HB:=n2_
     clear n0_ n1_ n2_
     generalize (w3.setCell ⟨g5,0,none⟩ (.int .i64 x.f0) |>.setCell ⟨g5,1,none⟩ (.int .i64 x.f1) |>.setCell ⟨g5,2,none⟩ (.int .i64 x.f2) |>.setCell ⟨g5,3,none⟩ (.int .i64 x.f3)) = w4 at a0 HO HB ⊢
     have n0_:=Z_ (bD_ a0.out)
     have n1_:=Z_ (lD_ HB.out)
     have n2_:=Z_ (World.ownsMap.drew HO.out)
     clear a0 HB HO
     have a0:=n0_;have HB:=n1_;have HO:=n2_
     clear n0_ n1_ n2_
     refine start_ (n:=6) (S:=fun w' => w'.cell? ⟨g5,0,none⟩ = some (.int .i64 x.f0) ∧ w'.cell? ⟨g5,1,none⟩ = some (.int .i64 x.f1) ∧ w'.cell? ⟨g5,2,none⟩ = some (.int .i64 x.f2) ∧ w'.cell? ⟨g5,3,none⟩ = some (.int .i64 x.f3)) (ds:=[]) (Bt 6 0) (by kernel_rfl) rfl rfl ⟨(blk_cell a0.out 0).trans rfl,(blk_cell a0.out 1).trans rfl,(blk_cell a0.out 2).trans rfl,(blk_cell a0.out 3).trans rfl⟩ (fun hHeld => ?_)
     generalize w4.drew = w5 at a0 HB HO hHeld ⊢
     refine ta_ 0 (some 18) (Bt 6 1) (by kernel_rfl) hHeld ?_
     refine pu_ 1 (some 19) (Bt 6 3) (by kernel_rfl) ?_
     refine pu_ 2 (some 20) (Bt 6 7) (by kernel_rfl) ?_
     refine pu_ 3 (some 21) (Bt 6 15) (by kernel_rfl) ?_
     refine one_ (i:=4) (N:=some 22) (Bt 6 31) rfl rfl (by kernel_rfl) (by decide) (fun K hK => ?_)
     refine goes_ Try.func48 (by kernel_rfl) rfl #[.agg #[.int .i64 x.f0,.int .i64 x.f1,.int .i64 x.f2,.int .i64 x.f3],.slice (some ad) y.length c0] (by rfl) rfl rfl (by (try simp only [List.map_toArray,List.map_cons,List.map_nil]);first | done | rfl) ?_
     with_reducible refine (impl_Term_fault.calls x.f0 x.f1 x.f2 x.f3 (some ad) c0 y c _ (Kd.C_below HCY.out HB.out) (by have:=HY.out;omega) HF.out).mono ?_
     rintro e w6 ⟨rfl,hb⟩
     refine ⟨_,rfl,?_⟩
     have n0_:=Z_ (bB_ a0.out hb)
     have n1_:=Z_ (lP_ HB.out hb)
     have n2_:=Z_ (own_map_below HO.out hb)
     clear a0 HB HO hb
     have a0:=n0_;have HB:=n1_;have HO:=n2_
     clear n0_ n1_ n2_
     refine hK.out _ _ ⟨(blk_cell a0.out 0).trans rfl,(blk_cell a0.out 1).trans rfl,(blk_cell a0.out 2).trans rfl,(blk_cell a0.out 3).trans rfl⟩ (fun hHeld => ?_)
     clear hK K
     refine norm_ (a':=?_) ?_ ?_
     rotate_left
     ·show Act.put _ (some 22) _ = _
      simp only [Act.put,lA_,lZ_,lS_,i64_w,i32_w]
      rfl
     refine pu_ 5 (some 6) (Bt 6 63) (by kernel_rfl) ?_
     refine done_ (by kernel_rfl) ?_
     have p0_ : w6.cell? ⟨g5,0,none⟩ = some (.int .i64 x.f0):=(blk_cell a0.out 0).trans rfl;have p1_ : w6.cell? ⟨g5,1,none⟩ = some (.int .i64 x.f1):=(blk_cell a0.out 1).trans rfl;have p2_ : w6.cell? ⟨g5,2,none⟩ = some (.int .i64 x.f2):=(blk_cell a0.out 2).trans rfl;have p3_ : w6.cell? ⟨g5,3,none⟩ = some (.int .i64 x.f3):=(blk_cell a0.out 3).trans rfl
     clear hcut
     by_cases hc0 : c = 0
     ·have hc1 : (c != 0) = false:=by simpa using hc0
      have hc2 : (c == 0) = true:=by simpa using hc0
      rw [if_pos hc0] at ht
      cases hq : y.any (eq4 x) with
      | true =>
       rw [hq,if_pos rfl] at ht
       go_wp2_with (first | (at_lookup;refine wpList_lookup_own_bool (H:=Unit) _ rfl (.tmp 26) (.tmp 27) 94 rfl 36 4 term_keyed Try.underlying94 Try.underlying4 rfl B kk D rfl HO.out _ kl rfl HK.out ?_;intro c1 hat;have hc3 : c1 = y.any (eq4 x):=(by have:=(HS.out x kl HK.out).symm.trans hat;injection this with this;injection this with this;exact this.symm);rw [hq] at hc3;subst hc3;clear hat))
       go_ret
       exact ⟨by rw [← ht];rfl,HB.out⟩
      | false =>
       rw [hq,if_neg (by decide)] at ht
       go_wp2_with (first | (at_lookup;refine wpList_lookup_own_bool (H:=Unit) _ rfl (.tmp 26) (.tmp 27) 94 rfl 36 4 term_keyed Try.underlying94 Try.underlying4 rfl B kk D rfl HO.out _ kl rfl HK.out ?_;intro c1 hat;have hc3 : c1 = y.any (eq4 x):=(by have:=(HS.out x kl HK.out).symm.trans hat;injection this with this;injection this with this;exact this.symm);rw [hq] at hc3;subst hc3;clear hat) | (at_mapUpdate;refine wpList_mapUpdate_own (H:=Unit) _ rfl (.tmp 29) (.tmp 30) (.const (.bool true)) 94 rfl 36 4 term_keyed Try.underlying94 (plainElem Try.prog 4) B kk D rfl HO.out (by show kk < 9223372036854775807;omega) _ _ kl rfl rfl HK.out (.lit (.bool true)) [] (plainElem_bool Try.underlying4 true) ?_;intro w7 ho7 hg7))
       go_roundg (l0.length - (kk + 1))
       case measure => omega
       case rel =>
        refine ⟨kk + 1,D.put kl (.lit (.bool true)),by omega,by omega,by go_num,⟨by rw [HTK.out];exact ht⟩,⟨ho7⟩,⟨HD.out.put _ _⟩,⟨by rw [HTK.out];exact seen_put HS.out HD.out HK.out⟩,⟨pw_below_grown HB.out (some B) (below_size HB.out) hg7 (fun k hk => by injection hk with hk;rw [← hk];exact GB.out)⟩⟩
     ·have hc1 : (c != 0) = true:=by simpa using hc0
      have hc2 : (c == 0) = false:=by simpa using hc0
      rw [if_neg hc0] at ht
      go_wp2_with fail
      go_ret
      exact ⟨by rw [ht];rfl,HB.out⟩
    ·have hltd : decide ((kk : Int) < (l0.length : Int)) = false:=decide_eq_false (by omega)
     obtain rfl : kk = l0.length:=by omega
     have ht:=HT.out
     rw [List.drop_length] at ht
     go_wp2_with fail
     go_ret
     exact ⟨by rw [← ht];rfl,HB.out⟩
 ·rw [if_neg hwf] at h;cases h
end Go.Proofs.Ytpabeajjbifjdaa.G
namespace Go.Proofs.Ytpabeajjbifjdaa.G
open Go.RowKit Go.Proofs.YtpabeajjbifjdaaW.PrintWords Go.Proofs.YtpabeajjbifjdaaW.PrintLast Go.Proofs.YtpabeajjbifjdaaW.PrintMore
attribute [local go_sem] max2_int min2_int max_two min_two max_three min_three max_four min_four   -- for this text's walks alone
set_option linter.unusedVariables false
set_option linter.unusedSimpArgs false
set_option maxHeartbeats 4000000 in
set_option maxRecDepth 100000 in
theorem impl_placesFault_1.calls (A0 : Option Addr) (n c0 B : Nat) (x : Int) (hn : n ≤ 9223372036854775807) (W : World) (hc : W.cell? ⟨B,0,none⟩ = some (.slice A0 n c0)) :
    Calls Try.prog 106 (#[.int .i64 x] ++ #[.pointer (some ⟨B,0,none⟩)]) W fun e w' => e = .returned (.bool (!decide (0 ≤ x ∧ x ≤ (n : Int) - 1))) ∧ Below W.heap.size W w':=by
 have hC:=fun W' => impl_isPlace.callsF A0 n c0 x hn W'
 generalize decide (0 ≤ x ∧ x ≤ (n : Int) - 1) = r at hC ⊢
 go_enter Try.func106,Try.ntmps106
 go_wp2_with (go_at_call 54;refine (hC _).mono ?_;rintro e w' ⟨rfl,hb⟩)
 go_ret
 exact ⟨rfl,hb⟩
def impl_placesFault.f (l0 : List S36) (l1 : List Int) : Option Int:=(impl_TermsFault.f l0).bind fun c => (if c = 0 then (if l1.any (notIn l0) = true then some 3 else some 0) else some c)
set_option maxHeartbeats 4000000 in
set_option maxRecDepth 100000 in
theorem impl_placesFault.calls (A0 : Option Addr) (c0 : Nat) (l0 : List S36) (A1 : Option Addr) (c1 : Nat) (l1 : List Int) (r : Int) (w : World) (hr0 : Kd.C k36 w A0 l0.length l0) (hc0 : l0.length ≤ c0) (hr1 : Kd.C (Kd.int .i64) w A1 l1.length l1) (hc1 : l1.length ≤ c1) (h : impl_placesFault.f l0 l1 = some r) :
    Calls Try.prog 67 #[.slice A0 l0.length c0,.slice A1 l1.length c1] w fun e w' => e = .returned (.int .i64 r) ∧ Below w.heap.size w w':=by
 unfold impl_placesFault.f at h
 have hmf : ∀ (fn : Fn) (first cap : Array Value) (w : World),(Instr.makeFunc fn first cap).run Try.prog w = .ok (.func fn first cap) w:=fun _ _ _ _ => rfl
 obtain ⟨c,hc,h⟩:=Option.bind_eq_some_iff.mp h
 have HF:=Z_ hc
 have HR0:=Z_ hr0
 have HC0:=Z_ hc0
 have HR1:=Z_ hr1
 have HN0:=Z_ hr0.2.1
 have HN1:=Z_ hr1.2.1
 have HB:=Z_ (Below.refl w.heap.size w)
 clear hc hr0 hc0 hr1
 by_cases hz : c = 0
 ·rw [if_pos hz] at h
  have hz0 : (c == 0) = true:=by simpa using hz
  have hz1 : (c != 0) = false:=by simpa using hz
  clear hz
  obtain ⟨b,hb⟩ : ∃ b,b = l1.any (notIn l0):=⟨_,rfl⟩
  rw [← hb] at h
  have HBE:=Z_ hb.symm
  clear hb
  cases b with
  | true =>
   rw [if_pos rfl] at h
   obtain rfl:=Option.some.inj h
   go_enter Try.func67,Try.ntmps67
   go_wp2_with (first | ((with_reducible refine gD_ 2 rfl ?_);refine bx_ #[.slice A0 l0.length c0] 24 ?_;intro g2 hg w2 hbox hb;replace HB:=Z_ (lP_ HB.out hb);have BK2:=Z_ hbox;clear hb hbox hg;have p0_ : w2.cell? ⟨g2,0,none⟩ = some (.slice A0 l0.length c0):=(blk_cell BK2.out 0).trans rfl) | (go_at_call 13;with_reducible refine (impl_TermsFault.calls A0 c0 l0 c _ (Kd.C_below HR0.out HB.out) HC0.out HF.out).mono ?_;rintro e w3 ⟨rfl,hb⟩;replace HB:=Z_ (lP_ HB.out hb);replace BK2:=Z_ (bB_ BK2.out hb);clear hb p0_) | (go_at_call 90;refine (slices_ContainsFunc_int64_int64.calls 106 #[.pointer (some ⟨g2,0,none⟩)] (notIn l0) A1 c1 l1 _ (enters_of Try.func106 (by kernel_rfl) rfl) (fun W x _ hB => (impl_placesFault_1.calls A0 l0.length c0 g2 x HN0.out W ((hB.cell (p:=⟨g2,0,none⟩) (blk_lt BK2.out)).trans ((blk_cell BK2.out 0).trans rfl))).mono (fun _ _ h => ⟨h.1,lP_ hB h.2⟩)) (Kd.C_below HR1.out HB.out) HN1.out).mono ?_;rintro e w4 ⟨he,hb⟩;rw [HBE.out] at he;subst he;replace HB:=Z_ (lP_ HB.out hb);clear hb))
   go_ret
   exact ⟨rfl,HB.out⟩
  | false =>
   rw [if_neg (by decide)] at h
   obtain rfl:=Option.some.inj h
   go_enter Try.func67,Try.ntmps67
   go_wp2_with (first | ((with_reducible refine gD_ 2 rfl ?_);refine bx_ #[.slice A0 l0.length c0] 24 ?_;intro g2 hg w2 hbox hb;replace HB:=Z_ (lP_ HB.out hb);have BK2:=Z_ hbox;clear hb hbox hg;have p0_ : w2.cell? ⟨g2,0,none⟩ = some (.slice A0 l0.length c0):=(blk_cell BK2.out 0).trans rfl) | (go_at_call 13;with_reducible refine (impl_TermsFault.calls A0 c0 l0 c _ (Kd.C_below HR0.out HB.out) HC0.out HF.out).mono ?_;rintro e w3 ⟨rfl,hb⟩;replace HB:=Z_ (lP_ HB.out hb);replace BK2:=Z_ (bB_ BK2.out hb);clear hb p0_) | (go_at_call 90;refine (slices_ContainsFunc_int64_int64.calls 106 #[.pointer (some ⟨g2,0,none⟩)] (notIn l0) A1 c1 l1 _ (enters_of Try.func106 (by kernel_rfl) rfl) (fun W x _ hB => (impl_placesFault_1.calls A0 l0.length c0 g2 x HN0.out W ((hB.cell (p:=⟨g2,0,none⟩) (blk_lt BK2.out)).trans ((blk_cell BK2.out 0).trans rfl))).mono (fun _ _ h => ⟨h.1,lP_ hB h.2⟩)) (Kd.C_below HR1.out HB.out) HN1.out).mono ?_;rintro e w4 ⟨he,hb⟩;rw [HBE.out] at he;subst he;replace HB:=Z_ (lP_ HB.out hb);clear hb))
   go_ret
   exact ⟨rfl,HB.out⟩
 ·rw [if_neg hz] at h
  obtain rfl:=Option.some.inj h
  have hz0 : (c == 0) = false:=by simpa using hz
  have hz1 : (c != 0) = true:=by simpa using hz
  go_enter Try.func67,Try.ntmps67
  go_wp2_with (first | ((with_reducible refine gD_ 2 rfl ?_);refine bx_ #[.slice A0 l0.length c0] 24 ?_;intro g2 hg w2 hbox hb;replace HB:=Z_ (lP_ HB.out hb);have BK2:=Z_ hbox;clear hb hbox hg;have p0_ : w2.cell? ⟨g2,0,none⟩ = some (.slice A0 l0.length c0):=(blk_cell BK2.out 0).trans rfl) | (go_at_call 13;with_reducible refine (impl_TermsFault.calls A0 c0 l0 c _ (Kd.C_below HR0.out HB.out) HC0.out HF.out).mono ?_;rintro e w3 ⟨rfl,hb⟩;replace HB:=Z_ (lP_ HB.out hb);replace BK2:=Z_ (bB_ BK2.out hb);clear hb p0_))
  go_ret
  exact ⟨rfl,HB.out⟩
def impl_isName.f (a0 : Int) : Option (Bool):=(impl_in.f a0 0 9999).bind fun t278 => (some t278)
set_option maxHeartbeats 8000000 in
set_option maxRecDepth 100000 in
theorem impl_isName.calls (a0 : Int) (r : Bool) (w : World) (h : impl_isName.f a0 = some r) :
  Calls Try.prog 77 #[.int .i64 a0] w fun e w' => e = .returned (.bool r) ∧ Drawn0 w w':=by
 unfold impl_isName.f at h
 have H:=h
 clear h
 replace H:=bS_ H
 obtain ⟨t278,A2,H⟩:=H
 obtain rfl:=Option.some.inj H
 go_enter Try.func77,Try.ntmps77
 go_wp2_with (first | ((with_reducible refine gate_callee (f:=88) rfl ?_);refine goesA_ (some 4) rfl rfl Try.func88 (by kernel_rfl) rfl #[.int .i64 a0,.int .i64 0,.int .i64 9999] rfl ?_;(with_reducible refine (impl_in.calls a0 0 9999 t278 _ A2.out).mono ?_);rintro e w' ⟨rfl,⟨nd,rfl⟩⟩;refine ⟨_,rfl,?_⟩))
 go_ret
 exact ⟨by first | rfl | (simp;done) | (simp [*];done),by repeat (first | exact Drawn0.refl _ | apply Drawn0.step)⟩
def impl_namesFault.l0 : Nat → Int → List Int → Int → Int → Option (Int)
 | 0,_,_,_,_ => none
 | k + 1,x7,x13,x14,x15 => if x15 < x14 then (if 0 ≤ x15 then (if x15 < (x13.length : Int) then (if x7 = 0 then ((impl_isName.f (rd x13 x15)).bind fun t281 => (if t281 = true then (impl_namesFault.l0 k x7 x13 x14 (wrap64 (x15 + 1))) else (impl_namesFault.l0 k 3 x13 x14 (wrap64 (x15 + 1))))) else (impl_namesFault.l0 k x7 x13 x14 (wrap64 (x15 + 1)))) else (none)) else (none)) else (some x7)
def impl_namesFault.f (k : Nat) (l0 : List (S36)) (l1 l2 : List Int) : Option (Int):=(impl_placesFault.f l0 l2).bind fun t279 => (impl_namesFault.l0 k t279 l1 (l1.length : Int) 0)
set_option maxHeartbeats 8000000 in
set_option maxRecDepth 100000 in
theorem impl_namesFault.calls (k : Nat) (A0 : Option Addr) (c0 : Nat) (l0 : List (S36)) (A1 : Option Addr) (c1 : Nat) (l1 : List Int) (A2 : Option Addr) (c2 : Nat) (l2 : List Int) (r : Int) (w : World) (hr0 : Kd.C k36 w A0 l0.length l0) (hc0 : l0.length ≤ c0) (hr1 : Kd.C (Kd.int .i64) w A1 l1.length l1) (hc1 : l1.length ≤ c1) (hr2 : Kd.C (Kd.int .i64) w A2 l2.length l2) (hc2 : l2.length ≤ c2) (h : impl_namesFault.f k l0 l1 l2 = some r) :
  Calls Try.prog 41 #[.slice A0 l0.length c0,.slice A1 l1.length c1,.slice A2 l2.length c2] w fun e w' => e = .returned (.int .i64 r) ∧ Below w.heap.size w w':=by
 have a4:=Z_ hr0
 have a5:=Z_ hc0
 clear hr0 hc0
 have a0:=Z_ hr1
 have a8:=Z_ hc1
 clear hr1 hc1
 have a6:=Z_ hr2
 have a7:=Z_ hc2
 clear hr2 hc2
 have HB:=Z_ (Below.refl w.heap.size w)
 unfold impl_namesFault.f at h
 have H:=h
 clear h
 replace H:=bS_ H
 obtain ⟨t279,A4,H⟩:=H
 have H':=Z_ H
 clear H
 go_enter Try.func41,Try.ntmps41
 go_wp2_with (first | ((with_reducible refine gate_callee (f:=67) rfl ?_);refine goesA_ (some 12) rfl rfl Try.func67 (by kernel_rfl) rfl #[.slice A0 l0.length c0,.slice A2 l2.length c2] rfl ?_;(with_reducible refine (impl_placesFault.calls _ _ l0 _ _ l2 t279 _ ?side1 ?side2 ?side3 ?side4 A4.out).mono ?_);(case side1 => repeat (first | exact a4.out | (with_reducible refine Kd.C_alloc ?_ _) | (with_reducible refine Kd.C_drewN ?_ _) | (with_reducible refine Kd.C_drew ?_)));(case side2 => exact a5.out);(case side3 => repeat (first | exact a6.out | (with_reducible refine Kd.C_alloc ?_ _) | (with_reducible refine Kd.C_drewN ?_ _) | (with_reducible refine Kd.C_drew ?_)));(case side4 => exact a7.out);rintro e w5 ⟨rfl,hb⟩;refine ⟨_,rfl,?_⟩;replace HB:=Z_ (lP_ HB.out hb);(try clear hb)))
 go_loopg [7,15] k (fun kq v7 v15 w' => ∃ (x7_1 : Int) (x15_1 : Int),v7 = .int .i64 x7_1 ∧ v15 = .int .i64 x15_1 ∧ Aside0 (impl_namesFault.l0 kq x7_1 l1 (l1.length : Int) x15_1 = some r) ∧ Aside0 (kq ≤ k) ∧ Aside0 (Below w.heap.size w w'))
 case atStart => exact ⟨(t279),(0),Sr_,Sr_,H',⟨Nat.le_refl _⟩,⟨Lb_⟩⟩
 case round =>
  clear H'
  try clear c1
  try clear c2
  try clear p2
  try clear c4
  obtain ⟨x7_1,x15_1,rfl,rfl,HA,HK1,HB⟩:=hrel
  cases gk with
  | zero => exact absurd HA.out (by simp [impl_namesFault.l0])
  | succ k1 =>
   have H:=HA.out
   clear HA
   simp only [impl_namesFault.l0] at H
   replace H:=iD_ H
   obtain ⟨c6b0,H⟩ | ⟨c6b0,H⟩:=H
   rotate_left
   ·obtain rfl:=Option.some.inj H
    go_wp2
    go_ret
    exact ⟨Er_,Lb_⟩
   rotate_right
   replace H:=iM_ H
   obtain ⟨c7b0,H⟩:=H
   replace H:=iM_ H
   obtain ⟨c8b0,H⟩:=H
   replace H:=iE_ H
   obtain ⟨c9b0,c9b1,H⟩ | ⟨c9b0,c9b1,H⟩:=H
   replace H:=bS_ H
   obtain ⟨t281,a3,H⟩:=H
   replace H:=iB_ H
   obtain ⟨rfl,H⟩ | ⟨rfl,H⟩:=H
   all_goals
    have H':=Z_ H
    clear H
    have p280 : 0 ≤ (x15_1 : Int):=dA_
    have q280 : x15_1 < (l1.length : Int):=dA_
    obtain ⟨ad280,e280,hx280_0⟩:=Kd.at_int a0.out x15_1 p280 q280
    cases e280
    replace hx280_0:=cB_ HB hx280_0
    replace p280:=eq_true p280
    replace q280:=eq_true q280
    go_wp2_with (first | (go_at_call 77;(with_reducible refine (impl_isName.calls (rd l1 x15_1) _ _ a3.out).mono ?_);rintro e w' ⟨rfl,⟨nd,rfl⟩⟩))
    go_roundg k1
    case measure => have:=HK1.out;omega
    case rel => exact ⟨_,_,Sr_,Sr_,H',⟨by have:=HK1.out;omega⟩,⟨Lb_⟩⟩
def impl_Term_78.f (l0 : List (S36)) : Option (List (S36)):=if l0.length * 32 ≤ 140737488355328 then some l0 else none
set_option maxHeartbeats 4000000 in
set_option maxRecDepth 100000 in
theorem impl_Term_78.calls (A0 : Option Addr) (c0 : Nat) (l0 r : List (S36)) (w : World) (hr0 : Kd.C k36 w A0 l0.length l0) (hc0 : l0.length ≤ c0) (h : impl_Term_78.f l0 = some r) :
    Calls Try.prog 78 #[.slice A0 l0.length c0] w fun e w' => ∃ v0_ : Value,e = .returned (v0_) ∧ Kd.R k36 36 w' w.heap.size (fun _ => True) v0_ r ∧ Below w.heap.size w w':=by
 unfold impl_Term_78.f at h
 by_cases hb : l0.length * 32 ≤ 140737488355328
 ·rw [if_pos hb] at h
  obtain rfl:=Option.some.inj h
  clear h
  have HL:=Z_ hb
  clear hb
  rcases A0 with _ | ad
  ·obtain rfl : l0 = []:=by
     rcases Nat.eq_zero_or_pos l0.length with h0 | h0
     · exact List.eq_nil_of_length_eq_zero h0
     · obtain ⟨_,h,_⟩:=hr0.2.2 h0
       cases h
   have hq:=fun (W : World) => Lib.run_eql_slice_nil (P:=Try.prog) W 24 36 none 0 c0 0 0 Try.underlying24
   clear hr0
   go_enter Try.func78,Try.ntmps78
   go_wp2
   go_ret
   exact ⟨_,rfl,Kd.R_nil _ _ _ _ _,Below.refl _ _⟩
  ·have HR:=Z_ hr0
   clear hr0
   have HB:=Z_ (Below.refl w.heap.size w)
   have hq:=fun (W : World) => Lib.run_eql_slice_nil (P:=Try.prog) W 24 36 (some ad) l0.length c0 0 0 Try.underlying24
   go_enter Try.func78,Try.ntmps78
   go_wp2_with (first | ((with_reducible refine gD_ 5 rfl ?_);refine Kd.R_lit k36 _ 36 ?hg (N:=5) ?hd (xs:=([] : List (S36))) (inner:=[]) (ok:=fun _ => True) (okp:=fun _ => True) ?hr ?hp (fun _ hk => hk) trivial (Below.refl _ _) (Nat.le_refl _) (by simp) ?_;(case hd => rfl);(case hg => rfl);(case hr => first | (go_simp;done) | (go_simp;rfl));(case hp => exact (Reps.none _ _));intro v103 w3 ho4 hb hg_ hnew_;clear hg_ hnew_;have HO104:=Z_ (Kd.R_lower ho4 (below_size HB.out));replace HR:=Z_ (Kd.C_below HR.out (by first | exact hb | exact lP_ HB.out hb));replace HB:=Z_ (lP_ HB.out hb);clear hb ho4) | ((with_reducible refine gate_builtin (b:=.append) (xs:=#[.tmp 5,.tmp 6]) rfl ?_);at_builtin;refine Kd.R_append_rows k36 (Rr:=k36.K w3) (w0:=w) w.heap.size rfl (.tmp 5) (.tmp 6) 24 36 (.agg #[(.int .i64 0),(.int .i64 0),(.int .i64 0),(.int .i64 0)]) 32 rfl Try.underlying24 info36 rfl (by decide) (by omega) v103 [] l0 (some ad) l0.length c0 (fun _ => True) (fun _ => False) rfl rfl ?aO ?aR (fun _ cs_ h_ => by obtain rfl:=k36_open h_;exact k36_mkM _ _ _ _) (fun _ hk => hk.elim) (fun _ _ => trivial) ?aB ?aS ?aL ?_;(case aO => exact HO104.out);(case aR => exact HR.out);(case aB => exact HB.out);(case aS => exact below_size HB.out);(case aL => have:=HL.out;simp;omega);intro v106 w10 ho hb hg hat;replace HB:=Z_ (hb);have HO107:=Z_ (ho);clear HO104 ho hb hg hat))
   go_ret
   exact ⟨_,rfl,HO107.out,HB.out⟩
 ·rw [if_neg hb] at h;cases h
theorem add_block_ (a : Addr) (j : Nat) : (a.add j).block = a.block:=by unfold Addr.add;split <;> rfl
def Sheet (W : World) (N S : Nat) (l : List S36) (full : Bool) : Prop:=∃ v,W.heap[S]? = some (.cells #[v,.bool full] 79 (0,0)) ∧ N ≤ S ∧ k36.R 36 W N (fun k => k ≠ S) v l
theorem below_stepN {w W W' : World} {N : Nat} (h : Below N w W) (hN : N ≤ W.heap.size) (k : Below W.heap.size W W') : Below N w W':=h.trans (k.mono hN)
theorem R_not {W : World} {N S : Nat} {ok : Nat → Prop} {v : Value} {l : List S36} (h : k36.R 36 W N ok v l) (hs : ∀ k,v.ownBlock = some k → k ≠ S) : k36.R 36 W N (fun k => k ≠ S) v l:=by
  obtain ⟨h0,inner,hown,hr⟩:=h
  exact ⟨hs,inner,hown,hr.imp_ (fun x cs hm => by obtain rfl:=k36_openM hm;exact k36_mkM _ _ _ _)⟩
set_option maxHeartbeats 4000000 in
set_option maxRecDepth 100000 in
theorem impl_sheetOf.calls (A0 : Option Addr) (c0 : Nat) (l0 : List S36) (w : World) (hr0 : Kd.C k36 w A0 l0.length l0) (hc0 : l0.length ≤ c0) (hb : l0.length * 32 ≤ 140737488355328) :
    Calls Try.prog 42 #[.slice A0 l0.length c0] w fun e w' => ∃ S,e = .returned (.pointer (some ⟨S,0,none⟩)) ∧ Sheet w' w.heap.size S l0 false ∧ Below w.heap.size w w':=by
 have HR:=Z_ hr0
 have HC:=Z_ hc0
 have HF:=Z_ (show impl_Term_78.f l0 = some l0 from if_pos hb)
 have HB:=Z_ (Below.refl w.heap.size w)
 clear hr0 hc0 hb
 go_enter Try.func42,Try.ntmps42
 go_wp2_with (first | (go_at_call 78;with_reducible refine (impl_Term_78.calls A0 c0 l0 l0 _ (Kd.C_below HR.out HB.out) HC.out HF.out).mono ?_;rintro e w2 ⟨v,rfl,ho,hb⟩;obtain ⟨A2,c2,rfl⟩:=Kd.R_slice ho;have HO:=Z_ (Kd.R_lower ho (below_size HB.out));replace HB:=Z_ (lP_ HB.out hb);clear hb ho) | ((with_reducible refine gD_ 6 rfl ?_);refine bx_ #[.slice A2 l0.length c2,.bool false] 79 ?_;intro S hg w3 hbox hb;have HS : Aside0 (Sheet w3 w.heap.size S l0 false):=⟨⟨.slice A2 l0.length c2,hbox,(by rw [hg];exact below_size HB.out),R_not (Kd.R_below HO.out hb) (fun k hk => by obtain ⟨_,hi⟩:=Kd.R_own HO.out;have:=own_lt hi k hk;omega)⟩⟩;replace HB:=Z_ (lP_ HB.out hb);clear hb hbox hg))
 go_ret
 exact ⟨S,rfl,HS.out,HB.out⟩
end Go.Proofs.Ytpabeajjbifjdaa.G
namespace Go.Proofs.Ytpabeajjbifjdaa.G
open Go.RowKit Go.Proofs.YtpabeajjbifjdaaW.PrintWords Go.Proofs.YtpabeajjbifjdaaW.PrintLast Go.Proofs.YtpabeajjbifjdaaW.PrintMore
attribute [local go_sem] max2_int min2_int max_two min_two max_three min_three max_four min_four   -- for this text's walks alone
set_option linter.unusedVariables false
set_option linter.unusedSimpArgs false
attribute [local go_sem high] eqA36
def impl_Term_94.l0 : Nat → List (S36) → Int → Int → Int → Int → Int → Int → Option (Int)
 | 0,_,_,_,_,_,_,_ => none
 | k + 1,x0,x7,x8,x283000,x283001,x283002,x283003 => if x8 < x7 then (if 0 ≤ x8 then (if x8 < (x0.length : Int) then (if (x283000 == ((rd_T36 x0 x8).f0) && (x283001 == ((rd_T36 x0 x8).f1) && (x283002 == ((rd_T36 x0 x8).f2) && (x283003 == ((rd_T36 x0 x8).f3))))) = true then (some x8) else (impl_Term_94.l0 k x0 x7 (wrap64 (x8 + 1)) x283000 x283001 x283002 x283003)) else (none)) else (none)) else (some (-1))
def impl_Term_94.f (k : Nat) (l0 : List (S36)) (a1_0 a1_1 a1_2 a1_3 : Int) : Option (Int):=impl_Term_94.l0 k l0 (l0.length : Int) 0 a1_0 a1_1 a1_2 a1_3
set_option maxHeartbeats 8000000 in
set_option maxRecDepth 100000 in
theorem impl_Term_94.calls (k : Nat) (A0 : Option Addr) (c0 : Nat) (l0 : List (S36)) (a1_0 a1_1 a1_2 a1_3 r : Int) (w : World) (hr0 : Kd.C k36 w A0 l0.length l0) (hc0 : l0.length ≤ c0) (h : impl_Term_94.f k l0 a1_0 a1_1 a1_2 a1_3 = some r) :
  Calls Try.prog 94 #[.slice A0 l0.length c0,.agg #[.int .i64 a1_0,.int .i64 a1_1,.int .i64 a1_2,.int .i64 a1_3]] w fun e w' => e = .returned (.int .i64 r) ∧ Below w.heap.size w w':=by
 have hu36:=Try.underlying36
 have a4:=Z_ hr0
 have a5:=Z_ hc0
 clear hr0 hc0
 have HB:=Z_ (Below.refl w.heap.size w)
 unfold impl_Term_94.f at h
 have H:=h
 clear h
 have H':=Z_ H
 clear H
 go_enter Try.func94,Try.ntmps94
 go_wp2_with (first | ((with_reducible refine gD_ 3 rfl ?_);refine bx_ #[.int .i64 a1_0,.int .i64 a1_1,.int .i64 a1_2,.int .i64 a1_3] 36 ?_;intro a0 hg w3 hbox hb;have a1:=Z_ hbox;have a3:=Z_ ((by rw [hg];exact (below_size HB.out) : w.heap.size ≤ a0));replace HB:=Z_ (lP_ HB.out hb);have a2:=a3;clear hb hbox hg))
 repeat (go_quiet (first | ((with_reducible refine gate_dst (N:=3) rfl ?_);refine box_event ?hg (N:=3) ?hd (cs:=#[.int .i64 a1_0,.int .i64 a1_1,.int .i64 a1_2,.int .i64 a1_3]) (t:=36) ?hr ?_;(case hd => rfl);(case hg => rfl);(case hr => first | (go_simp;done) | (go_simp;rfl));intro a0 hg w3 hbox hb;have n0_:=Z_ (lP_ Lb_ hb);have n1_:=Z_ hbox;have n2_:=Z_ ((by rw [hg];exact (below_size Lb_) : w.heap.size ≤ a0));have n3_:=Z_ ((by rw [hg];exact (below_size Lb_) : w.heap.size ≤ a0));clear HB;have HB:=n0_;have a1:=n1_;have a3:=n2_;have a2:=n3_;clear n0_ n1_ n2_ n3_ hb hbox hg));try go_wp2_with (first | ((with_reducible refine gate_dst (N:=3) rfl ?_);refine box_event ?hg (N:=3) ?hd (cs:=#[.int .i64 a1_0,.int .i64 a1_1,.int .i64 a1_2,.int .i64 a1_3]) (t:=36) ?hr ?_;(case hd => rfl);(case hg => rfl);(case hr => first | (go_simp;done) | (go_simp;rfl));intro a0 hg w3 hbox hb;have n0_:=Z_ (lP_ HB.out hb);have n1_:=Z_ hbox;have n3_:=Z_ ((by rw [hg];exact (below_size HB.out) : w.heap.size ≤ a0));clear HB;have HB:=n0_;have a1:=n1_;have a2:=n3_;clear n0_ n1_ n3_ hb hbox hg)))
 go_loopg [8] k (fun kq v8 w' => ∃ (x8_1 : Int),v8 = .int .i64 x8_1 ∧ Aside0 (impl_Term_94.l0 kq l0 (l0.length : Int) x8_1 a1_0 a1_1 a1_2 a1_3 = some r) ∧ Aside0 (kq ≤ k) ∧ Aside0 (w'.heap[a0]? = some (.cells #[.int .i64 a1_0,.int .i64 a1_1,.int .i64 a1_2,.int .i64 a1_3] 36 (0,0))) ∧ Aside0 (Below w.heap.size w w'))
 case atStart => exact ⟨(0),Sr_,H',⟨Nat.le_refl _⟩,⟨Bk_ a1⟩,⟨Lb_⟩⟩
 case round =>
  clear H'
  try clear p2
  obtain ⟨x8_1,rfl,HA,HK1,a1,HB⟩:=hrel
  cases gk with
  | zero => exact absurd HA.out (by simp [impl_Term_94.l0])
  | succ k1 =>
   have H:=HA.out
   clear HA
   simp only [impl_Term_94.l0] at H
   replace H:=iD_ H
   obtain ⟨c4b0,H⟩ | ⟨c4b0,H⟩:=H
   rotate_left
   ·obtain rfl:=Option.some.inj H
    go_wp2
    repeat (go_quiet (fail);try go_wp2)
    go_ret
    exact ⟨Er_,Lb_⟩
   rotate_right
   replace H:=iM_ H
   obtain ⟨c5b0,H⟩:=H
   replace H:=iM_ H
   obtain ⟨c6b0,H⟩:=H
   replace H:=iC_ H
   obtain ⟨c7,H⟩ | ⟨c7,H⟩:=H
   ·have c7b0 : (a1_0 == ((rd_T36 l0 x8_1).f0) && (a1_1 == ((rd_T36 l0 x8_1).f1) && (a1_2 == ((rd_T36 l0 x8_1).f2) && (a1_3 == ((rd_T36 l0 x8_1).f3))))) = true:=c7
    (try (have c7b1 : decide (a1_0 = ((rd_T36 l0 x8_1).f0) && (a1_1 == ((rd_T36 l0 x8_1).f1) && (a1_2 == ((rd_T36 l0 x8_1).f2) && (a1_3 == ((rd_T36 l0 x8_1).f3))))) = true:=by simpa using c7))
    (try (have c7b2 : (a1_0 == ((rd_T36 l0 x8_1).f0) && (a1_1 == ((rd_T36 l0 x8_1).f1) && (a1_2 == ((rd_T36 l0 x8_1).f2) && (a1_3 == ((rd_T36 l0 x8_1).f3))))) = true:=by simpa using c7))
    clear c7
    obtain rfl:=Option.some.inj H
    obtain ⟨_,_,_,_,_,_,_,_⟩:=bc4 a1.out
    have p283 : 0 ≤ (x8_1 : Int):=dA_
    have q283 : x8_1 < (l0.length : Int):=dA_
    obtain ⟨ad283,e283,hx283_0,hx283_1,hx283_2,hx283_3⟩:=at_T36 a4.out x8_1 p283 q283
    cases e283
    replace hx283_0:=cB_ HB hx283_0
    replace hx283_1:=cB_ HB hx283_1
    replace hx283_2:=cB_ HB hx283_2
    replace hx283_3:=cB_ HB hx283_3
    replace p283:=eq_true p283
    replace q283:=eq_true q283
    go_wp2
    repeat (go_quiet (fail);try go_wp2)
    go_ret
    exact ⟨Er_,Lb_⟩
   have c7b0 : (a1_0 == ((rd_T36 l0 x8_1).f0) && (a1_1 == ((rd_T36 l0 x8_1).f1) && (a1_2 == ((rd_T36 l0 x8_1).f2) && (a1_3 == ((rd_T36 l0 x8_1).f3))))) = false:=by simpa using c7
   (try (have c7b1 : decide (a1_0 = ((rd_T36 l0 x8_1).f0) && (a1_1 == ((rd_T36 l0 x8_1).f1) && (a1_2 == ((rd_T36 l0 x8_1).f2) && (a1_3 == ((rd_T36 l0 x8_1).f3))))) = false:=by simpa using c7))
   (try (have c7b2 : (a1_0 == ((rd_T36 l0 x8_1).f0) && (a1_1 == ((rd_T36 l0 x8_1).f1) && (a1_2 == ((rd_T36 l0 x8_1).f2) && (a1_3 == ((rd_T36 l0 x8_1).f3))))) = false:=by simpa using c7))
   (try (have c7b3 : ¬ (a1_0 = ((rd_T36 l0 x8_1).f0) && (a1_1 == ((rd_T36 l0 x8_1).f1) && (a1_2 == ((rd_T36 l0 x8_1).f2) && (a1_3 == ((rd_T36 l0 x8_1).f3))))):=by simpa using c7))
   clear c7
   have H':=Z_ H
   clear H
   obtain ⟨_,_,_,_,_,_,_,_⟩:=bc4 a1.out
   have p283 : 0 ≤ (x8_1 : Int):=dA_
   have q283 : x8_1 < (l0.length : Int):=dA_
   obtain ⟨ad283,e283,hx283_0,hx283_1,hx283_2,hx283_3⟩:=at_T36 a4.out x8_1 p283 q283
   cases e283
   replace hx283_0:=cB_ HB hx283_0
   replace hx283_1:=cB_ HB hx283_1
   replace hx283_2:=cB_ HB hx283_2
   replace hx283_3:=cB_ HB hx283_3
   replace p283:=eq_true p283
   replace q283:=eq_true q283
   go_wp2
   repeat (go_quiet (fail);try go_wp2)
   go_roundg k1
   case measure => have:=HK1.out;omega
   case rel => exact ⟨(wrap64 (x8_1 + 1)),Sr_,H',⟨by have:=HK1.out;omega⟩,⟨Bk_ a1⟩,⟨Lb_⟩⟩
end Go.Proofs.Ytpabeajjbifjdaa.G
namespace Go.Proofs.Ytpabeajjbifjdaa.G
open Go.RowKit Go.Proofs.YtpabeajjbifjdaaW.PrintWords Go.Proofs.YtpabeajjbifjdaaW.PrintLast Go.Proofs.YtpabeajjbifjdaaW.PrintMore
attribute [local go_sem] max2_int min2_int max_two min_two max_three min_three max_four min_four   -- for this text's walks alone
set_option maxHeartbeats 8000000
set_option maxRecDepth 100000
set_option linter.unusedVariables false
set_option linter.unusedSimpArgs false
def putP (l : List S36) (full : Bool) (t : S36) (i : Int) : Int × List S36 × Bool:=if 0 ≤ i then (i,l,full) else if 400 ≤ l.length then (0,l,true) else if full = true then (0,l,true) else ((l.length : Int),l ++ [t],false)
theorem impl_sheet_put.calls (k S N : Nat) (l : List S36) (full : Bool) (t0 t1 t2 t3 i : Int) (w : World) (hS : Sheet w N S l full) (hN : N ≤ w.heap.size) (hi : impl_Term_94.f k l t0 t1 t2 t3 = some i) :
    Calls Try.prog 50 #[.pointer (some ⟨S,0,none⟩),.agg #[.int .i64 t0,.int .i64 t1,.int .i64 t2,.int .i64 t3]] w fun e w' => e = .returned (.int .i64 (putP l full ⟨t0,t1,t2,t3⟩ i).1) ∧ Sheet w' N S (putP l full ⟨t0,t1,t2,t3⟩ i).2.1 (putP l full ⟨t0,t1,t2,t3⟩ i).2.2 ∧ Below N w w':=by
 obtain ⟨v,hb,hns,hr⟩:=hS
 obtain ⟨A,c,rfl⟩:=Kd.R_slice hr
 have BS:=Z_ hb
 have HNS:=Z_ hns
 have HO:=Z_ hr
 have HN:=Z_ hN
 have HI:=Z_ hi
 have HB:=Z_ (Below.refl N w)
 clear hb hns hr hN hi
 go_enter Try.func50,Try.ntmps50
 go_wp2_with (first | ((with_reducible refine gD_ 3 rfl ?_);refine bx_ #[.int .i64 t0,.int .i64 t1,.int .i64 t2,.int .i64 t3] 36 ?_;intro g3 hg w2 hbox hb;have B3:=Z_ hbox;have NE3:=Z_ (show S ≠ g3 by rw [hg];exact Nat.ne_of_lt (blk_lt BS.out));replace BS:=Z_ (blk_below BS.out hb);have GE3:=Z_ (show N ≤ g3 by rw [hg];exact Nat.le_trans HN.out HB.out.size);replace HB:=Z_ (below_stepN HB.out (Nat.le_trans HN.out HB.out.size) hb);have OW3:=Z_ (show ∀ k,(.slice A l.length c : Value).ownBlock = some k → k ≠ g3 from fun k hk => by obtain ⟨_,hi⟩:=Kd.R_own HO.out;rw [hg];exact Nat.ne_of_lt (own_lt hi k hk));replace HO:=Z_ (Kd.R_below HO.out hb);clear hb hbox hg))
 have n0_:=Z_ (blk_drew BS.out)
 have n1_:=Z_ (blk_drew B3.out)
 have n2_:=Z_ (HB.out.drew)
 have n3_:=Z_ (Kd.R_drew HO.out)
 clear BS B3 HB HO
 have BS:=n0_;have B3:=n1_;have HB:=n2_;have HO:=n3_
 clear n0_ n1_ n2_ n3_
 refine start_ (n:=7) (S:=fun w' => w'.cell? ⟨S,0,none⟩ = some (.slice A l.length c) ∧ w'.cell? ⟨g3,0,none⟩ = some (.int .i64 t0) ∧ w'.cell? ⟨g3,1,none⟩ = some (.int .i64 t1) ∧ w'.cell? ⟨g3,2,none⟩ = some (.int .i64 t2) ∧ w'.cell? ⟨g3,3,none⟩ = some (.int .i64 t3)) (ds:=[]) (Bt 7 0) (by kernel_rfl) rfl rfl ⟨(blk_cell BS.out 0).trans rfl,(blk_cell B3.out 0).trans rfl,(blk_cell B3.out 1).trans rfl,(blk_cell B3.out 2).trans rfl,(blk_cell B3.out 3).trans rfl⟩ (fun hHeld => ?_)
 generalize w2.drew = w3 at BS B3 HB HO hHeld ⊢
 refine pu_ 0 (some 6) (Bt 7 1) (by kernel_rfl) ?_
 refine pu_ 1 (some 7) (Bt 7 3) (by kernel_rfl) ?_
 refine pu_ 2 (some 8) (Bt 7 7) (by kernel_rfl) ?_
 refine ta_ 3 (some 9) (Bt 7 15) (by kernel_rfl) hHeld ?_
 refine ta_ 4 (some 10) (Bt 7 31) (by kernel_rfl) hHeld ?_
 refine one_ (i:=5) (N:=some 11) (Bt 7 63) rfl rfl (by kernel_rfl) (by decide) (fun K hK => ?_)
 refine goes_ Try.func94 (by kernel_rfl) rfl #[.slice A l.length c,.agg #[.int .i64 t0,.int .i64 t1,.int .i64 t2,.int .i64 t3]] (by rfl) rfl rfl (by (try simp only [List.map_toArray,List.map_cons,List.map_nil]);first | done | rfl) ?_
 with_reducible refine (impl_Term_94.calls k A c l t0 t1 t2 t3 i _ (Kd.R_reads' HO.out).2.2 (Kd.R_reads' HO.out).2.1 HI.out).mono ?_
 rintro e w4 ⟨rfl,hb⟩
 refine ⟨_,rfl,?_⟩
 have n0_:=Z_ (blk_below BS.out hb)
 have n1_:=Z_ (blk_below B3.out hb)
 have n2_:=Z_ (below_stepN HB.out (Nat.le_trans HN.out HB.out.size) hb)
 have n3_:=Z_ (Kd.R_below HO.out hb)
 clear BS B3 HB HO hb
 have BS:=n0_;have B3:=n1_;have HB:=n2_;have HO:=n3_
 clear n0_ n1_ n2_ n3_
 refine hK.out _ _ ⟨(blk_cell BS.out 0).trans rfl,(blk_cell B3.out 0).trans rfl,(blk_cell B3.out 1).trans rfl,(blk_cell B3.out 2).trans rfl,(blk_cell B3.out 3).trans rfl⟩ (fun hHeld => ?_)
 clear hK K
 refine norm_ (a':=?_) ?_ ?_
 rotate_left
 ·show Act.put _ (some 11) _ = _
  simp only [Act.put,lA_,lZ_,lS_,i64_w,i32_w]
  rfl
 refine pu_ 6 (some 5) (Bt 7 127) (by kernel_rfl) ?_
 refine done_ (by kernel_rfl) ?_
 by_cases h0 : 0 ≤ i
 ·have h1 : decide (i ≥ 0) = true:=decide_eq_true h0
  have h2 : decide (0 ≤ i) = true:=decide_eq_true h0
  have HE:=Z_ (show putP l full (⟨t0,t1,t2,t3⟩ : S36) i = (i,l,full) by unfold putP;rw [if_pos h0])
  go_wp2
  go_ret
  rw [HE.out]
  exact ⟨rfl,⟨_,BS.out,HNS.out,HO.out⟩,HB.out⟩
 ·have h1 : decide (i ≥ 0) = false:=decide_eq_false h0
  have h2 : decide (0 ≤ i) = false:=decide_eq_false h0
  have p0_ : w4.cell? ⟨S,0,none⟩ = some (.slice A l.length c):=(blk_cell BS.out 0).trans rfl;have p1_ : w4.cell? ⟨S,1,none⟩ = some (.bool full):=(blk_cell BS.out 1).trans rfl
  have q1_:=blk_frozen BS.out 1
  by_cases h4 : 400 ≤ l.length
  ·have h5 : decide ((l.length : Int) ≥ 400) = true:=decide_eq_true (by omega)
   have h6 : decide ((400 : Int) ≤ (l.length : Int)) = true:=decide_eq_true (by omega)
   have HE:=Z_ (show putP l full (⟨t0,t1,t2,t3⟩ : S36) i = (0,l,true) by unfold putP;rw [if_neg h0,if_pos h4])
   go_wp2
   go_ret
   rw [HE.out]
   exact ⟨rfl,⟨_,blk_put BS.out 1 _ rfl,HNS.out,Kd.R_far HO.out (p:=⟨S,1,none⟩) (fun k hk => hk) _⟩,HB.out.setCell (p:=⟨S,1,none⟩) HNS.out _⟩
  ·have h5 : decide ((l.length : Int) ≥ 400) = false:=decide_eq_false (by omega)
   have h6 : decide ((400 : Int) ≤ (l.length : Int)) = false:=decide_eq_false (by omega)
   cases full with
   | true =>
    have HE:=Z_ (show putP l true (⟨t0,t1,t2,t3⟩ : S36) i = (0,l,true) by unfold putP;rw [if_neg h0,if_neg h4,if_pos rfl])
    go_wp2
    go_ret
    rw [HE.out]
    exact ⟨rfl,⟨_,blk_put BS.out 1 _ rfl,HNS.out,Kd.R_far HO.out (p:=⟨S,1,none⟩) (fun k hk => hk) _⟩,HB.out.setCell (p:=⟨S,1,none⟩) HNS.out _⟩
   | false =>
    have HE:=Z_ (show putP l false (⟨t0,t1,t2,t3⟩ : S36) i = ((l.length : Int),l ++ [(⟨t0,t1,t2,t3⟩ : S36)],false) by unfold putP;rw [if_neg h0,if_neg h4,if_neg (by decide)])
    have HLL:=Z_ (show l.length < 400 by omega)
    go_wp2_with fail
    clear p0_ p1_ q1_
    have n0_:=Z_ (blk_drew BS.out)
    have n1_:=Z_ (blk_drew B3.out)
    have n2_:=Z_ (HB.out.drew)
    have n3_:=Z_ (Kd.R_drew HO.out)
    clear BS B3 HB HO
    have BS:=n0_;have B3:=n1_;have HB:=n2_;have HO:=n3_
    clear n0_ n1_ n2_ n3_
    refine start_ (n:=11) (S:=fun w' => w'.cell? ⟨S,0,none⟩ = some (.slice A l.length c) ∧ w'.cell? ⟨g3,0,none⟩ = some (.int .i64 t0) ∧ w'.cell? ⟨g3,1,none⟩ = some (.int .i64 t1) ∧ w'.cell? ⟨g3,2,none⟩ = some (.int .i64 t2) ∧ w'.cell? ⟨g3,3,none⟩ = some (.int .i64 t3)) (ds:=[10]) (Bt 11 0) (by kernel_rfl) rfl rfl ⟨(blk_cell BS.out 0).trans rfl,(blk_cell B3.out 0).trans rfl,(blk_cell B3.out 1).trans rfl,(blk_cell B3.out 2).trans rfl,(blk_cell B3.out 3).trans rfl⟩ (fun hHeld => ?_)
    generalize w4.drew = w5 at BS B3 HB HO hHeld ⊢
    refine pu_ 0 (some 30) (Bt 11 1) (by kernel_rfl) ?_
    refine pu_ 1 (some 31) (Bt 11 3) (by kernel_rfl) ?_
    refine pu_ 2 (some 32) (Bt 11 7) (by kernel_rfl) ?_
    refine pu_ 3 (some 33) (Bt 11 15) (by kernel_rfl) ?_
    refine ta_ 4 (some 34) (Bt 11 31) (by kernel_rfl) hHeld ?_
    refine ta_ 5 (some 35) (Bt 11 63) (by kernel_rfl) hHeld ?_
    refine one_ (i:=6) (N:=some 36) (Bt 11 127) rfl rfl (by kernel_rfl) (by decide) (fun K hK => ?_)
    refine value_ (w1:=?_) (v:=?_) (by rfl) rfl ?_ ?_
    rotate_left 2
    ·go_simp
     constructor
     ·rfl
     ·rfl
    refine hK.out _ _ ⟨(blk_cell (blk_alloc BS.out _) 0).trans rfl,(blk_cell (blk_alloc B3.out _) 0).trans rfl,(blk_cell (blk_alloc B3.out _) 1).trans rfl,(blk_cell (blk_alloc B3.out _) 2).trans rfl,(blk_cell (blk_alloc B3.out _) 3).trans rfl⟩ (fun hHeld => ?_)
    clear hK K
    refine norm_ (a':=?_) ?_ ?_
    rotate_left
    ·show Act.put _ (some 36) _ = _
     simp only [Act.put,lA_,lZ_,lS_,i64_w,i32_w]
     rfl
    refine one_ (i:=7) (N:=some 37) (Bt 11 255) rfl rfl (by kernel_rfl) (by decide) (fun K hK => ?_)
    refine Kd.R_append_step k36 (w0:=w) N (by rfl) (.tmp 34) (.tmp 36) 24 36 (.agg #[(.int .i64 0),(.int .i64 0),(.int .i64 0),(.int .i64 0)]) 32 rfl Try.underlying24 info36 rfl (by decide) (by omega) (.slice A l.length c) l (⟨t0,t1,t2,t3⟩ : S36) [.int .i64 t0,.int .i64 t1,.int .i64 t2,.int .i64 t3] (fun k => k ≠ S) (fun _ => False) rfl rfl ?aP (fun _ hk => hk.elim) ?aF ?aO ?aB ?aS ?aL ?_
    (case aP => exact k36_mkM _ _ _ (⟨t0,t1,t2,t3⟩ : S36))
    (case aB => exact HB.out)
    (case aF => exact fun k hk => Nat.ne_of_gt (Nat.lt_of_lt_of_le (blk_lt BS.out) hk))
    (case aO => exact HO.out)
    (case aS => exact Nat.le_trans HN.out HB.out.size)
    (case aL => have:=HLL.out;omega)
    intro v7 w6 ho hb hg hat
    have n0_:=Z_ (blk_grown BS.out hg (fun e => (HO.out.1 S e.symm) rfl))
    have n1_:=Z_ (blk_grown B3.out hg (fun e => OW3.out g3 e.symm rfl))
    clear BS B3 HB HO
    have BS:=n0_;have B3:=n1_;have HB:=Z_ hb;have HO:=Z_ ho
    clear n0_ n1_ ho hb hg hat
    obtain ⟨A7,c7,e7⟩:=Kd.R_slice HO.out
    rw [show (l ++ [(⟨t0,t1,t2,t3⟩ : S36)]).length = l.length + 1 by simp] at e7
    subst e7
    refine hK.out _ _ ⟨(blk_cell BS.out 0).trans rfl,(blk_cell B3.out 0).trans rfl,(blk_cell B3.out 1).trans rfl,(blk_cell B3.out 2).trans rfl,(blk_cell B3.out 3).trans rfl⟩ (fun hHeld => ?_)
    clear hK K
    refine norm_ (a':=?_) ?_ ?_
    rotate_left
    ·show Act.put _ (some 37) _ = _
     simp only [Act.put,lA_,lZ_,lS_,i64_w,i32_w]
     rfl
    refine pu_ 8 (some 38) (Bt 11 511) (by kernel_rfl) ?_
    refine pu_ 9 (some 39) (Bt 11 1023) (by kernel_rfl) ?_
    refine last_ (i:=10) (N:=none) (Bt 11 2047) rfl rfl (by kernel_rfl) (by decide) (fun K hK => ?_)
    have hs_ : w6.cell? ⟨S,0,none⟩ = some (.slice A l.length c):=(blk_cell BS.out 0).trans rfl
    have hf_:=blk_frozen BS.out 0
    refine skip_ (w1:=?_) (by rfl) rfl ?_ ?_
    rotate_left
    ·go_simp
     rfl
    refine hK.out _ _ ?_
    clear hK K
    refine done_ (by kernel_rfl) ?_
    have n0_ : Aside0 ((w6.setCell ⟨S,0,none⟩ (.slice A7 (l.length + 1) c7)).heap[S]? = some (.cells #[.slice A7 (l.length + 1) c7,.bool false] 79 (0,0))):=Z_ (blk_put BS.out 0 (.slice A7 (l.length + 1) c7) rfl)
    have n2_:=Z_ (HB.out.setCell (p:=⟨S,0,none⟩) HNS.out (.slice A7 (l.length + 1) c7))
    have n3_:=Z_ (Kd.R_far HO.out (p:=⟨S,0,none⟩) (fun k hk => hk) (.slice A7 (l.length + 1) c7))
    clear BS HB HO B3 hs_ hf_
    have BS:=n0_;have HB:=n2_;have HO:=n3_
    clear n0_ n2_ n3_
    generalize w6.setCell ⟨S,0,none⟩ (.slice A7 (l.length + 1) c7) = w7 at BS HB HO ⊢
    have p0_ : w7.cell? ⟨S,0,none⟩ = some (.slice A7 (l.length + 1) c7):=(blk_cell BS.out 0).trans rfl
    go_wp2
    go_ret
    rw [HE.out]
    exact ⟨by simp,⟨_,BS.out,HNS.out,HO.out⟩,HB.out⟩
def SheetV (W : World) (N S : Nat) (v : Value) (l : List S36) (full : Bool) : Prop:=W.heap[S]? = some (.cells #[v,.bool full] 79 (0,0)) ∧ N ≤ S ∧ k36.R 36 W N (fun k => k ≠ S) v l
def KeepV (w W : World) (S : Nat) (v : Value) : Prop:=∀ b,b < w.heap.size → b ≠ S → v.ownBlock ≠ some b → W.heap[b]? = w.heap[b]?
theorem keepV_below {w W W' : World} {S : Nat} {v : Value} (h : KeepV w W S v) (hs : w.heap.size ≤ W.heap.size) (hb : Below W.heap.size W W') : KeepV w W' S v:=fun b h1 h2 h3 => (hb.block b (Nat.lt_of_lt_of_le h1 hs)).trans (h b h1 h2 h3)
theorem keepV_drew {w W : World} {S : Nat} {v : Value} (h : KeepV w W S v) : KeepV w W.drew S v:=h
theorem keepV_set {w W : World} {S : Nat} {v : Value} (h : KeepV w W S v) (j : Nat) (u : Value) : KeepV w (W.setCell ⟨S,j,none⟩ u) S v:=fun b h1 h2 h3 => (Below.heap_setCell W ⟨S,j,none⟩ u b h2).trans (h b h1 h2 h3)
theorem keepV_grown {w W W' : World} {S : Nat} {v : Value} (h : KeepV w W S v) (hs : w.heap.size ≤ W.heap.size) (hg : W.grownBy W' v.ownBlock) : KeepV w W' S v:=fun b h1 h2 h3 => (hg.block b (Nat.lt_of_lt_of_le h1 hs) (fun e => h3 e.symm)).trans (h b h1 h2 h3)
theorem impl_sheet_put.callsV (k S N : Nat) (v : Value) (l : List S36) (full : Bool) (t0 t1 t2 t3 i : Int) (w : World) (hS : SheetV w N S v l full) (hN : N ≤ w.heap.size) (hi : impl_Term_94.f k l t0 t1 t2 t3 = some i) :
    Calls Try.prog 50 #[.pointer (some ⟨S,0,none⟩),.agg #[.int .i64 t0,.int .i64 t1,.int .i64 t2,.int .i64 t3]] w fun e w' => e = .returned (.int .i64 (putP l full ⟨t0,t1,t2,t3⟩ i).1) ∧ (∃ v',SheetV w' N S v' (putP l full ⟨t0,t1,t2,t3⟩ i).2.1 (putP l full ⟨t0,t1,t2,t3⟩ i).2.2 ∧ ∀ k,v'.ownBlock = some k → v.ownBlock = some k ∨ w.heap.size ≤ k) ∧ KeepV w w' S v ∧ Below N w w':=by
  obtain ⟨hb,hns,hr⟩:=hS
  obtain ⟨A,c,rfl⟩:=Kd.R_slice hr
  have BS:=Z_ hb
  have HNS:=Z_ hns
  have HO:=Z_ hr
  have HN:=Z_ hN
  have HI:=Z_ hi
  have HB:=Z_ (Below.refl N w)
  have HV : Aside0 (KeepV w w S (.slice A l.length c)):=Z_ (fun _ _ _ _ => rfl)
  clear hb hns hr hN hi
  go_enter Try.func50,Try.ntmps50
  go_wp2_with (first | ((with_reducible refine gD_ 3 rfl ?_);refine bx_ #[.int .i64 t0,.int .i64 t1,.int .i64 t2,.int .i64 t3] 36 ?_;intro g3 hg w2 hbox hb;have n0_:=Z_ (below_stepN HB.out (Nat.le_trans HN.out HB.out.size) hb);have n1_:=Z_ hbox;have n2_:=Z_ (blk_below BS.out hb);have n3_:=Z_ (Kd.R_below HO.out hb);have n4_:=Z_ (show S ≠ g3 by rw [hg];exact Nat.ne_of_lt (blk_lt BS.out));have n5_:=Z_ (show N ≤ g3 by rw [hg];exact Nat.le_trans HN.out HB.out.size);have n6_:=Z_ (show ∀ k,(.slice A l.length c : Value).ownBlock = some k → k ≠ g3 from fun k hk => by obtain ⟨_,hi⟩:=Kd.R_own HO.out;rw [hg];exact Nat.ne_of_lt (own_lt hi k hk));have v0_:=Z_ (keepV_below HV.out HB.out.size hb);clear HB BS HO HV;have HV:=v0_;clear v0_;have HB:=n0_;have B3:=n1_;have BS:=n2_;have HO:=n3_;have NE3:=n4_;have GE3:=n5_;have OW3:=n6_;clear n0_ n1_ n2_ n3_ n4_ n5_ n6_ hb hbox hg))
  have n0_:=Z_ (blk_drew BS.out)
  have n1_:=Z_ (blk_drew B3.out)
  have n2_:=Z_ (HB.out.drew)
  have n3_:=Z_ (Kd.R_drew HO.out)
  clear BS B3 HB HO
  have v0_:=Z_ (keepV_drew HV.out)
  clear HV
  have HV:=v0_
  clear v0_
  have BS:=n0_;have B3:=n1_;have HB:=n2_;have HO:=n3_
  clear n0_ n1_ n2_ n3_
  refine start_ (n:=7) (S:=fun w' => w'.cell? ⟨S,0,none⟩ = some (.slice A l.length c) ∧ w'.cell? ⟨g3,0,none⟩ = some (.int .i64 t0) ∧ w'.cell? ⟨g3,1,none⟩ = some (.int .i64 t1) ∧ w'.cell? ⟨g3,2,none⟩ = some (.int .i64 t2) ∧ w'.cell? ⟨g3,3,none⟩ = some (.int .i64 t3)) (ds:=[]) (Bt 7 0) (by kernel_rfl) rfl rfl ⟨(blk_cell BS.out 0).trans rfl,(blk_cell B3.out 0).trans rfl,(blk_cell B3.out 1).trans rfl,(blk_cell B3.out 2).trans rfl,(blk_cell B3.out 3).trans rfl⟩ (fun hHeld => ?_)
  generalize w2.drew = w3 at BS B3 HB HO HV hHeld ⊢
  refine pu_ 0 (some 6) (Bt 7 1) (by kernel_rfl) ?_
  refine pu_ 1 (some 7) (Bt 7 3) (by kernel_rfl) ?_
  refine pu_ 2 (some 8) (Bt 7 7) (by kernel_rfl) ?_
  refine ta_ 3 (some 9) (Bt 7 15) (by kernel_rfl) hHeld ?_
  refine ta_ 4 (some 10) (Bt 7 31) (by kernel_rfl) hHeld ?_
  refine one_ (i:=5) (N:=some 11) (Bt 7 63) rfl rfl (by kernel_rfl) (by decide) (fun K hK => ?_)
  refine goes_ Try.func94 (by kernel_rfl) rfl #[.slice A l.length c,.agg #[.int .i64 t0,.int .i64 t1,.int .i64 t2,.int .i64 t3]] (by rfl) rfl rfl (by (try simp only [List.map_toArray,List.map_cons,List.map_nil]);first | done | rfl) ?_
  with_reducible refine (impl_Term_94.calls k A c l t0 t1 t2 t3 i _ (Kd.R_reads' HO.out).2.2 (Kd.R_reads' HO.out).2.1 HI.out).mono ?_
  rintro e w4 ⟨rfl,hb⟩
  refine ⟨_,rfl,?_⟩
  have n0_:=Z_ (blk_below BS.out hb)
  have n1_:=Z_ (blk_below B3.out hb)
  have n2_:=Z_ (below_stepN HB.out (Nat.le_trans HN.out HB.out.size) hb)
  have n3_:=Z_ (Kd.R_below HO.out hb)
  have v0_:=Z_ (keepV_below HV.out HB.out.size hb)
  clear BS B3 HB HO HV hb
  have HV:=v0_
  clear v0_
  have BS:=n0_;have B3:=n1_;have HB:=n2_;have HO:=n3_
  clear n0_ n1_ n2_ n3_
  refine hK.out _ _ ⟨(blk_cell BS.out 0).trans rfl,(blk_cell B3.out 0).trans rfl,(blk_cell B3.out 1).trans rfl,(blk_cell B3.out 2).trans rfl,(blk_cell B3.out 3).trans rfl⟩ (fun hHeld => ?_)
  clear hK K
  refine norm_ (a':=?_) ?_ ?_
  rotate_left
  · show Act.put _ (some 11) _ = _
    simp only [Act.put,lA_,lZ_,lS_,i64_w,i32_w]
    rfl
  refine pu_ 6 (some 5) (Bt 7 127) (by kernel_rfl) ?_
  refine done_ (by kernel_rfl) ?_
  by_cases h0 : 0 ≤ i
  · have h1 : decide (i ≥ 0) = true:=decide_eq_true h0
    have h2 : decide (0 ≤ i) = true:=decide_eq_true h0
    have HE:=Z_ (show putP l full (⟨t0,t1,t2,t3⟩ : S36) i = (i,l,full) by unfold putP;rw [if_pos h0])
    go_wp2
    go_ret
    rw [HE.out]
    exact ⟨rfl,⟨_,⟨BS.out,HNS.out,HO.out⟩,fun k hk => .inl hk⟩,HV.out,HB.out⟩
  · have h1 : decide (i ≥ 0) = false:=decide_eq_false h0
    have h2 : decide (0 ≤ i) = false:=decide_eq_false h0
    have p0_ : w4.cell? ⟨S,0,none⟩ = some (.slice A l.length c):=(blk_cell BS.out 0).trans rfl;have p1_ : w4.cell? ⟨S,1,none⟩ = some (.bool full):=(blk_cell BS.out 1).trans rfl
    have q1_:=blk_frozen BS.out 1
    by_cases h4 : 400 ≤ l.length
    · have h5 : decide ((l.length : Int) ≥ 400) = true:=decide_eq_true (by omega)
      have h6 : decide ((400 : Int) ≤ (l.length : Int)) = true:=decide_eq_true (by omega)
      have HE:=Z_ (show putP l full (⟨t0,t1,t2,t3⟩ : S36) i = (0,l,true) by unfold putP;rw [if_neg h0,if_pos h4])
      go_wp2
      go_ret
      rw [HE.out]
      exact ⟨rfl,⟨_,⟨blk_put BS.out 1 _ rfl,HNS.out,Kd.R_far HO.out (p:=⟨S,1,none⟩) (fun k hk => hk) _⟩,fun k hk => .inl hk⟩,keepV_set HV.out 1 _,HB.out.setCell (p:=⟨S,1,none⟩) HNS.out _⟩
    · have h5 : decide ((l.length : Int) ≥ 400) = false:=decide_eq_false (by omega)
      have h6 : decide ((400 : Int) ≤ (l.length : Int)) = false:=decide_eq_false (by omega)
      cases full with
      | true =>
        have HE:=Z_ (show putP l true (⟨t0,t1,t2,t3⟩ : S36) i = (0,l,true) by unfold putP;rw [if_neg h0,if_neg h4,if_pos rfl])
        go_wp2
        go_ret
        rw [HE.out]
        exact ⟨rfl,⟨_,⟨blk_put BS.out 1 _ rfl,HNS.out,Kd.R_far HO.out (p:=⟨S,1,none⟩) (fun k hk => hk) _⟩,fun k hk => .inl hk⟩,keepV_set HV.out 1 _,HB.out.setCell (p:=⟨S,1,none⟩) HNS.out _⟩
      | false =>
        have HE:=Z_ (show putP l false (⟨t0,t1,t2,t3⟩ : S36) i = ((l.length : Int),l ++ [(⟨t0,t1,t2,t3⟩ : S36)],false) by unfold putP;rw [if_neg h0,if_neg h4,if_neg (by decide)])
        have HLL:=Z_ (show l.length < 400 by omega)
        go_wp2_with fail
        clear p0_ p1_ q1_
        have n0_:=Z_ (blk_drew BS.out)
        have n1_:=Z_ (blk_drew B3.out)
        have n2_:=Z_ (HB.out.drew)
        have n3_:=Z_ (Kd.R_drew HO.out)
        clear BS B3 HB HO
        have v0_:=Z_ (keepV_drew HV.out)
        clear HV
        have HV:=v0_
        clear v0_
        have BS:=n0_;have B3:=n1_;have HB:=n2_;have HO:=n3_
        clear n0_ n1_ n2_ n3_
        refine start_ (n:=11) (S:=fun w' => w'.cell? ⟨S,0,none⟩ = some (.slice A l.length c) ∧ w'.cell? ⟨g3,0,none⟩ = some (.int .i64 t0) ∧ w'.cell? ⟨g3,1,none⟩ = some (.int .i64 t1) ∧ w'.cell? ⟨g3,2,none⟩ = some (.int .i64 t2) ∧ w'.cell? ⟨g3,3,none⟩ = some (.int .i64 t3)) (ds:=[10]) (Bt 11 0) (by kernel_rfl) rfl rfl ⟨(blk_cell BS.out 0).trans rfl,(blk_cell B3.out 0).trans rfl,(blk_cell B3.out 1).trans rfl,(blk_cell B3.out 2).trans rfl,(blk_cell B3.out 3).trans rfl⟩ (fun hHeld => ?_)
        generalize w4.drew = w5 at BS B3 HB HO HV hHeld ⊢
        refine pu_ 0 (some 30) (Bt 11 1) (by kernel_rfl) ?_
        refine pu_ 1 (some 31) (Bt 11 3) (by kernel_rfl) ?_
        refine pu_ 2 (some 32) (Bt 11 7) (by kernel_rfl) ?_
        refine pu_ 3 (some 33) (Bt 11 15) (by kernel_rfl) ?_
        refine ta_ 4 (some 34) (Bt 11 31) (by kernel_rfl) hHeld ?_
        refine ta_ 5 (some 35) (Bt 11 63) (by kernel_rfl) hHeld ?_
        refine one_ (i:=6) (N:=some 36) (Bt 11 127) rfl rfl (by kernel_rfl) (by decide) (fun K hK => ?_)
        refine value_ (w1:=?_) (v:=?_) (by rfl) rfl ?_ ?_
        rotate_left 2
        · go_simp
          constructor
          · rfl
          · rfl
        refine hK.out _ _ ⟨(blk_cell (blk_alloc BS.out _) 0).trans rfl,(blk_cell (blk_alloc B3.out _) 0).trans rfl,(blk_cell (blk_alloc B3.out _) 1).trans rfl,(blk_cell (blk_alloc B3.out _) 2).trans rfl,(blk_cell (blk_alloc B3.out _) 3).trans rfl⟩ (fun hHeld => ?_)
        clear hK K
        refine norm_ (a':=?_) ?_ ?_
        rotate_left
        · show Act.put _ (some 36) _ = _
          simp only [Act.put,lA_,lZ_,lS_,i64_w,i32_w]
          rfl
        refine one_ (i:=7) (N:=some 37) (Bt 11 255) rfl rfl (by kernel_rfl) (by decide) (fun K hK => ?_)
        refine Kd.R_append_step k36 (w0:=w) N (by rfl) (.tmp 34) (.tmp 36) 24 36 (.agg #[(.int .i64 0),(.int .i64 0),(.int .i64 0),(.int .i64 0)]) 32 rfl Try.underlying24 info36 rfl (by decide) (by omega) (.slice A l.length c) l (⟨t0,t1,t2,t3⟩ : S36) [.int .i64 t0,.int .i64 t1,.int .i64 t2,.int .i64 t3] (fun k => k ≠ S) (fun _ => False) rfl rfl ?aP (fun _ hk => hk.elim) ?aF ?aO ?aB ?aS ?aL ?_
        (case aP => exact k36_mkM _ _ _ (⟨t0,t1,t2,t3⟩ : S36))
        (case aB => exact HB.out)
        (case aF => exact fun k hk => Nat.ne_of_gt (Nat.lt_of_lt_of_le (blk_lt BS.out) hk))
        (case aO => exact HO.out)
        (case aS => exact Nat.le_trans HN.out HB.out.size)
        (case aL => have:=HLL.out;omega)
        intro v7 w6 ho hb hg hat
        have n0_:=Z_ (blk_grown BS.out hg (fun e => (HO.out.1 S e.symm) rfl))
        have n1_:=Z_ (blk_grown B3.out hg (fun e => OW3.out g3 e.symm rfl))
        have v0_:=Z_ (keepV_grown HV.out HB.out.size hg)
        have HAT : Aside0 (∀ k,v7.ownBlock = some k → (.slice A l.length c : Value).ownBlock = some k ∨ w.heap.size ≤ k):=Z_ (fun k hk => by
          rcases hat with e | ⟨b,e,hle⟩
          · exact .inl (e ▸ hk)
          · rw [e] at hk;injection hk with hk;rw [← hk];exact .inr (Nat.le_trans HB.out.size hle))
        clear BS B3 HB HO HV
        have HV:=v0_
        clear v0_
        have BS:=n0_;have B3:=n1_;have HB:=Z_ hb;have HO:=Z_ ho
        clear n0_ n1_ ho hb hg hat
        obtain ⟨A7,c7,e7⟩:=Kd.R_slice HO.out
        rw [show (l ++ [(⟨t0,t1,t2,t3⟩ : S36)]).length = l.length + 1 by simp] at e7
        subst e7
        refine hK.out _ _ ⟨(blk_cell BS.out 0).trans rfl,(blk_cell B3.out 0).trans rfl,(blk_cell B3.out 1).trans rfl,(blk_cell B3.out 2).trans rfl,(blk_cell B3.out 3).trans rfl⟩ (fun hHeld => ?_)
        clear hK K
        refine norm_ (a':=?_) ?_ ?_
        rotate_left
        · show Act.put _ (some 37) _ = _
          simp only [Act.put,lA_,lZ_,lS_,i64_w,i32_w]
          rfl
        refine pu_ 8 (some 38) (Bt 11 511) (by kernel_rfl) ?_
        refine pu_ 9 (some 39) (Bt 11 1023) (by kernel_rfl) ?_
        refine last_ (i:=10) (N:=none) (Bt 11 2047) rfl rfl (by kernel_rfl) (by decide) (fun K hK => ?_)
        have hs_ : w6.cell? ⟨S,0,none⟩ = some (.slice A l.length c):=(blk_cell BS.out 0).trans rfl
        have hf_:=blk_frozen BS.out 0
        refine skip_ (w1:=?_) (by rfl) rfl ?_ ?_
        rotate_left
        · go_simp
          rfl
        refine hK.out _ _ ?_
        clear hK K
        refine done_ (by kernel_rfl) ?_
        have n0_ : Aside0 ((w6.setCell ⟨S,0,none⟩ (.slice A7 (l.length + 1) c7)).heap[S]? = some (.cells #[.slice A7 (l.length + 1) c7,.bool false] 79 (0,0))):=Z_ (blk_put BS.out 0 (.slice A7 (l.length + 1) c7) rfl)
        have n2_:=Z_ (HB.out.setCell (p:=⟨S,0,none⟩) HNS.out (.slice A7 (l.length + 1) c7))
        have n3_:=Z_ (Kd.R_far HO.out (p:=⟨S,0,none⟩) (fun k hk => hk) (.slice A7 (l.length + 1) c7))
        have v0_:=Z_ (keepV_set HV.out 0 (.slice A7 (l.length + 1) c7))
        clear BS HB HO HV B3 hs_ hf_
        have HV:=v0_
        clear v0_
        have BS:=n0_;have HB:=n2_;have HO:=n3_
        clear n0_ n2_ n3_
        generalize w6.setCell ⟨S,0,none⟩ (.slice A7 (l.length + 1) c7) = w7 at BS HB HO HV ⊢
        have p0_ : w7.cell? ⟨S,0,none⟩ = some (.slice A7 (l.length + 1) c7):=(blk_cell BS.out 0).trans rfl
        go_wp2
        go_ret
        rw [HE.out]
        exact ⟨by simp,⟨_,⟨BS.out,HNS.out,HO.out⟩,HAT.out⟩,HV.out,HB.out⟩
def tix (l : List S36) (x : S36) (i : Nat) : Int :=
  match (l.drop i).findIdx? fun y => eq4 x y with
  | some j => ((i + j : Nat) : Int)
  | none => -1
theorem tix_l0 (l : List S36) (hl : l.length ≤ 400) (x : S36) (d : Nat) : ∀ (k i : Nat),i + d = l.length → d < k → impl_Term_94.l0 k l (l.length : Int) i x.f0 x.f1 x.f2 x.f3 = some (tix l x i):=by
  induction d with
  | zero =>
    intro k i hi hk
    obtain ⟨k,rfl⟩ : ∃ m,k = m + 1:=⟨k - 1,by omega⟩
    simp only [impl_Term_94.l0];rw [if_neg (by omega)];unfold tix;rw [List.drop_of_length_le (by omega)];rfl
  | succ d ih =>
    intro k i hi hk
    obtain ⟨k,rfl⟩ : ∃ m,k = m + 1:=⟨k - 1,by omega⟩
    simp only [impl_Term_94.l0]
    have hw : wrap64 ((i : Int) + 1) = (i : Int) + 1:=by unfold wrap64;omega
    rw [if_pos (by omega),if_pos (by omega),if_pos (by omega),hw]
    have e:=ih k (i + 1) (by omega) (by omega)
    have e' : impl_Term_94.l0 k l (l.length : Int) ((i : Int) + 1) x.f0 x.f1 x.f2 x.f3 = some (tix l x (i + 1)):=by simpa using e
    rw [e']
    have hd : l.drop i = rd_T36 l (i : Int) :: l.drop (i + 1):=by
      rw [List.drop_eq_getElem_cons (by omega)]
      simp [rd_T36,List.getD,List.getElem?_eq_getElem (show i < l.length by omega)]
    have sw : (x.f0 == (rd_T36 l i).f0 && (x.f1 == (rd_T36 l i).f1 && (x.f2 == (rd_T36 l i).f2 && (x.f3 == (rd_T36 l i).f3)))) = eq4 x (rd_T36 l i):=rfl
    rw [sw]
    unfold tix
    rw [hd,List.findIdx?_cons]
    cases h : eq4 x (rd_T36 l i)
    · simp only [Bool.false_eq_true,if_false]
      cases (l.drop (i + 1)).findIdx? fun y => eq4 x y with
      | none => rfl
      | some j => simp;omega
    · simp
theorem tix_f (l : List S36) (hl : l.length ≤ 400) (x : S36) : impl_Term_94.f 402 l x.f0 x.f1 x.f2 x.f3 = some (tix l x 0):=by
  have h:=tix_l0 l hl x l.length 402 0 (by omega) (by omega)
  have h' : impl_Term_94.l0 402 l (l.length : Int) 0 x.f0 x.f1 x.f2 x.f3 = some (tix l x 0):=by simpa using h
  exact h'
def putT (l : List S36) (full : Bool) (t : S36) : Int × List S36 × Bool:=putP l full t (tix l t 0)
theorem putT_len {l : List S36} {full : Bool} {t : S36} (hl : l.length ≤ 400) : (putT l full t).2.1.length ≤ 400:=by
  unfold putT putP
  split
  · exact hl
  · split
    · exact hl
    · split
      · exact hl
      · simp;omega
def StV (T : Nat) (W : World) (N S : Nat) (v x : Value) (l : List S36) : Prop:=W.heap[S]? = some (.cells #[v,x] T (0,0)) ∧ N ≤ S ∧ k36.R 36 W N (fun k => k ≠ S) v l
def KeepT (T N : Nat) (w W : World) : Prop:=Kept w W (fun k => N ≤ k ∧ ∃ cs q,w.heap[k]? = some (.cells cs q (0,0)) ∧ (q = T ∨ q = 36))
theorem KeepT.refl (T N : Nat) (w : World) : KeepT T N w w:=Kept.refl w _
theorem KeepT.trans {T N : Nat} {a b c : World} (h : KeepT T N a b) (k : KeepT T N b c) : KeepT T N a c :=
  ⟨Nat.le_trans h.1 k.1,fun i hi hn => (k.2 i (Nat.lt_of_lt_of_le hi h.1) (fun ⟨h1,cs,q,e,hq⟩ => hn ⟨h1,cs,q,(h.2 i hi hn).symm.trans e,hq⟩)).trans (h.2 i hi hn)⟩
theorem KeepT.below {T N : Nat} {w W W' : World} (h : KeepT T N w W) (hb : Below W.heap.size W W') : KeepT T N w W':=Kept.below h hb
theorem KeepT.alloc {T N : Nat} {w W : World} (h : KeepT T N w W) (o : Obj) : KeepT T N w (W.alloc o):=h.below (below_alloc (Below.refl _ _) o)
theorem KeepT.set {T N : Nat} {w W : World} (h : KeepT T N w W) {p : Addr} (hp : w.heap.size ≤ p.block) (u : Value) : KeepT T N w (W.setCell p u) :=
  ⟨Nat.le_trans h.1 (by simp),fun i hi hn => (Below.heap_setCell W p u i (by omega)).trans (h.2 i hi hn)⟩
theorem blk_keepT {T N : Nat} {w W : World} {b q : Nat} {cs : Array Value} (hb : w.heap[b]? = some (.cells cs q (0,0))) (h : KeepT T N w W) (h1 : q ≠ T) (h2 : q ≠ 36) : W.heap[b]? = some (.cells cs q (0,0)) :=
  blk_kept hb h (fun ⟨_,cs',q',e,hq⟩ => by
    rw [hb] at e
    injection e with e
    injection e with _ e
    subst e
    exact hq.elim h1 h2)
theorem R_keepT {T N : Nat} {w W : World} {α : Type} {d : Kd α} {e base : Nat} {ok : Nat → Prop} {v : Value} {xs : List α} (h : d.R e w base ok v xs) (hk : KeepT T N w W) (ht : ∀ q,q ∈ e :: d.E → q ≠ T ∧ q ≠ 36) : d.R e W base ok v xs :=
  Kd.R_mono (Kd.R_kept (Kd.R_bound h) hk (fun k hk' ⟨_,cs',q',e',hq⟩ => by
    obtain ⟨_,_,_,q,hq2,cells,hc⟩:=hk'
    rw [hc] at e'
    injection e' with e'
    injection e' with _ e'
    subst e'
    exact hq.elim (ht q hq2).1 (ht q hq2).2)) (fun _ hk => hk.1)
def FarT (T N : Nat) (w : World) (A : Option Addr) (n : Nat) : Prop:=0 < n → ∀ ad,A = some ad → ad.block < N ∨ ∃ cs q,w.heap[ad.block]? = some (.cells cs q (0,0)) ∧ q ≠ T ∧ q ≠ 36
theorem C_keepT {T N : Nat} {w W : World} {A : Option Addr} {xs : List Int} (h : Kd.C (Kd.int .i64) w A xs.length xs) (hk : KeepT T N w W) (hf : FarT T N w A xs.length) : Kd.C (Kd.int .i64) W A xs.length xs :=
  ⟨h.1,h.2.1,fun hn => by
    obtain ⟨ad,e,hc⟩:=h.2.2 hn
    refine ⟨ad,e,fun j p hj => ?_⟩
    obtain ⟨c,hs,hr,hcell⟩:=hc j p hj
    refine ⟨c,hs,hr,fun i u hu => (World.cell?_of_block (w:=w) (hk.2 _ (World.block_lt_of_cell? w _ (hcell i u hu)) (fun ⟨h1,cs,q,h2,h3⟩ => ?_))).trans (hcell i u hu)⟩
    rw [add_block_] at h1 h2
    rcases hf hn ad e with hlt | ⟨cs',q',h4,h5,h6⟩
    · omega
    · rw [h4] at h2
      injection h2 with h2
      injection h2 with _ h2
      subst h2
      exact h3.elim h5 h6⟩
def SE (T N S : Nat) (w0 w : World) (l : List S36) (x : Value) : Prop:=(∃ v,StV T w N S v x l) ∧ KeepT T N w0 w ∧ Below N w0 w
theorem StV.size {T N S : Nat} {w : World} {v x : Value} {l : List S36} (h : StV T w N S v x l) : N ≤ w.heap.size:=Nat.le_trans h.2.1 (Nat.le_of_lt (blk_lt h.1))
theorem SE.start {T N S : Nat} {w : World} {v x : Value} {l : List S36} (h : StV T w N S v x l) : SE T N S w w l x:=⟨⟨v,h⟩,KeepT.refl _ _ _,Below.refl _ _⟩
theorem SE.below {T N S : Nat} {w0 w w' : World} {x : Value} {l : List S36} (h : SE T N S w0 w l x) (hb : Below w.heap.size w w') : SE T N S w0 w' l x:=by
  obtain ⟨⟨v,hv⟩,hk,hB⟩:=h
  exact ⟨⟨v,blk_below hv.1 hb,hv.2.1,Kd.R_below hv.2.2 hb⟩,hk.below hb,hB.trans (hb.mono hv.size)⟩
theorem SE.alloc {T N S : Nat} {w0 w : World} {x : Value} {l : List S36} (h : SE T N S w0 w l x) (o : Obj) : SE T N S w0 (w.alloc o) l x:=h.below (below_alloc (Below.refl _ _) o)
theorem SE.size {T N S : Nat} {w0 w : World} {x : Value} {l : List S36} (h : SE T N S w0 w l x) : N ≤ w.heap.size:=by
  obtain ⟨⟨v,hv⟩,_⟩:=h
  exact hv.size
theorem SE.grown {T N S : Nat} {w0 w w1 : World} {x : Value} {l : List S36} {row : Option Nat} (h : SE T N S w0 w l x) (hg : w.grownBy w1 row) (h0 : N ≤ w0.heap.size) (hr : ∀ b,row = some b → w0.heap.size ≤ b ∧ ∃ cs q,w.heap[b]? = some (.cells cs q (0,0)) ∧ q ≠ T ∧ q ≠ 36) : SE T N S w0 w1 l x:=by
  have hs:=h.size
  obtain ⟨⟨v,hv⟩,hk,hB⟩:=h
  refine ⟨⟨v,blk_grown hv.1 hg (fun e => ?_),hv.2.1,Kd.R_mono (Kd.R_grown (Kd.R_bound hv.2.2) hg (fun k hk e => ?_)) (fun _ hk => hk.1)⟩,⟨Nat.le_trans hk.1 hg.size,fun i hi hn => (hg.block i (Nat.lt_of_lt_of_le hi hk.1) (fun e => by have:=(hr i e.symm).1;omega)).trans (hk.2 i hi hn)⟩,hB.grown hg hs (fun k e => Nat.le_trans h0 (hr k e).1)⟩
  · obtain ⟨_,cs,q,h4,h5,h6⟩:=hr S e.symm
    rw [hv.1] at h4
    injection h4 with h4
    injection h4 with _ h4
    exact h5 h4.symm
  · obtain ⟨_,_,_,q2,hq2,cells,hc⟩:=hk
    obtain ⟨_,cs,q,h4,h5,h6⟩:=hr k e.symm
    rw [hc] at h4
    injection h4 with h4
    injection h4 with _ h4
    subst h4
    have hE : k36.E = []:=rfl
    rw [hE] at hq2
    exact h6 (by simpa using hq2)
theorem SE.from {T N S : Nat} {w0 w w' : World} {x x' : Value} {l l' : List S36} (h : SE T N S w0 w l x) (k : SE T N S w w' l' x') : SE T N S w0 w' l' x':=⟨k.1,h.2.1.trans k.2.1,h.2.2.trans k.2.2⟩
theorem SE.call {T N S : Nat} {w0 w : World} {x x' : Value} {l l' : List S36} {P : Program} {f : FuncId} {args : Array Value} {r : Ending} (h : SE T N S w0 w l x) (hc : ∀ v,StV T w N S v x l → Calls P f args w fun e w' => e = r ∧ SE T N S w w' l' x') :
    Calls P f args w fun e w' => e = r ∧ SE T N S w0 w' l' x' ∧ KeepT T N w w':=by
  obtain ⟨⟨v,hv⟩,hr⟩:=id h
  exact (hc v hv).mono (fun e w' ⟨h1,h2⟩ => ⟨h1,h.from h2,h2.2.1⟩)
theorem se_of_V {N S : Nat} {w w' : World} {v : Value} {l l' : List S36} {x : Value} {full' : Bool} (hv : StV 79 w N S v x l) (h : (∃ v',SheetV w' N S v' l' full' ∧ ∀ k,v'.ownBlock = some k → v.ownBlock = some k ∨ w.heap.size ≤ k) ∧ KeepV w w' S v ∧ Below N w w') : SE 79 N S w w' l' (.bool full'):=by
  obtain ⟨⟨v',h1,_⟩,h2,h3⟩:=h
  refine ⟨⟨v',h1⟩,⟨h3.size,fun i hi hn => h2 i hi (fun e => ?_) (fun e => ?_)⟩,h3⟩
  · exact hn ⟨by rw [e];exact hv.2.1,_,_,by rw [e];exact hv.1,.inl rfl⟩
  · obtain ⟨_,ho⟩:=Kd.R_own hv.2.2
    obtain ⟨cells,hc⟩:=own_typed ho i e
    exact hn ⟨own_base ho i e,cells,_,hc,.inr rfl⟩
end Go.Proofs.Ytpabeajjbifjdaa.G
namespace Go.Proofs.Ytpabeajjbifjdaa.G
open Go.RowKit Go.Proofs.YtpabeajjbifjdaaW.PrintWords Go.Proofs.YtpabeajjbifjdaaW.PrintLast Go.Proofs.YtpabeajjbifjdaaW.PrintMore
attribute [local go_sem] max2_int min2_int max_two min_two max_three min_three max_four min_four   -- for this text's walks alone
set_option linter.unusedVariables false
set_option linter.unusedSimpArgs false
set_option maxHeartbeats 4000000 in
set_option maxRecDepth 100000 in
theorem impl_sheet_name.callsV (S N : Nat) (v : Value) (l : List S36) (full : Bool) (n : Int) (w : World) (hS : SheetV w N S v l full) (hN : N ≤ w.heap.size) (hl : l.length ≤ 400) :
    Calls Try.prog 111 #[.pointer (some ⟨S,0,none⟩),.int .i64 n] w fun e w' => e = .returned (.int .i64 (putT l full ⟨1,0,0,n⟩).1) ∧ (∃ v',SheetV w' N S v' (putT l full ⟨1,0,0,n⟩).2.1 (putT l full ⟨1,0,0,n⟩).2.2 ∧ ∀ k,v'.ownBlock = some k → v.ownBlock = some k ∨ w.heap.size ≤ k) ∧ KeepV w w' S v ∧ Below N w w':=by
  have HC:=Z_ (impl_sheet_put.callsV 402 S N v l full 1 0 0 n _ w hS hN (tix_f l hl ⟨1,0,0,n⟩))
  unfold putT
  clear hS hN
  generalize putP l full ⟨1,0,0,n⟩ (tix l ⟨1,0,0,n⟩ 0) = r at HC ⊢
  go_enter Try.func111,Try.ntmps111
  go_wp2_with (go_at_call 50;refine HC.out.mono ?_;rintro e w' ⟨rfl,hs,hk,hb⟩)
  go_ret
  exact ⟨rfl,hs,hk,hb⟩
theorem impl_sheet_name.callsE {N S : Nat} {w0 w : World} {l : List S36} {full : Bool} (n : Int) (r : Int × List S36 × Bool) (h : SE 79 N S w0 w l (.bool full)) (hl : l.length ≤ 400) (hr : putT l full ⟨1,0,0,n⟩ = r) :
    Calls Try.prog 111 #[.pointer (some ⟨S,0,none⟩),.int .i64 n] w fun e w' => e = .returned (.int .i64 r.1) ∧ SE 79 N S w0 w' r.2.1 (.bool r.2.2) ∧ KeepT 79 N w w':=by
  subst hr
  exact SE.call h (fun v hv => (impl_sheet_name.callsV S N v l full n w hv hv.size hl).mono (fun e w' ⟨h1,h2⟩ => ⟨h1,se_of_V hv h2⟩))
set_option maxHeartbeats 4000000 in
set_option maxRecDepth 100000 in
theorem impl_sheet_pair.callsV (S N : Nat) (v : Value) (l : List S36) (full : Bool) (a b : Int) (w : World) (hS : SheetV w N S v l full) (hN : N ≤ w.heap.size) (hl : l.length ≤ 400) :
    Calls Try.prog 79 #[.pointer (some ⟨S,0,none⟩),.int .i64 a,.int .i64 b] w fun e w' => e = .returned (.int .i64 (putT l full ⟨3,a,b,0⟩).1) ∧ (∃ v',SheetV w' N S v' (putT l full ⟨3,a,b,0⟩).2.1 (putT l full ⟨3,a,b,0⟩).2.2 ∧ ∀ k,v'.ownBlock = some k → v.ownBlock = some k ∨ w.heap.size ≤ k) ∧ KeepV w w' S v ∧ Below N w w':=by
  have HC:=Z_ (impl_sheet_put.callsV 402 S N v l full 3 a b 0 _ w hS hN (tix_f l hl ⟨3,a,b,0⟩))
  unfold putT
  clear hS hN
  generalize putP l full ⟨3,a,b,0⟩ (tix l ⟨3,a,b,0⟩ 0) = r at HC ⊢
  go_enter Try.func79,Try.ntmps79
  go_wp2_with (go_at_call 50;refine HC.out.mono ?_;rintro e w' ⟨rfl,hs,hk,hb⟩)
  go_ret
  exact ⟨rfl,hs,hk,hb⟩
theorem impl_sheet_pair.callsE {N S : Nat} {w0 w : World} {l : List S36} {full : Bool} (a b : Int) (r : Int × List S36 × Bool) (h : SE 79 N S w0 w l (.bool full)) (hl : l.length ≤ 400) (hr : putT l full ⟨3,a,b,0⟩ = r) :
    Calls Try.prog 79 #[.pointer (some ⟨S,0,none⟩),.int .i64 a,.int .i64 b] w fun e w' => e = .returned (.int .i64 r.1) ∧ SE 79 N S w0 w' r.2.1 (.bool r.2.2) ∧ KeepT 79 N w w':=by
  subst hr
  exact SE.call h (fun v hv => (impl_sheet_pair.callsV S N v l full a b w hv hv.size hl).mono (fun e w' ⟨h1,h2⟩ => ⟨h1,se_of_V hv h2⟩))
end Go.Proofs.Ytpabeajjbifjdaa.G
namespace Go.Proofs.Ytpabeajjbifjdaa.G
open Go.RowKit Go.Proofs.YtpabeajjbifjdaaW.PrintWords Go.Proofs.YtpabeajjbifjdaaW.PrintLast Go.Proofs.YtpabeajjbifjdaaW.PrintMore
attribute [local go_sem] max2_int min2_int max_two min_two max_three min_three max_four min_four   -- for this text's walks alone
set_option linter.unusedVariables false
set_option linter.unusedSimpArgs false
section
open Go.Shelf
attribute [local go_sem] Oper.semAt_some
def backTo (zs : List Int) (k : Nat) : List (Int × Int):=(List.range k).map fun j => (((zs.length - 1 - j : Nat) : Int),zs[zs.length - 1 - j]?.getD 0)
theorem backTo_succ (zs : List Int) (k : Nat) : backTo zs (k + 1) = backTo zs k ++ [(((zs.length - 1 - k : Nat) : Int),zs[zs.length - 1 - k]?.getD 0)]:=by simp [backTo,List.range_succ]
theorem backTo_length (zs : List Int) (k : Nat) : (backTo zs k).length = k:=by simp [backTo]
theorem add_blockB_ (a : Addr) (j : Nat) : (a.add j).block = a.block:=by unfold Addr.add;split <;> rfl
theorem cell_block_ {A B : World} {p : Addr} (h : B.heap[p.block]? = A.heap[p.block]?) : B.cell? p = A.cell? p:=by simp only [World.cell?,h]
set_option maxRecDepth 100000 in
set_option maxHeartbeats 2000000 in
theorem backward1_in (n : Nat) (hn : 1 ≤ n) (l Bs cap : Nat) (ad : Addr) (zs : List Int) (hz : zs.length ≤ 9223372036854775807) (J Jx : List (Int × Int) → World → Prop)
    (hY : ∀ pre x W,J pre W → pre.length < zs.length → YieldAt Fence.wide (n - 1) Try.prog l #[.int .i64 x.1,.int .i64 x.2] W fun e W' =>
      (e = .returned (.bool true) ∧ J (pre ++ [x]) W' ∧ (W'.heap[Bs]? = W.heap[Bs]? ∧ W'.heap[ad.block]? = W.heap[ad.block]?)) ∨ (e = .returned (.bool false) ∧ Jx (pre ++ [x]) W'))
    (W : World) (hBs : W.cell? ⟨Bs,0,none⟩ = some (.slice (some ad) zs.length cap)) (hc : ∀ j,j < zs.length → W.cell? (ad.add j) = some (.int .i64 (zs[j]?.getD 0))) (h0 : J [] W) :
    CallsIn Fence.wide n Try.prog 121 #[.func (.yield l) #[] #[],.pointer (some ⟨Bs,0,none⟩)] W fun e W' => (∃ v,e = .returned v) ∧
      ((∃ ys,ys = backTo zs zs.length ∧ J ys W') ∨ (∃ pre,True ∧ Jx pre W')):=by
  refine callsIn_of_wp Try.func121 rfl trivial ?_ rfl
  simp only [Try.ntmps121,List.size_toArray,List.length_cons,List.length_nil,Nat.reduceAdd,Nat.reduceSub,Array.replicate_succ,Array.replicate_zero,List.push_toArray,List.append_toArray,List.nil_append,List.cons_append]
  gi_wp2
  gi_loopw [3] (fun i wr => ∃ k : Nat,k ≤ zs.length ∧ i = .int .i64 ((zs.length : Int) - 1 - k) ∧ J (backTo zs k) wr ∧ (wr.heap[Bs]? = W.heap[Bs]? ∧ wr.heap[ad.block]? = W.heap[ad.block]?))
    (fun i _ => (intOf i + 1).toNat)
  case atStart => exact ⟨0,Nat.zero_le _,by first | (simp;done) | (congr 1;unfold wrap64;omega),h0,rfl,rfl⟩
  case round =>
    obtain ⟨k,hk,rfl,hJs,hnx1,hnx2⟩:=hrel
    have hBr : wr.cell? ⟨Bs,0,none⟩ = some (.slice (some ad) zs.length cap):=by rw [← hBs];simp only [World.cell?,hnx1]
    by_cases hlt : k < zs.length
    · obtain ⟨fn,tmps,assign,body,hy,hR⟩:=hY _ (((zs.length - 1 - k : Nat) : Int),zs[zs.length - 1 - k]?.getD 0) wr hJs (by rw [backTo_length];exact hlt)
      dsimp only at hy
      have hcx : wr.cell? (ad.add (zs.length - 1 - k)) = some (.int .i64 (zs[zs.length - 1 - k]?.getD 0)):=(cell_block_ (by rw [add_blockB_];exact hnx2)).trans (hc _ (by omega))
      have hi : (zs.length : Int) - 1 - k = ((zs.length - 1 - k : Nat) : Int):=by omega
      rw [hi]
      have hge : decide (((zs.length - 1 - k : Nat) : Int) ≥ 0) = true:=decide_eq_true (by omega)
      have hlt2 : ((zs.length - 1 - k : Nat) : Int) < (zs.length : Int):=by omega
      gi_wp2
      refine hR.mono ?_
      rintro e W3 (⟨rfl,hJ3,hk3,hk4⟩ | ⟨rfl,hJx3⟩)
      · gi_wp2
        go_roundw
        case rel => exact ⟨k + 1,by omega,by first | (congr 1;first | omega | (unfold wrap64;omega)) | (simp;omega),by rw [backTo_succ];exact hJ3,hk3.trans hnx1,hk4.trans hnx2⟩
        case measure => first | (simp [intOf];done) | (simp [intOf];omega)
      · gi_wp2
        refine bodyPost_ret (results_none rfl _ _ _) rfl ?_
        exact ⟨⟨_,rfl⟩,.inr ⟨_,trivial,hJx3⟩⟩
    · obtain rfl : k = zs.length:=by omega
      have hi : (zs.length : Int) - 1 - (zs.length : Int) = -1:=by omega
      rw [hi]
      gi_wp2
      go_end0
      exact ⟨⟨_,rfl⟩,.inl ⟨_,rfl,hJs⟩⟩
set_option maxHeartbeats 1000000 in
theorem backward_in (a : Option Addr) (len cap : Nat) (w : World) :
    Calls Try.prog 120 #[.slice a len cap] w fun e w' => e = .returned (.func (.func 121) #[] #[.pointer (some ⟨w.heap.size,0,none⟩)]) ∧ w' = w.alloc (.cells #[.slice a len cap] 37):=by
  have hmf : ∀ (fn : Fn) (first cap : Array Value) (w : World),(Instr.makeFunc fn first cap).run Try.prog w = .ok (.func fn first cap) w:=fun _ _ _ _ => rfl
  go_enter Try.func120,Try.ntmps120
  go_wp2
  go_ret
  exact ⟨rfl,rfl⟩
theorem backward_stops (n : Nat) (hn : 1 ≤ n) (Bs cap : Nat) (ad : Addr) (zs : List Int) (hz : zs.length ≤ 9223372036854775807) (w : World) (hBs : w.cell? ⟨Bs,0,none⟩ = some (.slice (some ad) zs.length cap)) (hb : ad.block < w.heap.size) (hc : ∀ j,j < zs.length → w.cell? (ad.add j) = some (.int .i64 (zs[j]?.getD 0))) :
    SeqStopsK Fence.wide n Try.prog 121 #[.pointer (some ⟨Bs,0,none⟩)] (fun x : Int × Int => #[Value.int .i64 x.1,Value.int .i64 x.2]) (fun A B => B.heap[Bs]? = A.heap[Bs]? ∧ B.heap[ad.block]? = A.heap[ad.block]?) (fun ys => ys = backTo zs zs.length) (fun _ => True) zs.length w:=fun l J Jx W hW _ _ hY h0 => by
  have hBs':=(hW.cell (p:=⟨Bs,0,none⟩) (World.block_lt_of_cell? w _ hBs)).trans hBs
  refine (backward1_in n hn l Bs cap ad zs hz J Jx hY W hBs' (fun j hj => (hW.cell (p:=ad.add j) (by rw [add_blockB_];exact hb)).trans (hc j hj)) h0).mono ?_
  rintro e W' ⟨he,⟨ys,rfl,hj⟩ | ⟨pre,_,hj⟩⟩
  · exact ⟨he,.inl ⟨_,rfl,hj⟩⟩
  · exact ⟨he,.inr ⟨_,trivial,hj⟩⟩
end
end Go.Proofs.Ytpabeajjbifjdaa.G
namespace Go.Proofs.Ytpabeajjbifjdaa.G
open Go.RowKit Go.Proofs.YtpabeajjbifjdaaW.PrintWords Go.Proofs.YtpabeajjbifjdaaW.PrintLast Go.Proofs.YtpabeajjbifjdaaW.PrintMore
attribute [local go_sem] max2_int min2_int max_two min_two max_three min_three max_four min_four   -- for this text's walks alone
set_option linter.unusedVariables false
set_option linter.unusedSimpArgs false
section
open Go.Shelf
attribute [local go_sem] Oper.semAt_some
def pairT (st : Int × List S36 × Bool) (x : Int) : Int × List S36 × Bool:=putT st.2.1 st.2.2 ⟨3,x,st.1,0⟩
def listP (l : List S36) (full : Bool) (xs : List Int) : Int × List S36 × Bool :=
  if xs.length = 0 then putT l full ⟨1,0,0,0⟩ else ((backTo (xs.take (xs.length - 1)) (xs.length - 1)).map Prod.snd).foldl pairT (xs[xs.length - 1]?.getD 0,l,full)
theorem sheetV_below {W W' : World} {N S : Nat} {v : Value} {l : List S36} {full : Bool} (h : SheetV W N S v l full) (hb : Below W.heap.size W W') : SheetV W' N S v l full:=⟨blk_below h.1 hb,h.2.1,Kd.R_below h.2.2 hb⟩
theorem sheetV_alloc {W : World} {N S : Nat} {v : Value} {l : List S36} {full : Bool} (h : SheetV W N S v l full) (o : Obj) : SheetV (W.alloc o) N S v l full:=sheetV_below h (below_alloc (Below.refl _ _) o)
def ListI (N S z b : Nat) (v0 : Value) (st : Int × List S36 × Bool) (w W : World) : Prop:=∃ v,W.heap[z]? = some (.cells #[.pointer (some ⟨S,0,none⟩)] 75 (0,0)) ∧ W.heap[z + 1]? = some (.cells #[.int .i64 st.1] 2 (0,0)) ∧ SheetV W N S v st.2.1 st.2.2 ∧ st.2.1.length ≤ 400 ∧ (∀ k,v.ownBlock = some k → k ≠ z ∧ k ≠ z + 1 ∧ k ≠ z + 1 + 1 ∧ k ≠ b) ∧ z + 3 ≤ W.heap.size ∧ KeepV w W S v0 ∧ (∀ k,v.ownBlock = some k → v0.ownBlock = some k ∨ w.heap.size ≤ k) ∧ Below N w W
theorem R_and {W : World} {N : Nat} {ok : Nat → Prop} {q : Nat → Prop} {v : Value} {l : List S36} (h : k36.R 36 W N ok v l) (hq : ∀ k,v.ownBlock = some k → q k) : k36.R 36 W N (fun k => ok k ∧ q k) v l:=by
  obtain ⟨h0,inner,hown,hr⟩:=h
  exact ⟨fun k hk => ⟨h0 k hk,hq k hk⟩,inner,hown,hr.imp_ (fun x cs hm => by obtain rfl:=k36_openM hm;exact k36_mkM _ _ _ _)⟩
theorem R_cellsRow {W : World} {N : Nat} {ok : Nat → Prop} {v : Value} {l : List S36} (h : k36.R 36 W N ok v l) (k : Nat) (hk : v.ownBlock = some k) : ∃ cells,W.heap[k]? = some (.cells cells 36 (0,0)):=by
  obtain ⟨_,hi⟩:=Kd.R_own h
  exact own_typed hi k hk
theorem R_heap {W W' : World} {N : Nat} {ok : Nat → Prop} {v : Value} {l : List S36} (h : k36.R 36 W N ok v l) (hm : ∀ k,v.ownBlock = some k → W'.heap[k]? = W.heap[k]?) : k36.R 36 W' N ok v l:=by
  obtain ⟨h0,inner,hown,hr⟩:=h
  exact ⟨h0,inner,own_move hown hm,hr.imp_ (fun x cs hm => by obtain rfl:=k36_openM hm;exact k36_mkM _ _ _ _)⟩
theorem R_putObj {W : World} {N D : Nat} {ok : Nat → Prop} {v : Value} {l : List S36} {o o' : Obj} (h : k36.R 36 W N ok v l) (hD : W.heap[D]? = some o) (ho : o.isCells = false) : k36.R 36 (W.putObj D o') N ok v l :=
  R_heap h (fun k hk => World.putObj_heap_other (fun e => by
    obtain ⟨cells,hc⟩:=R_cellsRow h k hk
    rw [e,hD] at hc
    injection hc with hc
    rw [hc] at ho
    cases ho))
theorem listI_own {α : Type} (N S z b B : Nat) (v0 : Value) (hN : N ≤ B) (hS : S < B) (hz : z + 3 ≤ B) (f : α → Int × List S36 × Bool) (w : World) (hw : w.heap.size ≤ B) : OwnFrom B (fun s W => ListI N S z b v0 (f s) w W):=by
  rintro s W W' row ⟨v,q2,q6,⟨h1,h2,h3⟩,hl,ho,hs,hkp,hov,hb⟩ hg hr
  have far : ∀ k,k < B → some k ≠ row:=fun k hk e => by have:=(hr k e.symm).1;omega
  have blk : ∀ k,k < W.heap.size → k < B → W'.heap[k]? = W.heap[k]?:=fun k h1 h2 => hg.block k h1 (far k h2)
  have hNW : N ≤ W.heap.size:=Nat.le_trans h2 (Nat.le_of_lt (blk_lt h1))
  refine ⟨v,(blk _ (by omega) (by omega)).trans q2,(blk _ (by omega) (by omega)).trans q6,⟨(blk _ (blk_lt h1) hS).trans h1,h2,R_heap h3 (fun k hk => ?_)⟩,hl,ho,by have:=hg.size;omega,fun k h1 h2 h3 => (blk k (Nat.lt_of_lt_of_le h1 hb.size) (by omega)).trans (hkp k h1 h2 h3),hov,?_⟩
  · obtain ⟨cells,hc⟩:=R_cellsRow h3 k hk
    refine hg.block k (blk_lt hc) (fun e => ?_)
    obtain ⟨_,o,ho1,ho2⟩:=hr k e.symm
    rw [hc] at ho1
    injection ho1 with ho1
    rw [← ho1] at ho2
    cases ho2
  · exact pw_below_grown hb row (by omega) hg (fun k e => by have:=(hr k e).1;omega)
theorem keepsOthers_put {W W' : World} {N S : Nat} {v : Value} {l : List S36} {full : Bool} (h : SheetV W N S v l full) (hk : KeepV W W' S v) (hs : W.heap.size ≤ W'.heap.size) : KeepsOthers W W' :=
  ⟨hs,fun k o ho hc => by
    refine (hk k (blk_lt ho) (fun e => ?_) (fun e => ?_)).trans ho
    · rw [e,h.1] at ho
      injection ho with ho
      rw [← ho] at hc
      cases hc
    · obtain ⟨cells,hcc⟩:=R_cellsRow h.2.2 k e
      rw [hcc] at ho
      injection ho with ho
      rw [← ho] at hc
      cases hc⟩
set_option maxRecDepth 100000 in
set_option maxHeartbeats 4000000 in
theorem impl_sheet_list.callsV (S N : Nat) (v : Value) (l : List S36) (full : Bool) (A1 : Option Addr) (c1 : Nat) (xs : List Int) (w : World) (hS : SheetV w N S v l full) (hN : N ≤ w.heap.size) (hl : l.length ≤ 400) (hr1 : Kd.C (Kd.int .i64) w A1 xs.length xs) (hc1 : xs.length ≤ c1) (hfar : 0 < xs.length → ∀ ad,A1 = some ad → ad.block ≠ S ∧ v.ownBlock ≠ some ad.block) :
    Calls Try.prog 112 #[.pointer (some ⟨S,0,none⟩),.slice A1 xs.length c1] w fun e w' => e = .returned (.int .i64 (listP l full xs).1) ∧ (∃ v',SheetV w' N S v' (listP l full xs).2.1 (listP l full xs).2.2 ∧ ∀ k,v'.ownBlock = some k → v.ownBlock = some k ∨ w.heap.size ≤ k) ∧ KeepV w w' S v ∧ Below N w w':=by
  have hF_a : Fence.wide.fn 111:=trivial
  have hF_b : Fence.wide.fn 120:=trivial
  have hF_c : Fence.wide.fn 79:=trivial
  have hF_d : Fence.wide.fn 121:=trivial
  by_cases h0 : xs.length = 0
  · have hnm:=fun (W : World) (h : SheetV W N S v l full) (h2 : N ≤ W.heap.size) => impl_sheet_name.callsV S N v l full 0 W h h2 hl
    have hP : listP l full xs = putT l full ⟨1,0,0,0⟩:=by unfold listP;rw [if_pos h0]
    rw [hP,h0]
    generalize putT l full ⟨1,0,0,0⟩ = r at hnm ⊢
    go_enter Try.func112,Try.ntmps112
    go_wp2_with (go_at_call 111;refine (hnm _ (sheetV_alloc hS _) (Nat.le_trans hN (by simp))).mono ?_;rintro e w' ⟨rfl,hs,hk,hb⟩)
    go_ret
    refine ⟨rfl,?_,?_,((Below.refl N w).alloc hN _).trans hb⟩
    · obtain ⟨v',hv,ho⟩:=hs
      exact ⟨v',hv,fun k hk => (ho k hk).imp id (fun h => by simp at h;omega)⟩
    · exact fun b h1 h2 h3 => (hk b (by simp;omega) h2 h3).trans ((below_alloc (Below.refl _ _) _).block b h1)
  · obtain ⟨m,hm⟩ : ∃ m,xs.length = m + 1:=⟨xs.length - 1,by omega⟩
    obtain ⟨ad,e,hx0⟩:=Kd.at_int hr1 (m : Int) (by omega) (by omega)
    subst e
    rw [Int.toNat_natCast] at hx0
    have hmx : m ≤ 9223372036854775807:=by have:=hr1.2.1;omega
    generalize hx : rd xs (m : Int) = x at hx0
    rw [hm]
    refine (callsIn_wide (n:=6)).1 ?_
    refine callsIn_of_wp_marks Try.func112 rfl trivial ?_ rfl
    simp only [Try.ntmps112,List.size_toArray,List.length_cons,List.length_nil,Nat.reduceAdd,Nat.reduceSub,Array.replicate_succ,Array.replicate_zero,List.push_toArray,List.append_toArray,List.nil_append,List.cons_append]
    have hw1 : wrap64 (((m + 1 : Nat) : Int) - 1) = (m : Int):=by unfold wrap64;omega
    have hadl:=World.block_lt_of_cell? w _ hx0
    gi_wp2_with (gi_at_call 120;refine (callsIn_wide.2 (backward_in _ _ _ _)).mono ?_;rintro e w' ⟨rfl,rfl⟩)
    obtain ⟨hadS,hadV⟩:=hfar (by omega) ad rfl
    have hSl:=blk_lt hS.1
    obtain ⟨W0,hW0⟩ : ∃ W0,((w.alloc (.cells #[.pointer (some ⟨S,0,none⟩)] 75)).alloc (.cells #[.int .i64 x] 2)).alloc (.cells #[.slice (some ad) m c1] 37) = W0:=⟨_,rfl⟩
    have hb0 : Below w.heap.size w W0:=by rw [← hW0];exact below_alloc (below_alloc (below_alloc (Below.refl _ _) _) _) _
    have hz0 : W0.heap.size = w.heap.size + 3:=by rw [← hW0];simp
    have k2 : W0.heap[w.heap.size]? = some (.cells #[.pointer (some ⟨S,0,none⟩)] 75 (0,0)):=by
      rw [← hW0];exact blk_alloc (blk_alloc Array.getElem?_push_size _) _
    have k6 : W0.heap[w.heap.size + 1]? = some (.cells #[.int .i64 x] 2 (0,0)):=by
      have h : ((w.alloc (.cells #[.pointer (some ⟨S,0,none⟩)] 75)).alloc (.cells #[.int .i64 x] 2)).heap[w.heap.size + 1]? = some (.cells #[.int .i64 x] 2 (0,0)):=by
        have:=Array.getElem?_push_size (xs:=(w.alloc (.cells #[.pointer (some ⟨S,0,none⟩)] 75)).heap) (x:=Obj.cells #[.int .i64 x] 2 (0,0))
        rw [show (w.alloc (.cells #[.pointer (some ⟨S,0,none⟩)] 75)).heap.size = w.heap.size + 1 by simp] at this
        exact this
      rw [← hW0];exact blk_alloc h _
    have kB : W0.cell? ⟨w.heap.size + 1 + 1,0,none⟩ = some (.slice (some ad) m c1):=by
      have h : W0.heap[w.heap.size + 1 + 1]? = some (.cells #[.slice (some ad) m c1] 37 (0,0)):=by
        have:=Array.getElem?_push_size (xs:=((w.alloc (.cells #[.pointer (some ⟨S,0,none⟩)] 75)).alloc (.cells #[.int .i64 x] 2)).heap) (x:=Obj.cells #[.slice (some ad) m c1] 37 (0,0))
        rw [show ((w.alloc (.cells #[.pointer (some ⟨S,0,none⟩)] 75)).alloc (.cells #[.int .i64 x] 2)).heap.size = w.heap.size + 1 + 1 by simp] at this
        rw [← hW0];exact this
      exact (blk_cell h 0).trans rfl
    obtain ⟨zs,hzs⟩ : ∃ zs,zs = xs.take m:=⟨_,rfl⟩
    have hzl : zs.length = m:=by rw [hzs,List.length_take];omega
    have hcz : ∀ j,j < zs.length → W0.cell? (ad.add j) = some (.int .i64 (zs[j]?.getD 0)):=by
      intro j hj
      obtain ⟨ad2,e2,hx2⟩:=Kd.at_int hr1 (j : Int) (by omega) (by omega)
      obtain rfl : ad = ad2:=by injection e2
      rw [Int.toNat_natCast] at hx2
      have e3 : zs[j]?.getD 0 = rd xs (j : Int):=by rw [hzs,List.getElem?_take,if_pos (by omega)];simp [rd,List.getD]
      rw [e3]
      exact (hb0.cell (World.block_lt_of_cell? w _ hx2)).trans hx2
    rw [hW0]
    have kB' : W0.cell? ⟨w.heap.size + 1 + 1,0,none⟩ = some (.slice (some ad) zs.length c1):=by rw [hzl];exact kB
    have hadw : ad.block < w.heap.size:=by rw [add_block_] at hadl;exact hadl
    refine wpIn_rangeFunc_ownG (F:=Fence.wide) (n:=6) rfl (by omega) (gf:=121) (lb:=#[.pointer (some ⟨w.heap.size + 1 + 1,0,none⟩)]) rfl trivial (enters_of Try.func121 (by kernel_rfl) rfl)
      (backward_stops 5 (by omega) (w.heap.size + 1 + 1) c1 ad zs (by omega) W0 kB' (by omega) hcz)
      (fun h1 h2 => ⟨h2.1.trans h1.1,h2.2.trans h1.2⟩) (fun W l' o o' hl' _ _ _ => ⟨World.putObj_heap_other (by omega),World.putObj_heap_other (by omega)⟩) (Below.refl _ _) (fun _ => rfl)
      (fun (pre : List (Int × Int)) W => ListI N S w.heap.size ad.block v ((pre.map Prod.snd).foldl pairT (x,l,full)) w W)
      (fun _ _ _ => False)
      (listI_own N S w.heap.size ad.block W0.heap.size v (by omega) (by omega) (by omega) (fun (pre : List (Int × Int)) => (pre.map Prod.snd).foldl pairT (x,l,full)) w (by omega))
      (fun _ _ _ _ _ hs _ _ => hs)
      ⟨v,k2,k6,sheetV_below hS hb0,hl,fun k hk => by obtain ⟨_,hi⟩:=Kd.R_own hS.2.2;have hlt:=own_lt hi k hk;exact ⟨by omega,by omega,by omega,fun e => hadV (e ▸ hk)⟩,by omega,fun b h1 _ _ => hb0.block b h1,fun k hk => .inl hk,hb0.mono hN⟩
      (fun x' => { tmps:=#[.pointer (some ⟨S,0,none⟩),.slice (some ad) (m + 1) c1,.pointer (some ⟨w.heap.size,0,none⟩),undef,.int .i64 0,.int .i64 m,.pointer (some ⟨w.heap.size + 1,0,none⟩),undef,.int .i64 x'.2,.slice (some ad) (m + 1) c1,.int .i64 ((m : Int) + 1),.bool false,undef,undef,.slice (some ad) (m + 1) c1,.int .i64 ((m : Int) + 1),.int .i64 m,.slice (some ad) (m + 1) c1,.int .i64 m,.pointer (some (ad.add m)),.int .i64 x,.slice (some ad) (m + 1) c1,.int .i64 m,.slice (some ad) m c1,.func (.func 121) #[] #[.pointer (some ⟨w.heap.size + 1 + 1,0,none⟩)],.int .i64 x'.1,.int .i64 x'.2,undef,undef,undef,undef,undef],defers:=[] }) ?assign ?body ?done ?stop
    case assign =>
      intro l' x' W K hK
      gi_wp2
      exact hK
    case body =>
      rintro l' pre x' W ⟨v',q2,q6,hSV,hlen,hown,hsz,hkp,hov,hB⟩ hlt
      have hst : ((pre ++ [x']).map Prod.snd).foldl pairT (x,l,full) = pairT ((pre.map Prod.snd).foldl pairT (x,l,full)) x'.2:=by simp
      generalize (pre.map Prod.snd).foldl pairT (x,l,full) = st at q2 q6 hSV hlen hst
      have c2 : W.cell? ⟨w.heap.size,0,none⟩ = some (.pointer (some ⟨S,0,none⟩)):=(blk_cell q2 0).trans rfl
      have c6 : W.cell? ⟨w.heap.size + 1,0,none⟩ = some (.int .i64 st.1):=(blk_cell q6 0).trans rfl
      have hpr:=impl_sheet_pair.callsV S N v' st.2.1 st.2.2 x'.2 st.1 W hSV (by omega) hlen
      have hpT : putT st.2.1 st.2.2 ⟨3,x'.2,st.1,0⟩ = pairT st x'.2:=rfl
      rw [hpT] at hpr
      have hlen2 : (pairT st x'.2).2.1.length ≤ 400:=putT_len hlen
      generalize pairT st x'.2 = st2 at hpr hlen2 hst
      gi_wp2_with (gi_at_call 79;refine (CallsIn.inRound l' (callsIn_wide.2 hpr)).mono ?_;rintro e W2 ⟨rfl,hs2,hk2,hb2⟩;have d6 : W2.cell? ⟨w.heap.size + 1,0,none⟩ = some (.int .i64 st.1):=(cell_block_ (hk2 (w.heap.size + 1) (by omega) (by omega) (fun e => (hown _ e).2.1 rfl))).trans c6;have d6f : W2.frozen? ⟨w.heap.size + 1,0,none⟩ = false:=blk_frozen ((hk2 (w.heap.size + 1) (by omega) (by omega) (fun e => (hown _ e).2.1 rfl)).trans q6) 0)
      obtain ⟨v2,hSV2,hown2⟩:=hs2
      have e2:=(hk2 w.heap.size (by omega) (by omega) (fun e => (hown _ e).1 rfl)).trans q2
      have e6:=(hk2 (w.heap.size + 1) (by omega) (by omega) (fun e => (hown _ e).2.1 rfl)).trans q6
      refine ⟨?_,?_,?_⟩
      rotate_left 2
      · show ListI N S w.heap.size ad.block v (((pre ++ [x']).map Prod.snd).foldl pairT (x,l,full)) w _
        rw [hst]
        refine ⟨v2,?_,?_,?_,hlen2,?_,?_,?_,?_,?_⟩
        · exact (Below.heap_setCell W2 ⟨w.heap.size + 1,0,none⟩ _ _ (by simp)).trans e2
        · exact blk_put e6 0 _ rfl
        · exact ⟨(Below.heap_setCell W2 ⟨w.heap.size + 1,0,none⟩ _ _ (by simp;omega)).trans hSV2.1,hSV2.2.1,Kd.R_mono (Kd.R_far (Kd.R_mono (R_and hSV2.2.2 (fun k hk => show k ≠ w.heap.size + 1 by rcases hown2 k hk with h | h;exact (hown k h).2.1;omega)) (fun k hk => hk)) (p:=⟨w.heap.size + 1,0,none⟩) (fun k hk => hk.2) _) (fun k hk => hk.1)⟩
        · intro k hk
          rcases hown2 k hk with h | h
          · exact hown k h
          · exact ⟨by omega,by omega,by omega,by omega⟩
        · simp;have:=hb2.size;omega
        · intro b h1 h2 h3
          refine (Below.heap_setCell W2 ⟨w.heap.size + 1,0,none⟩ _ _ (by simp;omega)).trans ((hk2 b (by omega) h2 (fun e => ?_)).trans (hkp b h1 h2 h3))
          rcases hov b e with h | h
          · exact h3 h
          · omega
        · intro k hk
          rcases hown2 k hk with h | h
          · exact hov k h
          · exact .inr (by omega)
        · exact (hB.trans hb2).setCell (p:=⟨w.heap.size + 1,0,none⟩) (by simp;omega) _
      · exact ((keepsOthers_put hSV hk2 hb2.size).trans (KeepsOthers.setCell _ _ _)).from _
      · exact ⟨(Below.heap_setCell W2 ⟨w.heap.size + 1,0,none⟩ _ _ (by simp)).trans (hk2 _ (by omega) (by omega) (fun e => (hown _ e).2.2.1 rfl)),(Below.heap_setCell W2 ⟨w.heap.size + 1,0,none⟩ _ _ (by simp;omega)).trans (hk2 _ (by omega) hadS (fun e => (hown _ e).2.2.2 rfl))⟩
    case done =>
      rintro D ys W hD rfl ⟨v',q2,q6,hSV,hlen,hown,hsz,hkp,hov,hB⟩ hK
      have hlp : listP l full xs = ((backTo zs zs.length).map Prod.snd).foldl pairT (x,l,full):=by
        unfold listP
        rw [if_neg h0,hm,Nat.add_sub_cancel,← hzs,hzl]
        have : xs[m]?.getD 0 = x:=by rw [← hx];simp [rd,List.getD]
        rw [this]
      obtain ⟨st,hst⟩ : ∃ st,st = ((backTo zs zs.length).map Prod.snd).foldl pairT (x,l,full):=⟨_,rfl⟩
      rw [← hst] at hlp q6 hSV hlen
      clear hst
      have c6 : W.cell? ⟨w.heap.size + 1,0,none⟩ = some (.int .i64 st.1):=(blk_cell q6 0).trans rfl
      gi_wp2
      refine ⟨by simp,.inl ⟨_,_,rfl,run_takeDeferred hK,?_⟩⟩
      rw [hlp]
      refine ⟨_,results_tmp rfl _ _ _,rfl,⟨v',?_,hov⟩,?_,?_⟩
      · have hDS : S ≠ D:=by omega
        exact ⟨(World.putObj_heap_other hDS).trans hSV.1,hSV.2.1,Kd.R_mono (R_putObj hSV.2.2 hK rfl) (fun k hk => hk)⟩
      · exact fun b h1 h2 h3 => (World.putObj_heap_other (by omega)).trans (hkp b h1 h2 h3)
      · exact hB.trans (belowK_b (w:=w) hN W D _ _ (by omega) hK rfl rfl)
    case stop =>
      rintro D c pre W _ _ h _
      exact h.elim
end
theorem fold_len : ∀ (ys : List Int) (st : Int × List S36 × Bool),st.2.1.length ≤ 400 → (ys.foldl pairT st).2.1.length ≤ 400
  | [],_,h => h
  | y :: ys,st,h => fold_len ys (pairT st y) (putT_len h)
theorem listP_len {l : List S36} {full : Bool} {xs : List Int} (hl : l.length ≤ 400) : (listP l full xs).2.1.length ≤ 400:=by
  unfold listP
  split
  · exact putT_len hl
  · exact fold_len _ _ hl
theorem impl_sheet_list.callsE {N S : Nat} {w0 w : World} {l : List S36} {full : Bool} (A1 : Option Addr) (c1 : Nat) (xs : List Int) (n : Nat) (r : Int × List S36 × Bool) (h : SE 79 N S w0 w l (.bool full)) (hl : l.length ≤ 400) (hn : xs.length = n) (hC : Kd.C (Kd.int .i64) w A1 xs.length xs) (hc : xs.length ≤ c1) (hf : FarT 79 N w A1 xs.length) (hr : listP l full xs = r) :
    Calls Try.prog 112 #[.pointer (some ⟨S,0,none⟩),.slice A1 n c1] w fun e w' => e = .returned (.int .i64 r.1) ∧ SE 79 N S w0 w' r.2.1 (.bool r.2.2) ∧ KeepT 79 N w w':=by
  subst hr
  subst hn
  refine SE.call h (fun v hv => (impl_sheet_list.callsV S N v l full A1 c1 xs w hv hv.size hl hC hc (fun h0 ad e => ?_)).mono (fun e w' ⟨h1,h2⟩ => ⟨h1,se_of_V hv h2⟩))
  obtain ⟨_,ho⟩:=Kd.R_own hv.2.2
  rcases hf h0 ad e with hlt | ⟨cs,q,h4,h5,h6⟩
  · exact ⟨by have:=hv.2.1;omega,fun e2 => by have:=own_base ho _ e2;omega⟩
  · refine ⟨fun e2 => ?_,fun e2 => ?_⟩
    · rw [e2,hv.1] at h4
      injection h4 with h4
      injection h4 with _ h4
      exact h5 h4.symm
    · obtain ⟨cells,hcc⟩:=own_typed ho _ e2
      rw [hcc] at h4
      injection h4 with h4
      injection h4 with _ h4
      exact h6 h4.symm
end Go.Proofs.Ytpabeajjbifjdaa.G
namespace Go.Proofs.Ytpabeajjbifjdaa.G
open Go.RowKit Go.Proofs.YtpabeajjbifjdaaW.PrintWords Go.Proofs.YtpabeajjbifjdaaW.PrintLast Go.Proofs.YtpabeajjbifjdaaW.PrintMore
attribute [local go_sem] max2_int min2_int max_two min_two max_three min_three max_four min_four   -- for this text's walks alone
set_option linter.unusedVariables false
set_option linter.unusedSimpArgs false
def nameP (st : List Int × List S36 × Bool) (n : Int) : List Int × List S36 × Bool:=(st.1 ++ [(putT st.2.1 st.2.2 ⟨1,0,0,n⟩).1],(putT st.2.1 st.2.2 ⟨1,0,0,n⟩).2)
def namesL (l : List S36) (full : Bool) (ns : List Int) : List Int × List S36 × Bool:=ns.foldl nameP ([],l,full)
def namesT (l : List S36) (full : Bool) (ns : List Int) : Int × List S36 × Bool:=listP (namesL l full ns).2.1 (namesL l full ns).2.2 (namesL l full ns).1
theorem namesF_len : ∀ (ns : List Int) (st : List Int × List S36 × Bool),st.2.1.length ≤ 400 → (ns.foldl nameP st).2.1.length ≤ 400
  | [],_,h => h
  | n :: ns,st,h => namesF_len ns (nameP st n) (putT_len h)
theorem namesF_one : ∀ (ns : List Int) (st : List Int × List S36 × Bool),(ns.foldl nameP st).1.length = st.1.length + ns.length
  | [],_ => by simp
  | n :: ns,st => by
    rw [List.foldl_cons,namesF_one ns]
    simp [nameP]
    omega
theorem namesT_len {l : List S36} {full : Bool} {ns : List Int} (hl : l.length ≤ 400) : (namesT l full ns).2.1.length ≤ 400:=listP_len (namesF_len _ _ hl)
theorem namesL_take (l : List S36) (full : Bool) (ns : List Int) (k : Nat) (h : k < ns.length) : namesL l full (ns.take (k + 1)) = nameP (namesL l full (ns.take k)) (rd ns (k : Int)):=by
  have e : ns.take (k + 1) = ns.take k ++ [rd ns (k : Int)]:=by
    rw [List.take_succ_eq_append_getElem h]
    simp [rd,List.getD,List.getElem?_eq_getElem h]
  unfold namesL
  rw [e,List.foldl_append]
  rfl
theorem reps_ints {w : World} {base : Nat} {ok : Nat → Prop} : ∀ xs : List Int,Reps ((Kd.int .i64).M w base ok) (Kd.int .i64).sz xs (xs.map (Value.int .i64))
  | xs => ⟨by simp [Kd.int,Kd.scalar],fun j p h => by
    obtain ⟨hj,rfl⟩:=List.getElem?_eq_some_iff.1 h
    show ((xs.map (Value.int .i64)).drop (j * 1)).take 1 = [Value.int .i64 xs[j]]
    rw [Nat.mul_one,List.drop_eq_getElem_cons (by simpa using hj)]
    simp⟩
theorem far_row {T N : Nat} {w : World} {α : Type} {d : Kd α} {e base n c : Nat} {ok : Nat → Prop} {A : Option Addr} {xs : List α} (h : d.R e w base ok (.slice A n c) xs) (h1 : e ≠ T) (h2 : e ≠ 36) : FarT T N w A xs.length:=fun _ ad he => by
  obtain ⟨_,hi⟩:=Kd.R_own h
  subst he
  obtain ⟨cells,hc⟩:=own_typed hi ad.block (by simp [Value.ownBlock])
  exact .inr ⟨cells,e,hc,h1,h2⟩
set_option maxHeartbeats 4000000 in
set_option maxRecDepth 100000 in
theorem impl_sheet_names.callsE {N S : Nat} {w0 w : World} {l : List S36} {full : Bool} (A1 : Option Addr) (c1 : Nat) (ns : List Int) (n : Nat) (r : Int × List S36 × Bool) (h : SE 79 N S w0 w l (.bool full)) (hl : l.length ≤ 400) (hn : ns.length = n) (hC : Kd.C (Kd.int .i64) w A1 ns.length ns) (hc : ns.length ≤ c1) (hf : FarT 79 N w A1 ns.length) (hm : ns.length ≤ 1000000000) (hr : namesT l full ns = r) :
    Calls Try.prog 82 #[.pointer (some ⟨S,0,none⟩),.slice A1 n c1] w fun e w' => e = .returned (.int .i64 r.1) ∧ SE 79 N S w0 w' r.2.1 (.bool r.2.2) ∧ KeepT 79 N w w':=by
  subst hn
  refine SE.call h (fun v hv => ?_)
  have HS:=Z_ (SE.start hv)
  have HL:=Z_ hl
  have HN:=Z_ hv.size
  have HC:=Z_ hC
  have HC1:=Z_ hc
  have HF:=Z_ hf
  have HM:=Z_ hm
  have HR:=Z_ hr
  clear h hv hl hC hc hf hm hr
  go_enter Try.func82,Try.ntmps82
  go_wp2_with (first | ((with_reducible refine gD_ 8 rfl ?_);refine Kd.R_lit (Kd.int .i64) _ 2 ?hg (N:=8) ?hd (xs:=([] : List Int)) (inner:=[]) (ok:=fun _ => True) (okp:=fun _ => True) ?hr ?hp (fun _ hk => hk) trivial (Below.refl _ _) (Nat.le_refl _) (by simp) ?_;(case hd => rfl);(case hg => rfl);(case hr => first | (go_simp;done) | (go_simp;rfl));(case hp => exact (Reps.none _ _));intro v1 w1 ho hb hg hn;clear hg hn;obtain ⟨AP,cP,eP⟩:=Kd.R_slice ho;subst eP;have HP:=Z_ (Kd.R_lower ho HS.out.2.1.1);replace HS:=Z_ (HS.out.below hb);clear ho hb))
  go_loopg [5,11] ns.length (fun kq v5 v11 w' => ∃ kk : Nat,kk + kq = ns.length ∧ v11 = .int .i64 kk ∧ Aside0 (Kd.R (Kd.int .i64) 2 w' w.heap.size (fun _ => True) v5 (namesL l full (ns.take kk)).1) ∧ Aside0 (SE 79 N S w w' (namesL l full (ns.take kk)).2.1 (.bool (namesL l full (ns.take kk)).2.2)))
  case atStart => exact ⟨0,by omega,rfl,by simpa [namesL] using HP,by simpa [namesL] using HS⟩
  case round =>
    clear HP HS
    obtain ⟨kk,hkk,rfl,HO,HS⟩:=hrel
    have hlen : (namesL l full (ns.take kk)).1.length = kk:=by
      unfold namesL
      rw [namesF_one,List.length_take]
      simp
      omega
    have hl2 : (namesL l full (ns.take kk)).2.1.length ≤ 400:=namesF_len _ _ HL.out
    have HCw:=Z_ (C_keepT HC.out HS.out.2.1 HF.out)
    by_cases hlt : kk < ns.length
    · have HT:=Z_ (namesL_take l full ns kk hlt)
      obtain ⟨st,hst⟩ : ∃ st,st = namesL l full (ns.take kk):=⟨_,rfl⟩
      rw [← hst] at HO HS HT hlen hl2
      have HLEN:=Z_ hlen
      have HL2:=Z_ hl2
      clear hst hlen hl2
      obtain ⟨ad,e,hx⟩:=Kd.at_int HCw.out (kk : Int) (by omega) (by omega)
      subst e
      rw [Int.toNat_natCast] at hx
      obtain ⟨x,hxx⟩ : ∃ x,x = rd ns (kk : Int):=⟨_,rfl⟩
      rw [← hxx] at hx HT
      have HW:=Z_ (show wrap64 ((kk : Int) + 1) = ((kk + 1 : Nat) : Int) by have:=HM.out;unfold wrap64;omega)
      obtain ⟨q,hq⟩ : ∃ q,putT st.2.1 st.2.2 ⟨1,0,0,x⟩ = q:=⟨_,rfl⟩
      have HQ:=Z_ hq
      have d1 : decide ((kk : Int) < (ns.length : Int)) = true:=decide_eq_true (by omega)
      have p1 : 0 ≤ (kk : Int):=by omega
      have p2 : (kk : Int) < (ns.length : Int):=by omega
      replace p1:=eq_true p1
      replace p2:=eq_true p2
      clear hq hxx
      go_wp2_with (first | (go_at_call 111;refine (impl_sheet_name.callsE x q HS.out HL2.out HQ.out).mono ?_;rintro e w' ⟨rfl,hs,hk⟩;have k0_:=Z_ (R_keepT HO.out hk (by decide));clear HS HO;have HO:=k0_;have HS:=Z_ hs;clear hs hk k0_) | ((with_reducible refine gate_builtin (b:=.append) (xs:=#[.tmp 15,.tmp 19]) rfl ?_);at_builtin;refine Kd.R_append (Kd.int .i64) w.heap.size rfl (.tmp 15) (.tmp 19) 37 2 (.int .i64 0) 8 rfl Try.underlying37 info2 rfl (by decide) (by omega) u5 st.1 q.1 [.int .i64 q.1] (fun _ => True) (fun _ => False) rfl rfl ?aP (fun _ hk => hk.elim) ?aF ?aO (Below.refl _ _) ?aS ?aL ?_;(case aP => exact rfl);(case aF => exact (fun _ _ => trivial));(case aO => exact (by (with_reducible repeat (first | apply Kd.R_alloc | apply Kd.R_drewN | apply Kd.R_drew));exact HO.out));(case aS => exact HS.out.2.1.1);(case aL => have:=HLEN.out;have:=HM.out;omega);intro v513 w11 ho hb hg hat;have n0_:=Z_ (SE.grown HS.out hg HN.out (fun b e => by obtain ⟨_,hi⟩:=Kd.R_own HO.out;obtain ⟨cells,hc⟩:=own_typed hi b e;exact ⟨own_base hi b e,cells,_,hc,by decide,by decide⟩));clear HS HO hb hg hat;have HS:=n0_;have HO:=Z_ ho;clear n0_ ho))
      go_roundg (gk - 1)
      case measure => omega
      case rel =>
        refine ⟨kk + 1,by omega,by rw [HW.out],?_,?_⟩
        · rw [HT.out];unfold nameP;rw [HQ.out];exact HO
        · rw [HT.out];unfold nameP;rw [HQ.out];exact HS
    · have hkl : kk = ns.length:=by omega
      have hR : listP (namesL l full ns).2.1 (namesL l full ns).2.2 (namesL l full ns).1 = r:=HR.out
      rw [hkl,List.take_of_length_le (Nat.le_refl _)] at HO HS hl2
      generalize namesL l full ns = st at HO HS hl2 hR
      have HL2:=Z_ hl2
      have HR2:=Z_ hR
      have d1 : decide ((kk : Int) < (ns.length : Int)) = false:=decide_eq_false (by omega)
      obtain ⟨A5,c5,e5⟩:=Kd.R_slice HO.out
      subst e5
      clear hlen hR hl2
      go_wp2_with (first | (go_at_call 112;refine (impl_sheet_list.callsE A5 c5 st.1 _ r HS.out HL2.out rfl (Kd.R_reads' HO.out).2.2 (Kd.R_reads' HO.out).2.1 (far_row HO.out (by decide) (by decide)) HR2.out).mono ?_;rintro e w' ⟨rfl,hs,hk⟩;clear HS;have HS:=Z_ hs;clear hs hk))
      go_ret
      exact ⟨rfl,HS.out⟩
theorem R_not_ {w : World} {b g : Nat} {p : Nat → Prop} {v : Value} {l : List S36} (h : k36.R 36 w b p v l) (hp : ∀ k,v.ownBlock = some k → k ≠ g) : k36.R 36 w b (fun k => p k ∧ k ≠ g) v l:=by
  obtain ⟨h0,inner,hown,hr⟩:=h
  exact ⟨fun k hk => ⟨h0 k hk,hp k hk⟩,inner,hown,hr.imp_ (fun x cs hm => by obtain rfl:=k36_openM hm;exact k36_mkM _ _ _ _)⟩
theorem SE.far {Q N S : Nat} {w0 w : World} {x : Value} {l : List S36} {g q : Nat} {cs : Array Value} (h : SE Q N S w0 w l x) (hb : w.heap[g]? = some (.cells cs q (0,0))) (h1 : q ≠ Q) (h2 : q ≠ 36) (h0 : w0.heap.size ≤ g) (hN : N ≤ g) (j : Nat) (u : Value) : SE Q N S w0 (w.setCell ⟨g,j,none⟩ u) l x:=by
  obtain ⟨⟨v,hv⟩,hk,hB⟩:=h
  have hne : S ≠ g:=fun e => by
    rw [← e,hv.1] at hb
    injection hb with hb
    injection hb with _ hb
    exact h1 hb.symm
  refine ⟨⟨v,blk_far hv.1 (p:=⟨g,j,none⟩) hne u,hv.2.1,Kd.R_mono (Kd.R_far (p:=⟨g,j,none⟩) (R_not_ hv.2.2 (fun k hk e => (Kd.R_ne hv.2.2 hb h2.symm) (by have e2 : k = g:=e;rw [← e2];exact hk.symm))) (fun k hk => hk.2) u) (fun _ hk => hk.1)⟩,hk.set (p:=⟨g,j,none⟩) h0 u,hB.setCell (p:=⟨g,j,none⟩) hN u⟩
theorem st_below {Q N S : Nat} {w W : World} {v x : Value} {l : List S36} (h : StV Q w N S v x l) (hb : Below w.heap.size w W) : StV Q W N S v x l:=⟨blk_below h.1 hb,h.2.1,Kd.R_below h.2.2 hb⟩
theorem st_drew {Q N S : Nat} {w : World} {v x : Value} {l : List S36} (h : StV Q w N S v x l) : StV Q w.drew N S v x l:=⟨blk_drew h.1,h.2.1,Kd.R_drew h.2.2⟩
theorem st_far {Q N S g q : Nat} {w : World} {v x : Value} {l : List S36} {cs : Array Value} (h : StV Q w N S v x l) (hb : w.heap[g]? = some (.cells cs q (0,0))) (h1 : q ≠ Q) (h2 : q ≠ 36) (j : Nat) (u : Value) : StV Q (w.setCell ⟨g,j,none⟩ u) N S v x l:=by
  have hne : S ≠ g:=fun e => by
    rw [← e,h.1] at hb
    injection hb with hb
    injection hb with _ hb
    exact h1 hb.symm
  exact ⟨blk_far h.1 (p:=⟨g,j,none⟩) hne u,h.2.1,Kd.R_mono (Kd.R_far (p:=⟨g,j,none⟩) (R_not_ h.2.2 (fun k hk e => (Kd.R_ne h.2.2 hb h2.symm) (by have e2 : k = g:=e;rw [← e2];exact hk.symm))) (fun k hk => hk.2) u) (fun _ hk => hk.1)⟩
set_option maxHeartbeats 4000000 in
set_option maxRecDepth 100000 in
theorem impl_sheet_both.callsE {N S : Nat} {w0 w : World} {l : List S36} {full : Bool} (a b : Int) (r : Int × List S36 × Bool) (h : SE 79 N S w0 w l (.bool full)) (hl : l.length ≤ 400) (hr : putT l full ⟨7,if b < a then b else a,if a < b then b else a,0⟩ = r) :
    Calls Try.prog 80 #[.pointer (some ⟨S,0,none⟩),.int .i64 a,.int .i64 b] w fun e w' => e = .returned (.int .i64 r.1) ∧ SE 79 N S w0 w' r.2.1 (.bool r.2.2) ∧ KeepT 79 N w w':=by
  subst hr
  refine SE.call h (fun v hv => ?_)
  have HC:=Z_ (impl_sheet_put.callsV 402 S N v l full 7 (if b < a then b else a) (if a < b then b else a) 0 _ w hv hv.size (tix_f l hl ⟨7,if b < a then b else a,if a < b then b else a,0⟩))
  unfold putT
  have HV:=Z_ hv
  clear h hv
  generalize putP l full ⟨7,if b < a then b else a,if a < b then b else a,0⟩ (tix l ⟨7,if b < a then b else a,if a < b then b else a,0⟩ 0) = r at HC ⊢
  by_cases h1 : b < a
  · have h2 : ¬ a < b:=by omega
    simp only [if_pos h1,if_neg h2] at HC
    go_enter Try.func80,Try.ntmps80
    go_wp2_with (go_at_call 50;refine HC.out.mono ?_;rintro e w' ⟨rfl,hs⟩)
    go_ret
    exact ⟨rfl,se_of_V HV.out hs⟩
  · by_cases h2 : a < b
    · simp only [if_neg h1,if_pos h2] at HC
      go_enter Try.func80,Try.ntmps80
      go_wp2_with (go_at_call 50;refine HC.out.mono ?_;rintro e w' ⟨rfl,hs⟩)
      go_ret
      exact ⟨rfl,se_of_V HV.out hs⟩
    · simp only [if_neg h1,if_neg h2] at HC
      go_enter Try.func80,Try.ntmps80
      go_wp2_with (go_at_call 50;refine HC.out.mono ?_;rintro e w' ⟨rfl,hs⟩)
      go_ret
      exact ⟨rfl,se_of_V HV.out hs⟩
set_option maxHeartbeats 4000000 in
set_option maxRecDepth 100000 in
theorem impl_sheet_prf.callsV (S N : Nat) (v : Value) (l : List S36) (full : Bool) (a b : Int) (w : World) (hS : SheetV w N S v l full) (hN : N ≤ w.heap.size) (hl : l.length ≤ 400) :
    Calls Try.prog 81 #[.pointer (some ⟨S,0,none⟩),.int .i64 a,.int .i64 b] w fun e w' => e = .returned (.int .i64 (putT l full ⟨4,a,b,0⟩).1) ∧ (∃ v',SheetV w' N S v' (putT l full ⟨4,a,b,0⟩).2.1 (putT l full ⟨4,a,b,0⟩).2.2 ∧ ∀ k,v'.ownBlock = some k → v.ownBlock = some k ∨ w.heap.size ≤ k) ∧ KeepV w w' S v ∧ Below N w w':=by
  have HC:=Z_ (impl_sheet_put.callsV 402 S N v l full 4 a b 0 _ w hS hN (tix_f l hl ⟨4,a,b,0⟩))
  unfold putT
  clear hS hN
  generalize putP l full ⟨4,a,b,0⟩ (tix l ⟨4,a,b,0⟩ 0) = r at HC ⊢
  go_enter Try.func81,Try.ntmps81
  go_wp2_with (go_at_call 50;refine HC.out.mono ?_;rintro e w' ⟨rfl,hs,hk,hb⟩)
  go_ret
  exact ⟨rfl,hs,hk,hb⟩
theorem impl_sheet_prf.callsE {N S : Nat} {w0 w : World} {l : List S36} {full : Bool} (a b : Int) (r : Int × List S36 × Bool) (h : SE 79 N S w0 w l (.bool full)) (hl : l.length ≤ 400) (hr : putT l full ⟨4,a,b,0⟩ = r) :
    Calls Try.prog 81 #[.pointer (some ⟨S,0,none⟩),.int .i64 a,.int .i64 b] w fun e w' => e = .returned (.int .i64 r.1) ∧ SE 79 N S w0 w' r.2.1 (.bool r.2.2) ∧ KeepT 79 N w w':=by
  subst hr
  exact SE.call h (fun v hv => (impl_sheet_prf.callsV S N v l full a b w hv hv.size hl).mono (fun e w' ⟨h1,h2⟩ => ⟨h1,se_of_V hv h2⟩))
def keysT (l : List S36) (full : Bool) (ni nr own half sI sR : Int) : Option (Int × Int × Int × Int × List S36 × Bool) :=
  let r1:=putT l full ⟨3,ni,nr,0⟩
  let x:=(rd_T36 r1.2.1 half).f1
  let r2:=putT r1.2.1 r1.2.2 ⟨7,if x < own then x else own,if own < x then x else own,0⟩
  let r3:=putT r2.2.1 r2.2.2 ⟨4,r1.1,r2.1,0⟩
  let r4:=namesT r3.2.1 r3.2.2 [1,sI,sR]
  let r5:=putT r4.2.1 r4.2.2 ⟨4,r3.1,r4.1,0⟩
  let r6:=namesT r5.2.1 r5.2.2 [2,sI,sR]
  let r7:=putT r6.2.1 r6.2.2 ⟨4,r3.1,r6.1,0⟩
  let r8:=namesT r7.2.1 r7.2.2 [3,sI,sR]
  let r9:=putT r8.2.1 r8.2.2 ⟨4,r3.1,r8.1,0⟩
  if 0 ≤ half ∧ half < (r1.2.1.length : Int) then some (r3.1,r5.1,r7.1,r9.1,r9.2) else none
set_option maxHeartbeats 8000000 in
set_option maxRecDepth 100000 in
theorem impl_sheet_keys.callsE {N S : Nat} {w0 w : World} {l : List S36} {full : Bool} (ni nr own half sI sR : Int) (rr : Int × Int × Int × Int × List S36 × Bool) (h : SE 79 N S w0 w l (.bool full)) (hl : l.length ≤ 400) (hr : keysT l full ni nr own half sI sR = some rr) :
    Calls Try.prog 43 #[.pointer (some ⟨S,0,none⟩),.int .i64 ni,.int .i64 nr,.int .i64 own,.int .i64 half,.int .i64 sI,.int .i64 sR] w fun e w' => e = .returned (.agg #[.int .i64 rr.1,.int .i64 rr.2.1,.int .i64 rr.2.2.1,.int .i64 rr.2.2.2.1]) ∧ SE 79 N S w0 w' rr.2.2.2.2.1 (.bool rr.2.2.2.2.2) ∧ KeepT 79 N w w':=by
  refine SE.call h (fun v hv => ?_)
  have HS:=Z_ (SE.start hv)
  have HN:=Z_ hv.size
  have HL0:=Z_ hl
  unfold keysT at hr
  dsimp only at hr
  generalize h1 : putT l full ⟨3,ni,nr,0⟩ = r1 at hr
  have H1:=Z_ h1
  have HL1:=Z_ (h1 ▸ putT_len HL0.out : r1.2.1.length ≤ 400)
  by_cases hg : 0 ≤ half ∧ half < (r1.2.1.length : Int)
  rotate_left
  · rw [if_neg hg] at hr;cases hr
  rw [if_pos hg] at hr
  generalize hx : (rd_T36 r1.2.1 half).f1 = x at hr
  generalize h2 : putT r1.2.1 r1.2.2 ⟨7,if x < own then x else own,if own < x then x else own,0⟩ = r2 at hr
  have H2:=Z_ h2
  have HL2:=Z_ (h2 ▸ putT_len HL1.out : r2.2.1.length ≤ 400)
  clear h2
  generalize h3 : putT r2.2.1 r2.2.2 ⟨4,r1.1,r2.1,0⟩ = r3 at hr
  have H3:=Z_ h3
  have HL3:=Z_ (h3 ▸ putT_len HL2.out : r3.2.1.length ≤ 400)
  clear h3
  generalize h4 : namesT r3.2.1 r3.2.2 [1,sI,sR] = r4 at hr
  have H4:=Z_ h4
  have HL4:=Z_ (h4 ▸ namesT_len HL3.out : r4.2.1.length ≤ 400)
  clear h4
  generalize h5 : putT r4.2.1 r4.2.2 ⟨4,r3.1,r4.1,0⟩ = r5 at hr
  have H5:=Z_ h5
  have HL5:=Z_ (h5 ▸ putT_len HL4.out : r5.2.1.length ≤ 400)
  clear h5
  generalize h6 : namesT r5.2.1 r5.2.2 [2,sI,sR] = r6 at hr
  have H6:=Z_ h6
  have HL6:=Z_ (h6 ▸ namesT_len HL5.out : r6.2.1.length ≤ 400)
  clear h6
  generalize h7 : putT r6.2.1 r6.2.2 ⟨4,r3.1,r6.1,0⟩ = r7 at hr
  have H7:=Z_ h7
  have HL7:=Z_ (h7 ▸ putT_len HL6.out : r7.2.1.length ≤ 400)
  clear h7
  generalize h8 : namesT r7.2.1 r7.2.2 [3,sI,sR] = r8 at hr
  have H8:=Z_ h8
  have HL8:=Z_ (h8 ▸ namesT_len HL7.out : r8.2.1.length ≤ 400)
  clear h8
  generalize h9 : putT r8.2.1 r8.2.2 ⟨4,r3.1,r8.1,0⟩ = r9 at hr
  have H9:=Z_ h9
  have HL9:=Z_ (h9 ▸ putT_len HL8.out : r9.2.1.length ≤ 400)
  clear h9
  clear h1
  injection hr with hr
  subst hr
  have p1:=eq_true hg.1
  have p2:=eq_true hg.2
  have HG:=Z_ hg
  have HX:=Z_ hx
  clear h hv hg hx hl
  go_enter Try.func43,Try.ntmps43
  go_wp2_with (first | ((with_reducible refine gD_ 14 rfl ?_);refine bx_ #[.int .i64 0,.int .i64 0,.int .i64 0,.int .i64 0] 28 ?_;intro g14 hg w2 hbox hb;have BK:=Z_ hbox;have GE:=Z_ (show w.heap.size ≤ g14 by rw [hg];exact HS.out.2.1.1);replace HS:=Z_ (HS.out.below hb);clear hb hbox hg) | (go_at_call 79;refine (impl_sheet_pair.callsE ni nr r1 HS.out HL0.out H1.out).mono ?_;rintro e w9 ⟨rfl,hs,hk⟩;have k0_:=Z_ (blk_keepT BK.out hk (by decide) (by decide));clear HS BK;have BK:=k0_;have HS:=Z_ hs;clear hs hk k0_;obtain ⟨v9,hv9⟩:=HS.out.1;obtain ⟨A9,c9,e9⟩:=Kd.R_slice hv9.2.2;subst e9;obtain ⟨ad9,e9,hx0,hx1,hx2,hx3⟩:=at_T36 (Kd.R_reads' hv9.2.2).2.2 half HG.out.1 HG.out.2;subst e9;rw [HX.out] at hx1;have p0_ : w9.cell? ⟨S,0,none⟩ = some (.slice (some ad9) r1.2.1.length c9):=(blk_cell hv9.1 0).trans rfl;clear hx0 hx2 hx3 hv9) | (go_at_call 80;refine (impl_sheet_both.callsE own x r2 HS.out HL1.out H2.out).mono ?_;rintro e w9 ⟨rfl,hs,hk⟩;have k0_:=Z_ (blk_keepT BK.out hk (by decide) (by decide));clear HS BK;have BK:=k0_;have HS:=Z_ hs;clear hs hk k0_) | (go_at_call 81;refine (impl_sheet_prf.callsE r1.1 r2.1 r3 HS.out HL2.out H3.out).mono ?_;rintro e w9 ⟨rfl,hs,hk⟩;have k0_:=Z_ (blk_keepT BK.out hk (by decide) (by decide));clear HS BK;have BK:=k0_;have HS:=Z_ hs;clear hs hk k0_) | ((with_reducible refine gD_ 17 rfl ?_);refine bx_ #[.int .i64 0,.int .i64 0,.int .i64 0,.int .i64 0] 28 ?_;intro gl hg w3 hbox hb;have BL:=Z_ hbox;have GL:=Z_ (show w.heap.size ≤ gl by rw [hg];exact HS.out.2.1.1);have NE:=Z_ (show g14 ≠ gl by rw [hg];exact Nat.ne_of_lt (blk_lt BK.out));replace HS:=Z_ (HS.out.below hb);replace BK:=Z_ (blk_below BK.out hb);clear hb hbox hg;have y0_ : w3.cell? ⟨gl,0,none⟩ = some (.int .i64 0):=(blk_cell BL.out 0).trans rfl;have y1_ : w3.cell? ⟨gl,1,none⟩ = some (.int .i64 0):=(blk_cell BL.out 1).trans rfl;have y2_ : w3.cell? ⟨gl,2,none⟩ = some (.int .i64 0):=(blk_cell BL.out 2).trans rfl;have y3_ : w3.cell? ⟨gl,3,none⟩ = some (.int .i64 0):=(blk_cell BL.out 3).trans rfl;have z0_:=blk_frozen BL.out 0;have z1_:=blk_frozen BL.out 1;have z2_:=blk_frozen BL.out 2;have z3_:=blk_frozen BL.out 3))
  have n0_:=Z_ (SE.far (SE.far (SE.far (SE.far HS.out BL.out (by decide) (by decide) GL.out (Nat.le_trans HN.out GL.out) 0 (.int .i64 r3.1)) (blk_put BL.out 0 (.int .i64 r3.1) rfl) (by decide) (by decide) GL.out (Nat.le_trans HN.out GL.out) 1 (.int .i64 0)) (blk_put (blk_put BL.out 0 (.int .i64 r3.1) rfl) 1 (.int .i64 0) rfl) (by decide) (by decide) GL.out (Nat.le_trans HN.out GL.out) 2 (.int .i64 0)) (blk_put (blk_put (blk_put BL.out 0 (.int .i64 r3.1) rfl) 1 (.int .i64 0) rfl) 2 (.int .i64 0) rfl) (by decide) (by decide) GL.out (Nat.le_trans HN.out GL.out) 3 (.int .i64 0))
  have n1_ : Aside0 (((((w3.setCell ⟨gl,0,none⟩ (.int .i64 r3.1)).setCell ⟨gl,1,none⟩ (.int .i64 0)).setCell ⟨gl,2,none⟩ (.int .i64 0)).setCell ⟨gl,3,none⟩ (.int .i64 0)).heap[gl]? = some (.cells #[.int .i64 r3.1,.int .i64 0,.int .i64 0,.int .i64 0] 28 (0,0))):=Z_ (blk_put (blk_put (blk_put (blk_put BL.out 0 (.int .i64 r3.1) rfl) 1 (.int .i64 0) rfl) 2 (.int .i64 0) rfl) 3 (.int .i64 0) rfl)
  have n2_:=Z_ (blk_far (blk_far (blk_far (blk_far BK.out (p:=⟨gl,0,none⟩) NE.out (.int .i64 r3.1)) (p:=⟨gl,1,none⟩) NE.out (.int .i64 0)) (p:=⟨gl,2,none⟩) NE.out (.int .i64 0)) (p:=⟨gl,3,none⟩) NE.out (.int .i64 0))
  clear HS BL BK y0_ y1_ y2_ y3_ z0_ z1_ z2_ z3_
  (try clear p0_)
  (try clear hx1)
  have HS:=n0_;have BL:=n1_;have BK:=n2_
  clear n0_ n1_ n2_
  generalize hw4 : ((((w3.setCell ⟨gl,0,none⟩ (.int .i64 r3.1)).setCell ⟨gl,1,none⟩ (.int .i64 0)).setCell ⟨gl,2,none⟩ (.int .i64 0)).setCell ⟨gl,3,none⟩ (.int .i64 0)) = w4 at HS BL BK ⊢
  clear hw4
  have n0_:=Z_ (show SE 79 N S w w4.drew _ _ from ⟨HS.out.1,HS.out.2.1,HS.out.2.2.drew⟩)
  have n1_:=Z_ (blk_drew BL.out)
  have n2_:=Z_ (blk_drew BK.out)
  clear HS BL BK
  have HS:=n0_;have BL:=n1_;have BK:=n2_
  clear n0_ n1_ n2_
  refine start_ (n:=11) (S:=fun w' => w'.cell? ⟨gl,0,none⟩ = some (.int .i64 r3.1)) (ds:=[10]) (Bt 11 0) (by kernel_rfl) rfl rfl ((blk_cell BL.out 0).trans rfl) (fun hHeld => ?_)
  generalize hw5 : w4.drew = w5 at HS BL BK hHeld ⊢
  clear hw5
  refine pu_ 0 (some 38) (Bt 11 1) (by kernel_rfl) ?_
  refine pu_ 1 (some 39) (Bt 11 3) (by kernel_rfl) ?_
  refine take_ (i:=2) (N:=some 40) (v:=?_) (a':=?_) (Bt 11 7) rfl rfl (by kernel_rfl) (fun _ _ _ h => h) (Or.inl ⟨by rfl,?_⟩) hHeld ?_ ?_
  rotate_left
  · rintro w' s0
    go_simp
    with_reducible rfl
  rotate_left
  · simp only [Act.put,lA_,lZ_,lS_,i64_w,i32_w]
    rfl
  refine pu_ 3 (some 41) (Bt 11 15) (by kernel_rfl) ?_
  refine pu_ 4 (some 42) (Bt 11 31) (by kernel_rfl) ?_
  refine pu_ 5 (some 43) (Bt 11 63) (by kernel_rfl) ?_
  refine one_ (i:=6) (N:=some 44) (Bt 11 127) rfl rfl (by kernel_rfl) (by decide) (fun K hK => ?_)
  refine Kd.R_lit_step (Kd.int .i64) _ 2 ?hg (N:=44) ?hd (xs:=([1,sI,sR] : List Int)) (inner:=[.int .i64 1,.int .i64 sI,.int .i64 sR]) (ok:=fun _ => True) (okp:=fun _ => True) ?hr ?hp (fun _ hk => hk) trivial (Below.refl _ _) (Nat.le_refl _) (by simp) ?_;(case hd => rfl);(case hg => rfl);(case hr => first | (go_simp;done) | (go_simp;rfl));(case hp => exact reps_ints _)
  intro v6 w6 ho hb hg_ hn_
  clear hg_ hn_
  obtain ⟨AP,cP,eP⟩:=Kd.R_slice ho
  subst eP
  have HP:=Z_ ho
  have n0_:=Z_ (HS.out.below hb)
  have n1_:=Z_ (blk_below BL.out hb)
  have n2_:=Z_ (blk_below BK.out hb)
  clear HS BL BK hb ho
  have HS:=n0_;have BL:=n1_;have BK:=n2_
  clear n0_ n1_ n2_
  refine hK.out _ _ ((blk_cell BL.out 0).trans rfl) (fun hHeld => ?_)
  clear hK K
  refine norm_ (a':=?_) ?_ ?_
  rotate_left
  · show Act.put _ (some 44) _ = _
    simp only [Act.put,lA_,lZ_,lS_,i64_w,i32_w]
    rfl
  refine one_ (i:=7) (N:=some 45) (Bt 11 255) rfl rfl (by kernel_rfl) (by decide) (fun K hK => ?_)
  refine goes_ Try.func82 (by kernel_rfl) rfl #[.pointer (some ⟨S,0,none⟩),.slice AP 3 cP] (by rfl) rfl rfl (by (try simp only [List.map_toArray,List.map_cons,List.map_nil]);first | done | rfl) ?_
  refine (impl_sheet_names.callsE AP cP [1,sI,sR] 3 r4 HS.out HL3.out rfl (Kd.R_reads' HP.out).2.2 (Kd.R_reads' HP.out).2.1 (far_row HP.out (by decide) (by decide)) (by simp) H4.out).mono ?_
  rintro e w7 ⟨rfl,hs,hk⟩
  refine ⟨_,rfl,?_⟩
  have n0_:=Z_ (blk_keepT BL.out hk (by decide) (by decide))
  have n1_:=Z_ (blk_keepT BK.out hk (by decide) (by decide))
  clear HS BL BK
  have HS:=Z_ hs;have BL:=n0_;have BK:=n1_
  clear n0_ n1_ hs hk
  clear HP
  refine hK.out _ _ ((blk_cell BL.out 0).trans rfl) (fun hHeld => ?_)
  clear hK K
  refine norm_ (a':=?_) ?_ ?_
  rotate_left
  · show Act.put _ (some 45) _ = _
    simp only [Act.put,lA_,lZ_,lS_,i64_w,i32_w]
    rfl
  refine one_ (i:=8) (N:=some 46) (Bt 11 511) rfl rfl (by kernel_rfl) (by decide) (fun K hK => ?_)
  refine goes_ Try.func81 (by kernel_rfl) rfl #[.pointer (some ⟨S,0,none⟩),.int .i64 r3.1,.int .i64 r4.1] (by rfl) rfl rfl (by (try simp only [List.map_toArray,List.map_cons,List.map_nil]);first | done | rfl) ?_
  refine (impl_sheet_prf.callsE r3.1 r4.1 r5 HS.out HL4.out H5.out).mono ?_
  rintro e w8 ⟨rfl,hs,hk⟩
  refine ⟨_,rfl,?_⟩
  have n0_:=Z_ (blk_keepT BL.out hk (by decide) (by decide))
  have n1_:=Z_ (blk_keepT BK.out hk (by decide) (by decide))
  clear HS BL BK
  have HS:=Z_ hs;have BL:=n0_;have BK:=n1_
  clear n0_ n1_ hs hk
  refine hK.out _ _ ((blk_cell BL.out 0).trans rfl) (fun hHeld => ?_)
  clear hK K
  refine norm_ (a':=?_) ?_ ?_
  rotate_left
  · show Act.put _ (some 46) _ = _
    simp only [Act.put,lA_,lZ_,lS_,i64_w,i32_w]
    rfl
  refine pu_ 9 (some 47) (Bt 11 1023) (by kernel_rfl) ?_
  refine last_ (i:=10) (N:=none) (Bt 11 2047) rfl rfl (by kernel_rfl) (by decide) (fun K hK => ?_)
  have y_ : w8.cell? ⟨gl,1,none⟩ = some (.int .i64 0):=(blk_cell BL.out 1).trans rfl
  have z_:=blk_frozen BL.out 1
  refine skip_ (w1:=?_) (by rfl) rfl ?_ ?_
  rotate_left
  · go_simp
    rfl
  refine hK.out _ _ ?_
  clear hK K
  refine done_ (by kernel_rfl) ?_
  have n0_:=Z_ (SE.far HS.out BL.out (by decide) (by decide) GL.out (Nat.le_trans HN.out GL.out) 1 (.int .i64 r5.1))
  have n1_ : Aside0 ((w8.setCell ⟨gl,1,none⟩ (.int .i64 r5.1)).heap[gl]? = some (.cells #[.int .i64 r3.1,.int .i64 r5.1,.int .i64 0,.int .i64 0] 28 (0,0))):=Z_ (blk_put BL.out 1 (.int .i64 r5.1) rfl)
  have n2_:=Z_ (blk_far BK.out (p:=⟨gl,1,none⟩) NE.out (.int .i64 r5.1))
  clear HS BL BK y_ z_ hHeld
  have HS:=n0_;have BL:=n1_;have BK:=n2_
  clear n0_ n1_ n2_
  generalize hw9 : w8.setCell ⟨gl,1,none⟩ (.int .i64 r5.1) = w4 at HS BL BK ⊢
  clear hw9
  go_wp2_with fail
  have n0_:=Z_ (show SE 79 N S w w4.drew _ _ from ⟨HS.out.1,HS.out.2.1,HS.out.2.2.drew⟩)
  have n1_:=Z_ (blk_drew BL.out)
  have n2_:=Z_ (blk_drew BK.out)
  clear HS BL BK
  have HS:=n0_;have BL:=n1_;have BK:=n2_
  clear n0_ n1_ n2_
  refine start_ (n:=11) (S:=fun w' => w'.cell? ⟨gl,0,none⟩ = some (.int .i64 r3.1)) (ds:=[10]) (Bt 11 0) (by kernel_rfl) rfl rfl ((blk_cell BL.out 0).trans rfl) (fun hHeld => ?_)
  generalize hw5 : w4.drew = w5 at HS BL BK hHeld ⊢
  clear hw5
  refine pu_ 0 (some 48) (Bt 11 1) (by kernel_rfl) ?_
  refine pu_ 1 (some 49) (Bt 11 3) (by kernel_rfl) ?_
  refine take_ (i:=2) (N:=some 50) (v:=?_) (a':=?_) (Bt 11 7) rfl rfl (by kernel_rfl) (fun _ _ _ h => h) (Or.inl ⟨by rfl,?_⟩) hHeld ?_ ?_
  rotate_left
  · rintro w' s0
    go_simp
    with_reducible rfl
  rotate_left
  · simp only [Act.put,lA_,lZ_,lS_,i64_w,i32_w]
    rfl
  refine pu_ 3 (some 51) (Bt 11 15) (by kernel_rfl) ?_
  refine pu_ 4 (some 52) (Bt 11 31) (by kernel_rfl) ?_
  refine pu_ 5 (some 53) (Bt 11 63) (by kernel_rfl) ?_
  refine one_ (i:=6) (N:=some 54) (Bt 11 127) rfl rfl (by kernel_rfl) (by decide) (fun K hK => ?_)
  refine Kd.R_lit_step (Kd.int .i64) _ 2 ?hg (N:=54) ?hd (xs:=([2,sI,sR] : List Int)) (inner:=[.int .i64 2,.int .i64 sI,.int .i64 sR]) (ok:=fun _ => True) (okp:=fun _ => True) ?hr ?hp (fun _ hk => hk) trivial (Below.refl _ _) (Nat.le_refl _) (by simp) ?_;(case hd => rfl);(case hg => rfl);(case hr => first | (go_simp;done) | (go_simp;rfl));(case hp => exact reps_ints _)
  intro v6 w6 ho hb hg_ hn_
  clear hg_ hn_
  obtain ⟨AP,cP,eP⟩:=Kd.R_slice ho
  subst eP
  have HP:=Z_ ho
  have n0_:=Z_ (HS.out.below hb)
  have n1_:=Z_ (blk_below BL.out hb)
  have n2_:=Z_ (blk_below BK.out hb)
  clear HS BL BK hb ho
  have HS:=n0_;have BL:=n1_;have BK:=n2_
  clear n0_ n1_ n2_
  refine hK.out _ _ ((blk_cell BL.out 0).trans rfl) (fun hHeld => ?_)
  clear hK K
  refine norm_ (a':=?_) ?_ ?_
  rotate_left
  · show Act.put _ (some 54) _ = _
    simp only [Act.put,lA_,lZ_,lS_,i64_w,i32_w]
    rfl
  refine one_ (i:=7) (N:=some 55) (Bt 11 255) rfl rfl (by kernel_rfl) (by decide) (fun K hK => ?_)
  refine goes_ Try.func82 (by kernel_rfl) rfl #[.pointer (some ⟨S,0,none⟩),.slice AP 3 cP] (by rfl) rfl rfl (by (try simp only [List.map_toArray,List.map_cons,List.map_nil]);first | done | rfl) ?_
  refine (impl_sheet_names.callsE AP cP [2,sI,sR] 3 r6 HS.out HL5.out rfl (Kd.R_reads' HP.out).2.2 (Kd.R_reads' HP.out).2.1 (far_row HP.out (by decide) (by decide)) (by simp) H6.out).mono ?_
  rintro e w7 ⟨rfl,hs,hk⟩
  refine ⟨_,rfl,?_⟩
  have n0_:=Z_ (blk_keepT BL.out hk (by decide) (by decide))
  have n1_:=Z_ (blk_keepT BK.out hk (by decide) (by decide))
  clear HS BL BK
  have HS:=Z_ hs;have BL:=n0_;have BK:=n1_
  clear n0_ n1_ hs hk
  clear HP
  refine hK.out _ _ ((blk_cell BL.out 0).trans rfl) (fun hHeld => ?_)
  clear hK K
  refine norm_ (a':=?_) ?_ ?_
  rotate_left
  · show Act.put _ (some 55) _ = _
    simp only [Act.put,lA_,lZ_,lS_,i64_w,i32_w]
    rfl
  refine one_ (i:=8) (N:=some 56) (Bt 11 511) rfl rfl (by kernel_rfl) (by decide) (fun K hK => ?_)
  refine goes_ Try.func81 (by kernel_rfl) rfl #[.pointer (some ⟨S,0,none⟩),.int .i64 r3.1,.int .i64 r6.1] (by rfl) rfl rfl (by (try simp only [List.map_toArray,List.map_cons,List.map_nil]);first | done | rfl) ?_
  refine (impl_sheet_prf.callsE r3.1 r6.1 r7 HS.out HL6.out H7.out).mono ?_
  rintro e w8 ⟨rfl,hs,hk⟩
  refine ⟨_,rfl,?_⟩
  have n0_:=Z_ (blk_keepT BL.out hk (by decide) (by decide))
  have n1_:=Z_ (blk_keepT BK.out hk (by decide) (by decide))
  clear HS BL BK
  have HS:=Z_ hs;have BL:=n0_;have BK:=n1_
  clear n0_ n1_ hs hk
  refine hK.out _ _ ((blk_cell BL.out 0).trans rfl) (fun hHeld => ?_)
  clear hK K
  refine norm_ (a':=?_) ?_ ?_
  rotate_left
  · show Act.put _ (some 56) _ = _
    simp only [Act.put,lA_,lZ_,lS_,i64_w,i32_w]
    rfl
  refine pu_ 9 (some 57) (Bt 11 1023) (by kernel_rfl) ?_
  refine last_ (i:=10) (N:=none) (Bt 11 2047) rfl rfl (by kernel_rfl) (by decide) (fun K hK => ?_)
  have y_ : w8.cell? ⟨gl,2,none⟩ = some (.int .i64 0):=(blk_cell BL.out 2).trans rfl
  have z_:=blk_frozen BL.out 2
  refine skip_ (w1:=?_) (by rfl) rfl ?_ ?_
  rotate_left
  · go_simp
    rfl
  refine hK.out _ _ ?_
  clear hK K
  refine done_ (by kernel_rfl) ?_
  have n0_:=Z_ (SE.far HS.out BL.out (by decide) (by decide) GL.out (Nat.le_trans HN.out GL.out) 2 (.int .i64 r7.1))
  have n1_ : Aside0 ((w8.setCell ⟨gl,2,none⟩ (.int .i64 r7.1)).heap[gl]? = some (.cells #[.int .i64 r3.1,.int .i64 r5.1,.int .i64 r7.1,.int .i64 0] 28 (0,0))):=Z_ (blk_put BL.out 2 (.int .i64 r7.1) rfl)
  have n2_:=Z_ (blk_far BK.out (p:=⟨gl,2,none⟩) NE.out (.int .i64 r7.1))
  clear HS BL BK y_ z_ hHeld
  have HS:=n0_;have BL:=n1_;have BK:=n2_
  clear n0_ n1_ n2_
  generalize hw9 : w8.setCell ⟨gl,2,none⟩ (.int .i64 r7.1) = w4 at HS BL BK ⊢
  clear hw9
  go_wp2_with fail
  have n0_:=Z_ (show SE 79 N S w w4.drew _ _ from ⟨HS.out.1,HS.out.2.1,HS.out.2.2.drew⟩)
  have n1_:=Z_ (blk_drew BL.out)
  have n2_:=Z_ (blk_drew BK.out)
  clear HS BL BK
  have HS:=n0_;have BL:=n1_;have BK:=n2_
  clear n0_ n1_ n2_
  refine start_ (n:=11) (S:=fun w' => w'.cell? ⟨gl,0,none⟩ = some (.int .i64 r3.1)) (ds:=[10]) (Bt 11 0) (by kernel_rfl) rfl rfl ((blk_cell BL.out 0).trans rfl) (fun hHeld => ?_)
  generalize hw5 : w4.drew = w5 at HS BL BK hHeld ⊢
  clear hw5
  refine pu_ 0 (some 58) (Bt 11 1) (by kernel_rfl) ?_
  refine pu_ 1 (some 59) (Bt 11 3) (by kernel_rfl) ?_
  refine take_ (i:=2) (N:=some 60) (v:=?_) (a':=?_) (Bt 11 7) rfl rfl (by kernel_rfl) (fun _ _ _ h => h) (Or.inl ⟨by rfl,?_⟩) hHeld ?_ ?_
  rotate_left
  · rintro w' s0
    go_simp
    with_reducible rfl
  rotate_left
  · simp only [Act.put,lA_,lZ_,lS_,i64_w,i32_w]
    rfl
  refine pu_ 3 (some 61) (Bt 11 15) (by kernel_rfl) ?_
  refine pu_ 4 (some 62) (Bt 11 31) (by kernel_rfl) ?_
  refine pu_ 5 (some 63) (Bt 11 63) (by kernel_rfl) ?_
  refine one_ (i:=6) (N:=some 64) (Bt 11 127) rfl rfl (by kernel_rfl) (by decide) (fun K hK => ?_)
  refine Kd.R_lit_step (Kd.int .i64) _ 2 ?hg (N:=64) ?hd (xs:=([3,sI,sR] : List Int)) (inner:=[.int .i64 3,.int .i64 sI,.int .i64 sR]) (ok:=fun _ => True) (okp:=fun _ => True) ?hr ?hp (fun _ hk => hk) trivial (Below.refl _ _) (Nat.le_refl _) (by simp) ?_;(case hd => rfl);(case hg => rfl);(case hr => first | (go_simp;done) | (go_simp;rfl));(case hp => exact reps_ints _)
  intro v6 w6 ho hb hg_ hn_
  clear hg_ hn_
  obtain ⟨AP,cP,eP⟩:=Kd.R_slice ho
  subst eP
  have HP:=Z_ ho
  have n0_:=Z_ (HS.out.below hb)
  have n1_:=Z_ (blk_below BL.out hb)
  have n2_:=Z_ (blk_below BK.out hb)
  clear HS BL BK hb ho
  have HS:=n0_;have BL:=n1_;have BK:=n2_
  clear n0_ n1_ n2_
  refine hK.out _ _ ((blk_cell BL.out 0).trans rfl) (fun hHeld => ?_)
  clear hK K
  refine norm_ (a':=?_) ?_ ?_
  rotate_left
  · show Act.put _ (some 64) _ = _
    simp only [Act.put,lA_,lZ_,lS_,i64_w,i32_w]
    rfl
  refine one_ (i:=7) (N:=some 65) (Bt 11 255) rfl rfl (by kernel_rfl) (by decide) (fun K hK => ?_)
  refine goes_ Try.func82 (by kernel_rfl) rfl #[.pointer (some ⟨S,0,none⟩),.slice AP 3 cP] (by rfl) rfl rfl (by (try simp only [List.map_toArray,List.map_cons,List.map_nil]);first | done | rfl) ?_
  refine (impl_sheet_names.callsE AP cP [3,sI,sR] 3 r8 HS.out HL7.out rfl (Kd.R_reads' HP.out).2.2 (Kd.R_reads' HP.out).2.1 (far_row HP.out (by decide) (by decide)) (by simp) H8.out).mono ?_
  rintro e w7 ⟨rfl,hs,hk⟩
  refine ⟨_,rfl,?_⟩
  have n0_:=Z_ (blk_keepT BL.out hk (by decide) (by decide))
  have n1_:=Z_ (blk_keepT BK.out hk (by decide) (by decide))
  clear HS BL BK
  have HS:=Z_ hs;have BL:=n0_;have BK:=n1_
  clear n0_ n1_ hs hk
  clear HP
  refine hK.out _ _ ((blk_cell BL.out 0).trans rfl) (fun hHeld => ?_)
  clear hK K
  refine norm_ (a':=?_) ?_ ?_
  rotate_left
  · show Act.put _ (some 65) _ = _
    simp only [Act.put,lA_,lZ_,lS_,i64_w,i32_w]
    rfl
  refine one_ (i:=8) (N:=some 66) (Bt 11 511) rfl rfl (by kernel_rfl) (by decide) (fun K hK => ?_)
  refine goes_ Try.func81 (by kernel_rfl) rfl #[.pointer (some ⟨S,0,none⟩),.int .i64 r3.1,.int .i64 r8.1] (by rfl) rfl rfl (by (try simp only [List.map_toArray,List.map_cons,List.map_nil]);first | done | rfl) ?_
  refine (impl_sheet_prf.callsE r3.1 r8.1 r9 HS.out HL8.out H9.out).mono ?_
  rintro e w8 ⟨rfl,hs,hk⟩
  refine ⟨_,rfl,?_⟩
  have n0_:=Z_ (blk_keepT BL.out hk (by decide) (by decide))
  have n1_:=Z_ (blk_keepT BK.out hk (by decide) (by decide))
  clear HS BL BK
  have HS:=Z_ hs;have BL:=n0_;have BK:=n1_
  clear n0_ n1_ hs hk
  refine hK.out _ _ ((blk_cell BL.out 0).trans rfl) (fun hHeld => ?_)
  clear hK K
  refine norm_ (a':=?_) ?_ ?_
  rotate_left
  · show Act.put _ (some 66) _ = _
    simp only [Act.put,lA_,lZ_,lS_,i64_w,i32_w]
    rfl
  refine pu_ 9 (some 67) (Bt 11 1023) (by kernel_rfl) ?_
  refine last_ (i:=10) (N:=none) (Bt 11 2047) rfl rfl (by kernel_rfl) (by decide) (fun K hK => ?_)
  have y_ : w8.cell? ⟨gl,3,none⟩ = some (.int .i64 0):=(blk_cell BL.out 3).trans rfl
  have z_:=blk_frozen BL.out 3
  refine skip_ (w1:=?_) (by rfl) rfl ?_ ?_
  rotate_left
  · go_simp
    rfl
  refine hK.out _ _ ?_
  clear hK K
  refine done_ (by kernel_rfl) ?_
  have n0_:=Z_ (SE.far HS.out BL.out (by decide) (by decide) GL.out (Nat.le_trans HN.out GL.out) 3 (.int .i64 r9.1))
  have n1_ : Aside0 ((w8.setCell ⟨gl,3,none⟩ (.int .i64 r9.1)).heap[gl]? = some (.cells #[.int .i64 r3.1,.int .i64 r5.1,.int .i64 r7.1,.int .i64 r9.1] 28 (0,0))):=Z_ (blk_put BL.out 3 (.int .i64 r9.1) rfl)
  have n2_:=Z_ (blk_far BK.out (p:=⟨gl,3,none⟩) NE.out (.int .i64 r9.1))
  clear HS BL BK y_ z_ hHeld
  have HS:=n0_;have BL:=n1_;have BK:=n2_
  clear n0_ n1_ n2_
  generalize hw9 : w8.setCell ⟨gl,3,none⟩ (.int .i64 r9.1) = w9 at HS BL BK ⊢
  clear hw9
  have y0_ : w9.cell? ⟨gl,0,none⟩ = some (.int .i64 r3.1):=(blk_cell BL.out 0).trans rfl;have y1_ : w9.cell? ⟨gl,1,none⟩ = some (.int .i64 r5.1):=(blk_cell BL.out 1).trans rfl;have y2_ : w9.cell? ⟨gl,2,none⟩ = some (.int .i64 r7.1):=(blk_cell BL.out 2).trans rfl;have y3_ : w9.cell? ⟨gl,3,none⟩ = some (.int .i64 r9.1):=(blk_cell BL.out 3).trans rfl
  have x0_ : w9.cell? ⟨g14,0,none⟩ = some (.int .i64 0):=(blk_cell BK.out 0).trans rfl;have x1_ : w9.cell? ⟨g14,1,none⟩ = some (.int .i64 0):=(blk_cell BK.out 1).trans rfl;have x2_ : w9.cell? ⟨g14,2,none⟩ = some (.int .i64 0):=(blk_cell BK.out 2).trans rfl;have x3_ : w9.cell? ⟨g14,3,none⟩ = some (.int .i64 0):=(blk_cell BK.out 3).trans rfl
  have z0_:=blk_frozen BK.out 0;have z1_:=blk_frozen BK.out 1;have z2_:=blk_frozen BK.out 2;have z3_:=blk_frozen BK.out 3
  have ne1_:=NE.out
  have ne2_:=NE.out.symm
  go_wp2
  refine bodyPost_ret (results_cell_row rfl _ _ g14 28 #[.int .i64 r3.1,.int .i64 r5.1,.int .i64 r7.1,.int .i64 r9.1] (0,0) _ rfl (blk_put (blk_put (blk_put (blk_put BK.out 0 _ rfl) 1 _ rfl) 2 _ rfl) 3 _ rfl) Try.underlying28 rfl (by kernel_rfl)) rfl ?_
  exact ⟨rfl,(SE.far (SE.far (SE.far (SE.far HS.out BK.out (by decide) (by decide) GE.out (Nat.le_trans HN.out GE.out) 0 _) (blk_put BK.out 0 _ rfl) (by decide) (by decide) GE.out (Nat.le_trans HN.out GE.out) 1 _) (blk_put (blk_put BK.out 0 _ rfl) 1 _ rfl) (by decide) (by decide) GE.out (Nat.le_trans HN.out GE.out) 2 _) (blk_put (blk_put (blk_put BK.out 0 _ rfl) 1 _ rfl) 2 _ rfl) (by decide) (by decide) GE.out (Nat.le_trans HN.out GE.out) 3 _)⟩
end Go.Proofs.Ytpabeajjbifjdaa.G
namespace Go.Proofs.Ytpabeajjbifjdaa.G
open Go.RowKit Go.Proofs.YtpabeajjbifjdaaW.PrintWords Go.Proofs.YtpabeajjbifjdaaW.PrintLast Go.Proofs.YtpabeajjbifjdaaW.PrintMore
set_option linter.unusedVariables false
set_option linter.unusedSimpArgs false
theorem rb_put {W W' : World} {base g n c : Nat} {ok : Nat → Prop} {xs : List Bool} {b : Bool} (h : Kd.bool.R 4 W base ok (.slice (some ⟨g, 0, none⟩) n c) xs) (i : Nat) (hw : W' = W.setCell ⟨g, i, none⟩ (.bool b)) : Kd.bool.R 4 W' base ok (.slice (some ⟨g, 0, none⟩) n c) (xs.set i b) ∧ W.grownBy W' (some g) := by
  subst hw
  exact Kd.R_putg h (i : Int) b
theorem rb_get {W : World} {base g n c : Nat} {ok : Nat → Prop} {xs : List Bool} (h : Kd.bool.R 4 W base ok (.slice (some ⟨g, 0, none⟩) n c) xs) (i : Nat) (hi : i < n) : W.cell? ⟨g, i, none⟩ = some (.bool (xs.getD i false)) ∧ W.frozen? ⟨g, i, none⟩ = false := Kd.R_celln false h (i : Int) (by omega) (by omega)
theorem R_set4 {α : Type} {d : Kd α} {e base g t : Nat} {ok : Nat → Prop} {W : World} {v a0 a1 a2 a3 : Value} {xs : List α} {cs : Array Value} (h : d.R e W base ok v xs) (hb : W.heap[g]? = some (.cells cs t (0, 0))) (ht : ∀ q, q ∈ e :: d.E → q ≠ t) : d.R e ((((W.setCell ⟨g, 0, none⟩ a0).setCell ⟨g, 1, none⟩ a1).setCell ⟨g, 2, none⟩ a2).setCell ⟨g, 3, none⟩ a3) base ok v xs :=
  Kd.R_mono (Kd.R_far (p := ⟨g, 3, none⟩) (Kd.R_far (p := ⟨g, 2, none⟩) (Kd.R_far (p := ⟨g, 1, none⟩) (Kd.R_far (p := ⟨g, 0, none⟩) (Kd.R_types h hb ht) (fun _ hk => hk.2) a0) (fun _ hk => hk.2) a1) (fun _ hk => hk.2) a2) (fun _ hk => hk.2) a3) (fun _ hk => hk.1)
theorem bc4H {w : World} {g : Nat} {t : TypeId} {c0 c1 c2 c3 : Value} (h : w.heap[g]? = some (.cells #[c0, c1, c2, c3] t (0, 0))) : w.cell? ⟨g, 0, none⟩ = some c0 ∧ w.cell? ⟨g, 1, none⟩ = some c1 ∧ w.cell? ⟨g, 2, none⟩ = some c2 ∧ w.cell? ⟨g, 3, none⟩ = some c3 ∧ w.frozen? ⟨g, 0, none⟩ = false ∧ w.frozen? ⟨g, 1, none⟩ = false ∧ w.frozen? ⟨g, 2, none⟩ = false ∧ w.frozen? ⟨g, 3, none⟩ = false := ⟨(blk_cell h 0).trans rfl, (blk_cell h 1).trans rfl, (blk_cell h 2).trans rfl, (blk_cell h 3).trans rfl, blk_frozen h 0, blk_frozen h 1, blk_frozen h 2, blk_frozen h 3⟩
theorem w64k {n : Int} (h0 : -9223372036854775808 ≤ n) (h1 : n ≤ 9223372036854775807) : wrap64 n = n := by unfold wrap64; omega
theorem getD_setH {O : List Bool} {k : Nat} (b : Bool) (h : k < O.length) : (O.set k b).getD k false = b := by simp [List.getD, h]
theorem stH {P : Program} {ops : Array Oper} {rest : List Oper} {o : Oper} {a : Act} {Q : Exit → Act → World → Prop} {W w1 : World} {p : Tmp} {v : Operand} (t : TypeId) (h : ∀ w', w' = w1 → wpList P ops Q rest a w') (hgd : o.guard = none := by rfl) (ho : o.op = .store t (.tmp p) v := by rfl) (hN : o.dst = none := by rfl) (hrun : (execOp a.eval o).run P W = .ok .skip w1 := by first | (go_simp; done) | (go_simp; rfl)) : wpList P ops Q (o :: rest) a W := store_event hgd ho hN hrun h
theorem wf_of_place {x : Int} {n : Nat} (h0 : 0 ≤ x) (h1 : x < (n : Int)) (hn : n ≤ 400) : (Lit.int .i64 x).wf = true := by simp [Lit.wf, IntKind.min, IntKind.max, IntKind.signed, IntKind.bits]; omega
theorem eqTH {a b : Int} (h : a = b) : (a == b) = true ∧ (a != b) = false ∧ decide (a = b) = true := by simp [h]
theorem eqFH {a b : Int} (h : ¬ a = b) : (a == b) = false ∧ (a != b) = true ∧ decide (a = b) = false := by simp [h]
end Go.Proofs.Ytpabeajjbifjdaa.G
namespace Go.Proofs.Ytpabeajjbifjdaa.G
open Go.RowKit Go.Proofs.YtpabeajjbifjdaaW.PrintWords Go.Proofs.YtpabeajjbifjdaaW.PrintLast Go.Proofs.YtpabeajjbifjdaaW.PrintMore
attribute [local go_sem] max2_int min2_int max_two min_two max_three min_three max_four min_four   -- for this text's walks alone
set_option linter.unusedVariables false
set_option linter.unusedSimpArgs false
section
theorem int_kdH : Go.Maps.Keyed Try.prog 2:=Go.Maps.int_keyed Try.underlying2
def Mbd (D : DataW Unit) (mp : Int → Bool) : Prop:=∀ y : Int,(Lit.int .i64 y).wf = true → D.atKey (.int .i64 y) (.lit (.bool false)) = .lit (.bool (mp y))
def bput (mp : Int → Bool) (k : Int) : Int → Bool:=fun y => if y = k then true else mp y
theorem mbd_nil : Mbd (.map []) (fun _ => false):=fun y _ => rfl
theorem mbd_put {D : DataW Unit} {mp : Int → Bool} {k : Int} (h : Mbd D mp) (hD : Go.Maps.IsMap D) (hk : (Lit.int .i64 k).wf = true) : Mbd (D.put (.int .i64 k) (.lit (.bool true))) (bput mp k):=by
  intro y hy
  unfold bput
  by_cases e : y = k
  · subst e
    rw [if_pos rfl,Go.Maps.atKey_put_same hD (int_kdH.key (Go.Maps.keyOf_int_mk Try.underlying2 hy))]
  · rw [if_neg e,Go.Maps.atKey_put_other (fun e' => e (by injection e'))]
    exact h y hy
theorem own_mapH_is {w : World} {P : Program} {k e : TypeId} {b n : Nat} {D : DataW Unit} (h : w.ownsMap P k (plainElem P e) b n D) : ∃ es c,w.heap[b]? = some (.map es c):=by
  obtain ⟨es,clock,hb,_⟩:=h
  exact ⟨es,clock,hb⟩
theorem R_grown_mapH {α : Type} {d : Kd α} {e base B : Nat} {ok : Nat → Prop} {W w1 : World} {v : Value} {xs : List α} (h : d.R e W base ok v xs) (hg : W.grownBy w1 (some B)) (hm : ∃ es c,W.heap[B]? = some (.map es c)) : d.R e w1 base ok v xs :=
  Kd.R_mono (Kd.R_move (Kd.R_bound h) (fun k hk => hg.block k hk.2.2.1 (fun e => by
    obtain ⟨_,_,_,q,_,cells,hc⟩:=hk
    obtain ⟨es,c,hm⟩:=hm
    injection e with e
    subst e
    rw [hm] at hc
    cases hc))) (fun _ hk => hk.1)
theorem own_map_setH {w : World} {P : Program} {k e : TypeId} {b n : Nat} {D : DataW Unit} (h : w.ownsMap P k (plainElem P e) b n D) {p : Addr} {u : Value} (hne : b ≠ p.block) : (w.setCell p u).ownsMap P k (plainElem P e) b n D:=by
  obtain ⟨es,clock,hb,r⟩:=h
  exact ⟨es,clock,(Below.heap_setCell w p u b hne).trans hb,r⟩
theorem own_map_belowH {w w' : World} {P : Program} {k e : TypeId} {b n : Nat} {D : DataW Unit} (h : w.ownsMap P k (plainElem P e) b n D) (hb : Below w.heap.size w w') : w'.ownsMap P k (plainElem P e) b n D:=h.kept (grown_of_below hb none) (by simp)
theorem plainElem_boolH {H : Type} {P : Program} {e : TypeId} (he : P.underlying e = some .bool) {v : Value} {z : DataW H × List MemPlace} (h : plainElem P e v = some z) : ∃ a,v = .bool a ∧ z = (.lit (.bool a),[]):=by
  unfold plainElem at h
  rw [he] at h
  cases v <;> simp at h
  exact ⟨_,rfl,h.symm⟩
set_option maxRecDepth 100000 in
theorem mlk {W : World} {B n : Nat} {D : DataW Unit} {mp : Int → Bool} (h : W.ownsMap Try.prog 2 (plainElem Try.prog 4) B n D) (hm : Mbd D mp) (y : Int) (hy : (Lit.int .i64 y).wf = true) :
    (Instr.lookup 131 (.map (some B)) (.int .i64 y) false).run Try.prog W = .ok (.bool (mp y)) W:=by
  obtain ⟨v,ps,hrun,hv⟩:=h.lookup int_kdH Try.underlying131 (show (zeroValue 4).run Try.prog W = .ok (.bool false) W from rfl) (plainElem_bool Try.underlying4 false) (Go.Maps.keyOf_int_mk Try.underlying2 hy)
  obtain ⟨c,rfl,hc⟩:=plainElem_boolH Try.underlying4 hv
  simp only [Prod.mk.injEq] at hc
  rw [hm y hy] at hc
  have e : mp y = c:=by
    have:=hc.1
    injection this with h1
    injection h1
  rw [hrun,e]
end
def mkHs (l : List S36) (kn : List Bool) : Nat → Int → Bool
  | 0 => fun _ => false
  | i + 1 => if (rd_T36 l (i : Int)).f0 = 6 ∧ kn.getD i false = true then bput (mkHs l kn i) (rd_T36 l (i : Int)).f1 else mkHs l kn i
def ob (out : List Bool) (x : Int) : Bool:=out.getD x.toNat false
def mkB (l : List S36) (H : Int → Bool) (i : Nat) (out : List Bool) : Bool :=
  let t:=rd_T36 l (i : Int)
  if t.f0 = 1 then true else if t.f0 = 3 ∨ t.f0 = 4 ∨ t.f0 = 5 then (ob out t.f1 && ob out t.f2) else if t.f0 = 6 then ob out t.f1 else if t.f0 = 7 then ((ob out t.f1 && (ob out t.f2 || H t.f2)) || (ob out t.f2 && H t.f1)) else out.getD i false
def mkO (l : List S36) (kn : List Bool) (H : Int → Bool) : Nat → List Bool
  | 0 => List.replicate l.length false
  | i + 1 => (mkO l kn H i).set i (mkB l H i (mkO l kn H i) || kn.getD i false)
theorem mkO_length (l : List S36) (kn : List Bool) (H : Int → Bool) : ∀ i,(mkO l kn H i).length = l.length
  | 0 => by simp [mkO]
  | i + 1 => by rw [mkO,List.length_set,mkO_length l kn H i]
def mkIn (n : Nat) (t : S36) : Bool:=(decide (t.f0 = 1 ∨ t.f0 = 2)) || (decide (0 ≤ t.f1 ∧ t.f1 < (n : Int)) && (decide (t.f0 = 6) || decide (0 ≤ t.f2 ∧ t.f2 < (n : Int))))
def mkOk (l : List S36) : Bool:=(List.range l.length).all fun (i : Nat) => mkIn l.length (rd_T36 l (i : Int))
theorem mkOk_at {l : List S36} (h : mkOk l = true) {i : Nat} (hi : i < l.length) : mkIn l.length (rd_T36 l (i : Int)) = true:=List.all_eq_true.1 h i (List.mem_range.2 hi)
def impl_makeable.f (l0 : List S36) (l1 : List Bool) : Option (List Bool):=if l1.length = l0.length ∧ mkOk l0 = true ∧ l0.length ≤ 400 then some (mkO l0 l1 (mkHs l0 l1 l0.length) l0.length) else none
set_option maxHeartbeats 8000000 in
set_option maxRecDepth 100000 in
theorem impl_makeable.calls (A0 : Option Addr) (c0 : Nat) (l0 : List S36) (A1 : Option Addr) (c1 : Nat) (l1 : List Bool) (r : List Bool) (w : World) (hr0 : Kd.C k36 w A0 l0.length l0) (hc0 : l0.length ≤ c0) (hr1 : Kd.C Kd.bool w A1 l1.length l1) (hc1 : l1.length ≤ c1) (h : impl_makeable.f l0 l1 = some r) :
    Calls Try.prog 55 #[.slice A0 l0.length c0,.slice A1 l1.length c1] w fun e w' => ∃ v : Value,e = .returned v ∧ Kd.bool.R 4 w' w.heap.size (fun _ => True) v r ∧ Below w.heap.size w w':=by
 unfold impl_makeable.f at h
 split at h
 rotate_left
 ·cases h
 rename_i hg
 obtain ⟨hkl,hok,hl4⟩:=hg
 obtain ⟨H,hH⟩ : ∃ H,H = mkHs l0 l1 l0.length:=⟨_,rfl⟩
 rw [← hH] at h
 obtain rfl:=Option.some.inj h
 clear h
 have HH:=Z_ hH
 have a5:=Z_ hr0
 have a6:=Z_ hr1
 have HB:=Z_ (Below.refl w.heap.size w)
 have HOK:=Z_ hok
 have HKL:=Z_ hkl
 have HL4:=Z_ hl4
 clear hr0 hr1 hok hc0 hc1 hH
 have hu1:=Try.underlying91
 have hu2:=Try.underlying24
 have hu3:=Try.underlying36
 have hmm:=@run_makeMap
 obtain ⟨y0,hy0⟩ : ∃ y : List Bool,y = List.replicate ((l0.length : Int)).toNat false:=⟨_,rfl⟩
 have NY:=Z_ hy0
 clear hy0
 have z0 : 0 ≤ (l0.length : Int):=by omega
 have z1 : ((l0.length : Int)).toNat ≤ 281474976710656:=by omega
 go_enter Try.func55,Try.ntmps55
 go_wp2_with (first | ((with_reducible refine gD_ 13 rfl ?_);refine Kd.R_make Kd.bool _ 4 rfl (N:=13) rfl 91 _ _ rfl (l0.length : Int) rfl rfl Try.underlying91 (.bool false) 1 info4 rfl (by decide) (by omega) false (ok:=fun _ => True) (okp:=fun _ => True) rfl (fun _ hk => hk) trivial z0 (Nat.le_trans (Nat.mul_le_mul_right _ z1) (by omega)) (Below.refl _ _) (Nat.le_refl _) ?_;intro v13 w13 ho hb hg_ hnew_;clear hg_ hnew_;rw [← NY.out] at ho;have HO:=Z_ (Kd.R_lower ho (below_size HB.out));replace HB:=Z_ (lP_ HB.out hb);clear ho hb))
 have GB:=Z_ (show w.heap.size ≤ w13.heap.size from below_size HB.out)
 have HM : Aside0 ((w13.alloc (.map #[] 0)).ownsMap Try.prog 2 (plainElem (H:=Unit) Try.prog 4) w13.heap.size 0 (.map [])):=Z_ (World.ownsMap_made w13 _ _ _)
 replace HB:=Z_ (lA1_ (o:=.map #[] 0) HB.out)
 replace HO:=Z_ (rA_ HO.out (.map #[] 0))
 generalize w13.heap.size = B at GB HM ⊢
 generalize w13.alloc (.map #[] 0) = w14 at HM HB HO ⊢
 go_loopg [17] l0.length (fun gg s17 wr => ∃ (kk m : Nat) (D : DataW Unit),kk ≤ l0.length ∧ l0.length - kk ≤ gg ∧ s17 = .int .i64 kk ∧ m ≤ kk ∧ Aside0 (wr.ownsMap Try.prog 2 (plainElem Try.prog 4) B m D) ∧ Aside0 (Go.Maps.IsMap D) ∧ Aside0 (Mbd D (mkHs l0 l1 kk)) ∧ Aside0 (Kd.bool.R 4 wr w.heap.size (fun _ => True) v13 y0) ∧ Aside0 (Below w.heap.size w wr))
 case atStart => exact ⟨0,0,.map [],Nat.zero_le _,by omega,rfl,Nat.le_refl _,HM,⟨Go.Maps.isMap_empty⟩,⟨mbd_nil⟩,HO,HB⟩
 case round =>
  clear HM HO HB
  obtain ⟨kk,m,D,hkn,hgg,rfl,hmk,HM,HD,HS,HO,HB⟩:=hrel
  by_cases hlt : kk < l0.length
  rotate_left
  ·have hltz : ¬ (kk : Int) < (l0.length : Int):=by omega
   obtain rfl : kk = l0.length:=by omega
   rw [← HH.out] at HS
   have NY0 : y0 = mkO l0 l1 H 0:=by rw [NY.out,Int.toNat_natCast];rfl
   rw [NY0] at HO
   clear NY0 hltz hgg hkn
   go_wp2
   go_loopg [37] l0.length (fun gg s37 wr => ∃ kk : Nat,kk ≤ l0.length ∧ l0.length - kk ≤ gg ∧ s37 = .int .i64 kk ∧ Aside0 (wr.ownsMap Try.prog 2 (plainElem Try.prog 4) B m D) ∧ Aside0 (Go.Maps.IsMap D) ∧ Aside0 (Mbd D H) ∧ Aside0 (Kd.bool.R 4 wr w.heap.size (fun _ => True) v13 (mkO l0 l1 H kk)) ∧ Aside0 (Below w.heap.size w wr))
   case atStart => exact ⟨0,Nat.zero_le _,by omega,rfl,HM,HD,HS,HO,HB⟩
   case round =>
    clear HM HD HS HO HB
    obtain ⟨kk,hkn,hgg,rfl,HM,HD,HS,HO,HB⟩:=hrel
    by_cases hlt : kk < l0.length
    rotate_left
    ·have hltz : ¬ (kk : Int) < (l0.length : Int):=by omega
     obtain rfl : kk = l0.length:=by omega
     go_wp2
     go_ret
     exact ⟨_,rfl,HO.out,HB.out⟩
    have hltz : (kk : Int) < (l0.length : Int):=by omega
    have hltd : decide ((kk : Int) < (l0.length : Int)) = true:=decide_eq_true hltz
    have hkz : (kk : Int) < (l1.length : Int):=by have:=HKL.out;omega
    have hin:=mkOk_at HOK.out hlt
    obtain ⟨adk,ek,hkw⟩:=Kd.at_bool a6.out (kk : Int) (by omega) (by omega)
    subst ek
    rw [Int.toNat_natCast,show rdOf false l1 (kk : Int) = l1.getD kk false from rfl] at hkw
    have hmo : mkO l0 l1 H (kk + 1) = (mkO l0 l1 H kk).set kk (mkB l0 H kk (mkO l0 l1 H kk) || l1.getD kk false):=rfl
    have hol:=mkO_length l0 l1 H kk
    obtain ⟨bv,hbv⟩ : ∃ bv,bv = mkB l0 H kk (mkO l0 l1 H kk):=⟨_,rfl⟩
    rw [← hbv] at hmo
    have hv:=hbv
    clear hbv
    unfold mkB at hv
    generalize mkO l0 l1 H kk = O at HO hmo hol hv
    generalize l1.getD kk false = kb at hkw hmo
    obtain ⟨ad,e,hy0,hy1,hy2,hy3⟩:=at_T36 a5.out (kk : Int) (by omega) (by omega)
    rw [Int.toNat_natCast] at hy0 hy1 hy2 hy3
    subst e
    generalize rd_T36 l0 (kk : Int) = x at hy0 hy1 hy2 hy3 hin hv
    have HY:=Z_ (And.intro hy0 (And.intro hy1 (And.intro hy2 hy3)))
    replace hy0:=cB_ HB hy0
    replace hy1:=cB_ HB hy1
    replace hy2:=cB_ HB hy2
    replace hy3:=cB_ HB hy3
    have HMO:=Z_ hmo
    have HOL:=Z_ hol
    have HIN:=Z_ hin
    have HV:=Z_ hv
    have HKW:=Z_ hkw
    clear hmo hol hin hv hkw
    obtain ⟨g,cg,eg,GG,GL,GC⟩:=Kd.R_form HO.out (by rw [HOL.out];omega)
    rw [HOL.out] at eg
    subst eg
    replace GG:=Z_ GG
    replace GL:=Z_ GL
    have NG : Aside0 (B ≠ g):=⟨fun h => by obtain ⟨cs,hcs⟩:=GC;obtain ⟨es,cl,hes⟩:=own_mapH_is HM.out;rw [h,hcs] at hes;cases hes⟩
    clear GC
    go_upto_region 11 with (go_big_may;first | ((with_reducible refine gD_ 10 rfl ?_);refine bx_ #[.int .i64 0,.int .i64 0,.int .i64 0,.int .i64 0] 36 ?_;intro g5 hg w3 hbox hb;have a4:=Z_ (show w.heap.size ≤ g5 by rw [hg];exact below_size HB.out);have NE5:=Z_ (show B ≠ g5 by rw [hg];exact Nat.ne_of_lt HM.out.lt);replace HM:=Z_ (own_map_belowH HM.out hb);replace HO:=Z_ (Kd.R_below HO.out hb);replace HB:=Z_ (lP_ HB.out hb);have BK:=Z_ hbox;clear hb hbox hg hy0 hy1 hy2 hy3;have hy0:=cB_ HB HY.out.1;have hy1:=cB_ HB HY.out.2.1;have hy2:=cB_ HB HY.out.2.2.1;have hy3:=cB_ HB HY.out.2.2.2;obtain ⟨_,_,_,_,_,_,_,_⟩:=bc4H BK.out))
    (try simp only [Act.put,lA_,lZ_,lS_])
    have n0_:=Z_ (blk_put (blk_put (blk_put (blk_put BK.out 0 (.int .i64 x.f0) rfl) 1 (.int .i64 x.f1) rfl) 2 (.int .i64 x.f2) rfl) 3 (.int .i64 x.f3) rfl)
    replace HM:=Z_ (own_map_setH (p:=⟨g5,3,none⟩) (u:=.int .i64 x.f3) (own_map_setH (p:=⟨g5,2,none⟩) (u:=.int .i64 x.f2) (own_map_setH (p:=⟨g5,1,none⟩) (u:=.int .i64 x.f1) (own_map_setH (p:=⟨g5,0,none⟩) (u:=.int .i64 x.f0) HM.out NE5.out) NE5.out) NE5.out) NE5.out)
    replace HO:=Z_ (R_set4 (a0:=.int .i64 x.f0) (a1:=.int .i64 x.f1) (a2:=.int .i64 x.f2) (a3:=.int .i64 x.f3) HO.out BK.out (by decide))
    replace HB:=Z_ (lS1_ (j:=3) (v:=.int .i64 x.f3) (lS1_ (j:=2) (v:=.int .i64 x.f2) (lS1_ (j:=1) (v:=.int .i64 x.f1) (lS1_ (j:=0) (v:=.int .i64 x.f0) HB.out a4.out) a4.out) a4.out) a4.out)
    clear BK hy0 hy1 hy2 hy3
    have BK:=n0_
    clear n0_
    generalize (w3.setCell ⟨g5,0,none⟩ (.int .i64 x.f0) |>.setCell ⟨g5,1,none⟩ (.int .i64 x.f1) |>.setCell ⟨g5,2,none⟩ (.int .i64 x.f2) |>.setCell ⟨g5,3,none⟩ (.int .i64 x.f3)) = w4 at BK HM HO HB ⊢
    obtain ⟨_,_,_,_,_,_,_,_⟩:=bc4H BK.out
    have hk0:=cB_ HB HKW.out
    obtain ⟨hKt,hKf⟩:=rb_get HO.out kk hlt
    refine if q1 : x.f0 = 1 then ?_ else if q3 : x.f0 = 3 then ?_ else if q4 : x.f0 = 4 then ?_ else if q5 : x.f0 = 5 then ?_ else if q6 : x.f0 = 6 then ?_ else if q7 : x.f0 = 7 then ?_ else ?_
    have hv:=HV.out
    clear HV
    rw [if_pos q1] at hv
    obtain ⟨_,_,_⟩:=eqTH (show x.f0 = 1 by omega)
    obtain ⟨_,_,_⟩:=eqFH (show ¬ x.f0 = 3 by omega)
    obtain ⟨_,_,_⟩:=eqFH (show ¬ x.f0 = 4 by omega)
    obtain ⟨_,_,_⟩:=eqFH (show ¬ x.f0 = 5 by omega)
    obtain ⟨_,_,_⟩:=eqFH (show ¬ x.f0 = 6 by omega)
    obtain ⟨_,_,_⟩:=eqFH (show ¬ x.f0 = 7 by omega)
    rotate_left
    have hv:=HV.out
    clear HV
    rw [if_neg q1,if_pos (.inl q3)] at hv
    obtain ⟨_,_,_⟩:=eqFH (show ¬ x.f0 = 1 by omega)
    obtain ⟨_,_,_⟩:=eqTH (show x.f0 = 3 by omega)
    obtain ⟨_,_,_⟩:=eqFH (show ¬ x.f0 = 4 by omega)
    obtain ⟨_,_,_⟩:=eqFH (show ¬ x.f0 = 5 by omega)
    obtain ⟨_,_,_⟩:=eqFH (show ¬ x.f0 = 6 by omega)
    obtain ⟨_,_,_⟩:=eqFH (show ¬ x.f0 = 7 by omega)
    have pA:=(show (0 ≤ x.f1 ∧ x.f1 < (l0.length : Int)) by have:=HIN.out;simp [mkIn] at this;omega)
    have hA : w4.cell? ⟨g,x.f1.toNat,none⟩ = some (.bool (ob O x.f1)):=(Kd.R_celln false HO.out x.f1 pA.1 pA.2).1
    have qA0 : (0 ≤ x.f1) = True:=eq_true pA.1
    have qA1 : (x.f1 < (l0.length : Int)) = True:=eq_true pA.2
    have pB:=(show (0 ≤ x.f2 ∧ x.f2 < (l0.length : Int)) by have:=HIN.out;simp [mkIn] at this;omega)
    have hB : w4.cell? ⟨g,x.f2.toNat,none⟩ = some (.bool (ob O x.f2)):=(Kd.R_celln false HO.out x.f2 pB.1 pB.2).1
    have qB0 : (0 ≤ x.f2) = True:=eq_true pB.1
    have qB1 : (x.f2 < (l0.length : Int)) = True:=eq_true pB.2
    generalize ob O x.f1 = a at hA hv
    generalize ob O x.f2 = b at hB hv
    clear pA pB
    cases a <;> cases b
    rotate_left 4
    have hv:=HV.out
    clear HV
    rw [if_neg q1,if_pos (.inr (.inl q4))] at hv
    obtain ⟨_,_,_⟩:=eqFH (show ¬ x.f0 = 1 by omega)
    obtain ⟨_,_,_⟩:=eqFH (show ¬ x.f0 = 3 by omega)
    obtain ⟨_,_,_⟩:=eqTH (show x.f0 = 4 by omega)
    obtain ⟨_,_,_⟩:=eqFH (show ¬ x.f0 = 5 by omega)
    obtain ⟨_,_,_⟩:=eqFH (show ¬ x.f0 = 6 by omega)
    obtain ⟨_,_,_⟩:=eqFH (show ¬ x.f0 = 7 by omega)
    have pA:=(show (0 ≤ x.f1 ∧ x.f1 < (l0.length : Int)) by have:=HIN.out;simp [mkIn] at this;omega)
    have hA : w4.cell? ⟨g,x.f1.toNat,none⟩ = some (.bool (ob O x.f1)):=(Kd.R_celln false HO.out x.f1 pA.1 pA.2).1
    have qA0 : (0 ≤ x.f1) = True:=eq_true pA.1
    have qA1 : (x.f1 < (l0.length : Int)) = True:=eq_true pA.2
    have pB:=(show (0 ≤ x.f2 ∧ x.f2 < (l0.length : Int)) by have:=HIN.out;simp [mkIn] at this;omega)
    have hB : w4.cell? ⟨g,x.f2.toNat,none⟩ = some (.bool (ob O x.f2)):=(Kd.R_celln false HO.out x.f2 pB.1 pB.2).1
    have qB0 : (0 ≤ x.f2) = True:=eq_true pB.1
    have qB1 : (x.f2 < (l0.length : Int)) = True:=eq_true pB.2
    generalize ob O x.f1 = a at hA hv
    generalize ob O x.f2 = b at hB hv
    clear pA pB
    cases a <;> cases b
    rotate_left 4
    have hv:=HV.out
    clear HV
    rw [if_neg q1,if_pos (.inr (.inr q5))] at hv
    obtain ⟨_,_,_⟩:=eqFH (show ¬ x.f0 = 1 by omega)
    obtain ⟨_,_,_⟩:=eqFH (show ¬ x.f0 = 3 by omega)
    obtain ⟨_,_,_⟩:=eqFH (show ¬ x.f0 = 4 by omega)
    obtain ⟨_,_,_⟩:=eqTH (show x.f0 = 5 by omega)
    obtain ⟨_,_,_⟩:=eqFH (show ¬ x.f0 = 6 by omega)
    obtain ⟨_,_,_⟩:=eqFH (show ¬ x.f0 = 7 by omega)
    have pA:=(show (0 ≤ x.f1 ∧ x.f1 < (l0.length : Int)) by have:=HIN.out;simp [mkIn] at this;omega)
    have hA : w4.cell? ⟨g,x.f1.toNat,none⟩ = some (.bool (ob O x.f1)):=(Kd.R_celln false HO.out x.f1 pA.1 pA.2).1
    have qA0 : (0 ≤ x.f1) = True:=eq_true pA.1
    have qA1 : (x.f1 < (l0.length : Int)) = True:=eq_true pA.2
    have pB:=(show (0 ≤ x.f2 ∧ x.f2 < (l0.length : Int)) by have:=HIN.out;simp [mkIn] at this;omega)
    have hB : w4.cell? ⟨g,x.f2.toNat,none⟩ = some (.bool (ob O x.f2)):=(Kd.R_celln false HO.out x.f2 pB.1 pB.2).1
    have qB0 : (0 ≤ x.f2) = True:=eq_true pB.1
    have qB1 : (x.f2 < (l0.length : Int)) = True:=eq_true pB.2
    generalize ob O x.f1 = a at hA hv
    generalize ob O x.f2 = b at hB hv
    clear pA pB
    cases a <;> cases b
    rotate_left 4
    have hv:=HV.out
    clear HV
    rw [if_neg q1,if_neg (by omega),if_pos q6] at hv
    obtain ⟨_,_,_⟩:=eqFH (show ¬ x.f0 = 1 by omega)
    obtain ⟨_,_,_⟩:=eqFH (show ¬ x.f0 = 3 by omega)
    obtain ⟨_,_,_⟩:=eqFH (show ¬ x.f0 = 4 by omega)
    obtain ⟨_,_,_⟩:=eqFH (show ¬ x.f0 = 5 by omega)
    obtain ⟨_,_,_⟩:=eqTH (show x.f0 = 6 by omega)
    obtain ⟨_,_,_⟩:=eqFH (show ¬ x.f0 = 7 by omega)
    have pA:=(show (0 ≤ x.f1 ∧ x.f1 < (l0.length : Int)) by have:=HIN.out;simp [mkIn] at this;omega)
    have hA : w4.cell? ⟨g,x.f1.toNat,none⟩ = some (.bool (ob O x.f1)):=(Kd.R_celln false HO.out x.f1 pA.1 pA.2).1
    have qA0 : (0 ≤ x.f1) = True:=eq_true pA.1
    have qA1 : (x.f1 < (l0.length : Int)) = True:=eq_true pA.2
    generalize ob O x.f1 = a at hA hv
    clear pA
    cases a
    rotate_left 2
    have hv:=HV.out
    clear HV
    rw [if_neg q1,if_neg (by omega),if_neg q6,if_pos q7] at hv
    obtain ⟨_,_,_⟩:=eqFH (show ¬ x.f0 = 1 by omega)
    obtain ⟨_,_,_⟩:=eqFH (show ¬ x.f0 = 3 by omega)
    obtain ⟨_,_,_⟩:=eqFH (show ¬ x.f0 = 4 by omega)
    obtain ⟨_,_,_⟩:=eqFH (show ¬ x.f0 = 5 by omega)
    obtain ⟨_,_,_⟩:=eqFH (show ¬ x.f0 = 6 by omega)
    obtain ⟨_,_,_⟩:=eqTH (show x.f0 = 7 by omega)
    have pA:=(show (0 ≤ x.f1 ∧ x.f1 < (l0.length : Int)) by have:=HIN.out;simp [mkIn] at this;omega)
    have hA : w4.cell? ⟨g,x.f1.toNat,none⟩ = some (.bool (ob O x.f1)):=(Kd.R_celln false HO.out x.f1 pA.1 pA.2).1
    have qA0 : (0 ≤ x.f1) = True:=eq_true pA.1
    have qA1 : (x.f1 < (l0.length : Int)) = True:=eq_true pA.2
    have pB:=(show (0 ≤ x.f2 ∧ x.f2 < (l0.length : Int)) by have:=HIN.out;simp [mkIn] at this;omega)
    have hB : w4.cell? ⟨g,x.f2.toNat,none⟩ = some (.bool (ob O x.f2)):=(Kd.R_celln false HO.out x.f2 pB.1 pB.2).1
    have qB0 : (0 ≤ x.f2) = True:=eq_true pB.1
    have qB1 : (x.f2 < (l0.length : Int)) = True:=eq_true pB.2
    have hMA:=mlk HM.out HS.out x.f1 (wf_of_place pA.1 pA.2 HL4.out)
    have hMB:=mlk HM.out HS.out x.f2 (wf_of_place pB.1 pB.2 HL4.out)
    generalize ob O x.f1 = a at hA hv
    generalize ob O x.f2 = b at hB hv
    generalize H x.f1 = ha at hMA hv
    generalize H x.f2 = hb at hMB hv
    clear pA pB
    cases a <;> cases b <;> cases ha <;> cases hb
    rotate_left 16
    have hv:=HV.out
    clear HV
    rw [if_neg q1,if_neg (by omega),if_neg q6,if_neg q7] at hv
    obtain ⟨_,_,_⟩:=eqFH (show ¬ x.f0 = 1 by omega)
    obtain ⟨_,_,_⟩:=eqFH (show ¬ x.f0 = 3 by omega)
    obtain ⟨_,_,_⟩:=eqFH (show ¬ x.f0 = 4 by omega)
    obtain ⟨_,_,_⟩:=eqFH (show ¬ x.f0 = 5 by omega)
    obtain ⟨_,_,_⟩:=eqFH (show ¬ x.f0 = 6 by omega)
    obtain ⟨_,_,_⟩:=eqFH (show ¬ x.f0 = 7 by omega)
    generalize O.getD kk false = ok at hKt hv
    cases ok
    rotate_left 2
    all_goals
     obtain rfl : _ = bv:=hv.symm
     go_wp2_with (first | ((first | (with_reducible refine gate_store (t:=4) (p:=48) rfl ?_) | (with_reducible refine gate_store (t:=4) (p:=67) rfl ?_) | (with_reducible refine gate_store (t:=4) (p:=77) rfl ?_) | (with_reducible refine gate_store (t:=4) (p:=113) rfl ?_));refine stH 4 ?_;intro w6 hw;replace HB:=Z_ (show Below w.heap.size w w6 by rw [hw];exact lS1_ HB.out GG.out);replace HM:=Z_ (show w6.ownsMap _ _ _ _ _ _ by rw [hw];exact own_map_setH HM.out NG.out);obtain ⟨hp_,_⟩:=rb_put HO.out kk hw;replace HO:=Z_ hp_;clear hp_ hw;obtain ⟨hKt,hKf⟩:=rb_get HO.out kk hlt;rw [getD_setH _ (by rw [HOL.out];exact hlt)] at hKt;have hk0:=cB_ HB HKW.out) | ((first | (with_reducible refine gate_store (t:=4) (p:=126) rfl ?_));refine stH 4 ?_;intro w8 hw;replace HB:=Z_ (show Below w.heap.size w w8 by rw [hw];exact lS1_ HB.out GG.out);replace HM:=Z_ (show w8.ownsMap _ _ _ _ _ _ by rw [hw];exact own_map_setH HM.out NG.out);obtain ⟨hp_,_⟩:=rb_put HO.out kk hw;replace HO:=Z_ hp_;clear hp_ hw))
     have hw1 : IntKind.i64.wrap ((kk : Int) + 1) = (kk : Int) + 1:=by rw [i64_w,w64k (by omega) (by have:=HL4.out;omega)]
     go_roundg (l0.length - (kk + 1))
     case measure => omega
     case rel => exact ⟨kk + 1,by omega,by omega,(by first | rfl | (rw [hw1];push_cast;rfl) | (push_cast;rfl) | (simp [w64k,hw1];omega)),HM,HD,HS,⟨by rw [HMO.out];simpa using HO.out⟩,HB⟩
  have hltz : (kk : Int) < (l0.length : Int):=by omega
  have hltd : decide ((kk : Int) < (l0.length : Int)) = true:=decide_eq_true hltz
  have hkz : (kk : Int) < (l1.length : Int):=by have:=HKL.out;omega
  have hin:=mkOk_at HOK.out hlt
  obtain ⟨adk,ek,hkw⟩:=Kd.at_bool a6.out (kk : Int) (by omega) (by omega)
  subst ek
  rw [Int.toNat_natCast,show rdOf false l1 (kk : Int) = l1.getD kk false from rfl] at hkw
  have hv : mkHs l0 l1 (kk + 1) = if (rd_T36 l0 (kk : Int)).f0 = 6 ∧ l1.getD kk false = true then bput (mkHs l0 l1 kk) (rd_T36 l0 (kk : Int)).f1 else mkHs l0 l1 kk:=rfl
  generalize mkHs l0 l1 kk = mp at HS hv
  generalize l1.getD kk false = kb at hkw hv
  obtain ⟨ad,e,hy0,hy1,hy2,hy3⟩:=at_T36 a5.out (kk : Int) (by omega) (by omega)
  rw [Int.toNat_natCast] at hy0 hy1 hy2 hy3
  subst e
  generalize rd_T36 l0 (kk : Int) = x at hy0 hy1 hy2 hy3 hin hv
  have HY:=Z_ (And.intro hy0 (And.intro hy1 (And.intro hy2 hy3)))
  replace hy0:=cB_ HB hy0
  replace hy1:=cB_ HB hy1
  replace hy2:=cB_ HB hy2
  replace hy3:=cB_ HB hy3
  have HIN:=Z_ hin
  have HKW:=Z_ hkw
  clear hin hkw
  go_upto_region 5 with (go_big_may;first | ((with_reducible refine gD_ 8 rfl ?_);refine bx_ #[.int .i64 0,.int .i64 0,.int .i64 0,.int .i64 0] 36 ?_;intro g5 hg w3 hbox hb;have a4:=Z_ (show w.heap.size ≤ g5 by rw [hg];exact below_size HB.out);have NE5:=Z_ (show B ≠ g5 by rw [hg];exact Nat.ne_of_lt HM.out.lt);replace HM:=Z_ (own_map_belowH HM.out hb);replace HO:=Z_ (Kd.R_below HO.out hb);replace HB:=Z_ (lP_ HB.out hb);have BK:=Z_ hbox;clear hb hbox hg hy0 hy1 hy2 hy3;have hy0:=cB_ HB HY.out.1;have hy1:=cB_ HB HY.out.2.1;have hy2:=cB_ HB HY.out.2.2.1;have hy3:=cB_ HB HY.out.2.2.2;obtain ⟨_,_,_,_,_,_,_,_⟩:=bc4H BK.out))
  (try simp only [Act.put,lA_,lZ_,lS_])
  have n0_:=Z_ (blk_put (blk_put (blk_put (blk_put BK.out 0 (.int .i64 x.f0) rfl) 1 (.int .i64 x.f1) rfl) 2 (.int .i64 x.f2) rfl) 3 (.int .i64 x.f3) rfl)
  replace HM:=Z_ (own_map_setH (p:=⟨g5,3,none⟩) (u:=.int .i64 x.f3) (own_map_setH (p:=⟨g5,2,none⟩) (u:=.int .i64 x.f2) (own_map_setH (p:=⟨g5,1,none⟩) (u:=.int .i64 x.f1) (own_map_setH (p:=⟨g5,0,none⟩) (u:=.int .i64 x.f0) HM.out NE5.out) NE5.out) NE5.out) NE5.out)
  replace HO:=Z_ (R_set4 (a0:=.int .i64 x.f0) (a1:=.int .i64 x.f1) (a2:=.int .i64 x.f2) (a3:=.int .i64 x.f3) HO.out BK.out (by decide))
  replace HB:=Z_ (lS1_ (j:=3) (v:=.int .i64 x.f3) (lS1_ (j:=2) (v:=.int .i64 x.f2) (lS1_ (j:=1) (v:=.int .i64 x.f1) (lS1_ (j:=0) (v:=.int .i64 x.f0) HB.out a4.out) a4.out) a4.out) a4.out)
  clear BK hy0 hy1 hy2 hy3
  have BK:=n0_
  clear n0_
  generalize (w3.setCell ⟨g5,0,none⟩ (.int .i64 x.f0) |>.setCell ⟨g5,1,none⟩ (.int .i64 x.f1) |>.setCell ⟨g5,2,none⟩ (.int .i64 x.f2) |>.setCell ⟨g5,3,none⟩ (.int .i64 x.f3)) = w4 at BK HM HO HB ⊢
  obtain ⟨_,_,_,_,_,_,_,_⟩:=bc4H BK.out
  have hk0:=cB_ HB HKW.out
  have hw1 : IntKind.i64.wrap ((kk : Int) + 1) = (kk : Int) + 1:=by rw [i64_w,w64k (by omega) (by have:=HL4.out;omega)]
  by_cases q6 : x.f0 = 6
  rotate_left
  ·rw [if_neg (fun h => q6 h.1)] at hv
   obtain ⟨_,_,_⟩:=eqFH q6
   go_wp2
   go_roundg (l0.length - (kk + 1))
   case measure => omega
   case rel => exact ⟨kk + 1,m,D,by omega,by omega,(by first | rfl | (rw [hw1];push_cast;rfl) | (push_cast;rfl)),by omega,HM,HD,⟨by rw [hv];exact HS.out⟩,HO,HB⟩
  obtain ⟨_,_,_⟩:=eqTH q6
  cases kb with
  | false =>
   rw [if_neg (fun h => by simp at h)] at hv
   go_wp2
   go_roundg (l0.length - (kk + 1))
   case measure => omega
   case rel => exact ⟨kk + 1,m,D,by omega,by omega,(by first | rfl | (rw [hw1];push_cast;rfl) | (push_cast;rfl)),by omega,HM,HD,⟨by rw [hv];exact HS.out⟩,HO,HB⟩
  | true =>
   rw [if_pos ⟨q6,rfl⟩] at hv
   have HWF:=Z_ (wf_of_place (x:=x.f1) (n:=l0.length) (by have:=HIN.out;simp [mkIn] at this;omega) (by have:=HIN.out;simp [mkIn] at this;omega) HL4.out)
   go_wp2_with (first | (at_mapUpdate;refine wpList_mapUpdate_own (H:=Unit) _ rfl (.tmp 31) (.tmp 33) (.const (.bool true)) 131 rfl 2 4 int_kdH Try.underlying131 (plainElem Try.prog 4) B m D rfl HM.out (by show m < 9223372036854775807;have:=HL4.out;omega) _ _ (.int .i64 x.f1) rfl rfl (Go.Maps.keyOf_int_mk Try.underlying2 HWF.out) (.lit (.bool true)) [] (plainElem_bool Try.underlying4 true) ?_;intro w7 ho7 hg7;replace HO:=Z_ (R_grown_mapH HO.out hg7 (own_mapH_is HM.out));replace HB:=Z_ (pw_below_grown HB.out (some B) (below_size HB.out) hg7 (fun k hk => by injection hk with hk;rw [← hk];exact GB.out));clear HM;have HM:=Z_ ho7;clear ho7 hg7))
   go_roundg (l0.length - (kk + 1))
   case measure => omega
   case rel => exact ⟨kk + 1,m + 1,D.put (.int .i64 x.f1) (.lit (.bool true)),by omega,by omega,(by first | rfl | (rw [hw1];push_cast;rfl) | (push_cast;rfl)),by omega,HM,⟨HD.out.put _ _⟩,⟨by rw [hv];exact mbd_put HS.out HD.out HWF.out⟩,HO,HB⟩
end Go.Proofs.Ytpabeajjbifjdaa.G
namespace Go.Proofs.Ytpabeajjbifjdaa.G
open Go.RowKit Go.Proofs.YtpabeajjbifjdaaW.PrintWords Go.Proofs.YtpabeajjbifjdaaW.PrintLast Go.Proofs.YtpabeajjbifjdaaW.PrintMore
attribute [local go_sem] max2_int min2_int max_two min_two max_three min_three max_four min_four   -- for this text's walks alone
set_option linter.unusedVariables false
set_option linter.unusedSimpArgs false
def impl_MakeKeys.f (k : Nat) (l0 : List S36) (a1 a2 a3 a4 a5 a6 : Int) : Option (Int × Int × Int × Int × Int × List S36):=(impl_namesFault.f k l0 [a5,a6] [a1,a2,a3,a4]).bind fun c => (if c = 0 then (if l0.length ≤ 400 ∧ (0 ≤ a3 ∧ a3 < (l0.length : Int)) ∧ (0 ≤ a4 ∧ a4 < (l0.length : Int)) then (if (rd_T36 l0 a3).f0 = 2 then (if (rd_T36 l0 a4).f0 = 6 then ((keysT l0 false a1 a2 a3 a4 a5 a6).bind fun r => (if r.2.2.2.2.2 = true then (some (2,0,0,0,0,[])) else (some (0,r.1,r.2.1,r.2.2.1,r.2.2.2.1,r.2.2.2.2.1)))) else (some (1,0,0,0,0,[]))) else (some (1,0,0,0,0,[]))) else none) else (some (c,0,0,0,0,[])))
set_option maxHeartbeats 8000000 in
set_option maxRecDepth 100000 in
theorem impl_MakeKeys.calls (k : Nat) (A0 : Option Addr) (c0 : Nat) (l0 : List (S36)) (a1 a2 a3 a4 a5 a6 r1 r2 r3 r4 r5 : Int) (r6 : List (S36)) (w : World) (hr0 : Kd.C k36 w A0 l0.length l0) (hc0 : l0.length ≤ c0) (h : impl_MakeKeys.f k l0 a1 a2 a3 a4 a5 a6 = some (r1,r2,r3,r4,r5,r6)) :
    Calls Try.prog 8 #[.slice A0 l0.length c0,.int .i64 a1,.int .i64 a2,.int .i64 a3,.int .i64 a4,.int .i64 a5,.int .i64 a6] w fun e w' => ∃ v5_ : Value,e = .returned (.agg #[.int .i64 r1,.int .i64 r2,.int .i64 r3,.int .i64 r4,.int .i64 r5,v5_]) ∧ Kd.R k36 36 w' w.heap.size (fun _ => True) v5_ r6 ∧ Below w.heap.size w w':=by
 unfold impl_MakeKeys.f at h
 obtain ⟨c,hf,h⟩:=Option.bind_eq_some_iff.mp h
 have HF:=Z_ hf
 clear hf
 have HR:=Z_ hr0
 have HC:=Z_ hc0
 have HB:=Z_ (Below.refl w.heap.size w)
 clear hr0 hc0
 by_cases hz : c = 0
 ·rw [if_pos hz] at h
  subst hz
  by_cases hg : (l0.length ≤ 400 ∧ (0 ≤ a3 ∧ a3 < (l0.length : Int)) ∧ (0 ≤ a4 ∧ a4 < (l0.length : Int)))
  rotate_left
  ·rw [if_neg hg] at h;cases h
  rw [if_pos hg] at h
  obtain ⟨hl4,hg3,hg4⟩:=hg
  obtain ⟨adT,e,o0,o1,o2,o3⟩:=at_T36 HR.out a3 hg3.1 hg3.2
  obtain ⟨adU,e2,u0,u1,u2,u3⟩:=at_T36 HR.out a4 hg4.1 hg4.2
  subst e
  obtain rfl : adT = adU:=by injection e2
  have HXO:=Z_ o0
  have HXH:=Z_ u0
  have p1:=eq_true hg3.1;have p2:=eq_true hg3.2;have p3:=eq_true hg4.1;have p4:=eq_true hg4.2
  have HL4:=Z_ hl4
  have HL:=Z_ (show l0.length * 32 ≤ 140737488355328 by have:=HL4.out;omega)
  clear o0 o1 o2 o3 u0 u1 u2 u3 e2 hg3 hg4 hl4
  generalize (rd_T36 l0 a3).f0 = oa at HXO h
  generalize (rd_T36 l0 a4).f0 = ob at HXH h
  by_cases h2 : oa = 2
  rotate_left
  ·rw [if_neg h2] at h
   have b0 : (oa == 2) = false:=by simpa using h2
   have b1 : (oa != 2) = true:=by simpa using h2
   simp only [Option.some.injEq,Prod.mk.injEq] at h
   obtain ⟨rfl,rfl,rfl,rfl,rfl,rfl⟩:=h
   go_enter Try.func8,Try.ntmps8
   go_wp2_with (first | ((with_reducible refine gD_ 14 rfl ?_);refine bx_ zs5 30 ?_;intro g14 hg w2 hbox hb;have n0_:=Z_ (lP_ HB.out hb);have BK:=Z_ hbox;have GE:=Z_ (show w.heap.size ≤ g14 by rw [hg];exact below_size HB.out);clear HB;have HB:=n0_;clear n0_ hb hbox hg;(try clear q0_ q1_ q2_ q3_ q4_ q5_ f0_ f1_ f2_ f3_ f4_ f5_);have q0_ : w2.cell? ⟨g14,0,none⟩ = some (.int .i64 0):=(blk_cell BK.out 0).trans rfl;have q1_ : w2.cell? ⟨g14,1,none⟩ = some (.int .i64 0):=(blk_cell BK.out 1).trans rfl;have q2_ : w2.cell? ⟨g14,2,none⟩ = some (.int .i64 0):=(blk_cell BK.out 2).trans rfl;have q3_ : w2.cell? ⟨g14,3,none⟩ = some (.int .i64 0):=(blk_cell BK.out 3).trans rfl;have q4_ : w2.cell? ⟨g14,4,none⟩ = some (.int .i64 0):=(blk_cell BK.out 4).trans rfl;have q5_ : w2.cell? ⟨g14,5,none⟩ = some (.slice none 0 0):=(blk_cell BK.out 5).trans rfl;have f0_:=blk_frozen BK.out 0;have f1_:=blk_frozen BK.out 1;have f2_:=blk_frozen BK.out 2;have f3_:=blk_frozen BK.out 3;have f4_:=blk_frozen BK.out 4;have f5_:=blk_frozen BK.out 5) | ((with_reducible refine gD_ 21 rfl ?_);refine Kd.R_lit (Kd.int .i64) _ 2 ?hg (N:=21) ?hd (xs:=([a5,a6] : List Int)) (inner:=[.int .i64 a5,.int .i64 a6]) (ok:=fun _ => True) (okp:=fun _ => True) ?hr ?hp (fun _ hk => hk) trivial (Below.refl _ _) (Nat.le_refl _) (by simp) ?_;(case hd => rfl);(case hg => rfl);(case hr => first | (go_simp;done) | (go_simp;rfl));(case hp => exact reps_ints _);intro v1 w1 ho hb hg hn;clear hg hn;obtain ⟨AP,cP,eP⟩:=Kd.R_slice ho;subst eP;have HP:=Z_ ho;clear ho;replace HB:=Z_ (lP_ HB.out hb);replace BK:=Z_ (bB_ BK.out hb);clear hb;(try clear q0_ q1_ q2_ q3_ q4_ q5_ f0_ f1_ f2_ f3_ f4_ f5_);have q0_ : w1.cell? ⟨g14,0,none⟩ = some (.int .i64 0):=(blk_cell BK.out 0).trans rfl;have q1_ : w1.cell? ⟨g14,1,none⟩ = some (.int .i64 0):=(blk_cell BK.out 1).trans rfl;have q2_ : w1.cell? ⟨g14,2,none⟩ = some (.int .i64 0):=(blk_cell BK.out 2).trans rfl;have q3_ : w1.cell? ⟨g14,3,none⟩ = some (.int .i64 0):=(blk_cell BK.out 3).trans rfl;have q4_ : w1.cell? ⟨g14,4,none⟩ = some (.int .i64 0):=(blk_cell BK.out 4).trans rfl;have q5_ : w1.cell? ⟨g14,5,none⟩ = some (.slice none 0 0):=(blk_cell BK.out 5).trans rfl;have f0_:=blk_frozen BK.out 0;have f1_:=blk_frozen BK.out 1;have f2_:=blk_frozen BK.out 2;have f3_:=blk_frozen BK.out 3;have f4_:=blk_frozen BK.out 4;have f5_:=blk_frozen BK.out 5) | ((with_reducible refine gD_ 26 rfl ?_);refine Kd.R_lit (Kd.int .i64) _ 2 ?hg (N:=26) ?hd (xs:=([a1,a2,a3,a4] : List Int)) (inner:=[.int .i64 a1,.int .i64 a2,.int .i64 a3,.int .i64 a4]) (ok:=fun _ => True) (okp:=fun _ => True) ?hr ?hp (fun _ hk => hk) trivial (Below.refl _ _) (Nat.le_refl _) (by simp) ?_;(case hd => rfl);(case hg => rfl);(case hr => first | (go_simp;done) | (go_simp;rfl));(case hp => exact reps_ints _);intro v1 w1 ho hb hg hn;clear hg hn;obtain ⟨AQ,cQ,eQ⟩:=Kd.R_slice ho;subst eQ;have HQ:=Z_ ho;clear ho;replace HB:=Z_ (lP_ HB.out hb);replace BK:=Z_ (bB_ BK.out hb);replace HP:=Z_ (Kd.R_below HP.out hb);clear hb;(try clear q0_ q1_ q2_ q3_ q4_ q5_ f0_ f1_ f2_ f3_ f4_ f5_);have q0_ : w1.cell? ⟨g14,0,none⟩ = some (.int .i64 0):=(blk_cell BK.out 0).trans rfl;have q1_ : w1.cell? ⟨g14,1,none⟩ = some (.int .i64 0):=(blk_cell BK.out 1).trans rfl;have q2_ : w1.cell? ⟨g14,2,none⟩ = some (.int .i64 0):=(blk_cell BK.out 2).trans rfl;have q3_ : w1.cell? ⟨g14,3,none⟩ = some (.int .i64 0):=(blk_cell BK.out 3).trans rfl;have q4_ : w1.cell? ⟨g14,4,none⟩ = some (.int .i64 0):=(blk_cell BK.out 4).trans rfl;have q5_ : w1.cell? ⟨g14,5,none⟩ = some (.slice none 0 0):=(blk_cell BK.out 5).trans rfl;have f0_:=blk_frozen BK.out 0;have f1_:=blk_frozen BK.out 1;have f2_:=blk_frozen BK.out 2;have f3_:=blk_frozen BK.out 3;have f4_:=blk_frozen BK.out 4;have f5_:=blk_frozen BK.out 5) | (go_at_call 41;refine (impl_namesFault.calls k (some adT) c0 l0 AP cP [a5,a6] AQ cQ [a1,a2,a3,a4] _ _ (Kd.C_below HR.out HB.out) HC.out (Kd.R_reads' HP.out).2.2 (Kd.R_reads' HP.out).2.1 (Kd.R_reads' HQ.out).2.2 (Kd.R_reads' HQ.out).2.1 HF.out).mono ?_;rintro e w4 ⟨rfl,hb⟩;replace HB:=Z_ (lP_ HB.out hb);replace BK:=Z_ (bB_ BK.out hb);replace HP:=Z_ (Kd.R_below HP.out hb);replace HQ:=Z_ (Kd.R_below HQ.out hb);clear hb;(try clear q0_ q1_ q2_ q3_ q4_ q5_ f0_ f1_ f2_ f3_ f4_ f5_);have q0_ : w4.cell? ⟨g14,0,none⟩ = some (.int .i64 0):=(blk_cell BK.out 0).trans rfl;have q1_ : w4.cell? ⟨g14,1,none⟩ = some (.int .i64 0):=(blk_cell BK.out 1).trans rfl;have q2_ : w4.cell? ⟨g14,2,none⟩ = some (.int .i64 0):=(blk_cell BK.out 2).trans rfl;have q3_ : w4.cell? ⟨g14,3,none⟩ = some (.int .i64 0):=(blk_cell BK.out 3).trans rfl;have q4_ : w4.cell? ⟨g14,4,none⟩ = some (.int .i64 0):=(blk_cell BK.out 4).trans rfl;have q5_ : w4.cell? ⟨g14,5,none⟩ = some (.slice none 0 0):=(blk_cell BK.out 5).trans rfl;have f0_:=blk_frozen BK.out 0;have f1_:=blk_frozen BK.out 1;have f2_:=blk_frozen BK.out 2;have f3_:=blk_frozen BK.out 3;have f4_:=blk_frozen BK.out 4;have f5_:=blk_frozen BK.out 5;have ho_:=pw_cell_below HB.out HXO.out;have hh_:=pw_cell_below HB.out HXH.out))
   refine bodyPost_ret (results_cell_row rfl _ _ g14 30 #[.int .i64 1,.int .i64 0,.int .i64 0,.int .i64 0,.int .i64 0,.slice none 0 0] (0,0) _ rfl (blk_put (blk_put (blk_put (blk_put (blk_put (blk_put BK.out 0 _ rfl) 1 _ rfl) 2 _ rfl) 3 _ rfl) 4 _ rfl) 5 _ rfl) Try.underlying30 rfl (by kernel_rfl)) rfl ?_
   exact ⟨_,rfl,Kd.R_nil _ _ _ _ _,lS1_ (lS1_ (lS1_ (lS1_ (lS1_ (lS1_ HB.out GE.out) GE.out) GE.out) GE.out) GE.out) GE.out⟩
  rw [if_pos h2] at h
  subst h2
  by_cases h6 : ob = 6
  rotate_left
  ·rw [if_neg h6] at h
   have b0 : (ob == 6) = false:=by simpa using h6
   have b1 : (ob != 6) = true:=by simpa using h6
   simp only [Option.some.injEq,Prod.mk.injEq] at h
   obtain ⟨rfl,rfl,rfl,rfl,rfl,rfl⟩:=h
   go_enter Try.func8,Try.ntmps8
   go_wp2_with (first | ((with_reducible refine gD_ 14 rfl ?_);refine bx_ zs5 30 ?_;intro g14 hg w2 hbox hb;have n0_:=Z_ (lP_ HB.out hb);have BK:=Z_ hbox;have GE:=Z_ (show w.heap.size ≤ g14 by rw [hg];exact below_size HB.out);clear HB;have HB:=n0_;clear n0_ hb hbox hg;(try clear q0_ q1_ q2_ q3_ q4_ q5_ f0_ f1_ f2_ f3_ f4_ f5_);have q0_ : w2.cell? ⟨g14,0,none⟩ = some (.int .i64 0):=(blk_cell BK.out 0).trans rfl;have q1_ : w2.cell? ⟨g14,1,none⟩ = some (.int .i64 0):=(blk_cell BK.out 1).trans rfl;have q2_ : w2.cell? ⟨g14,2,none⟩ = some (.int .i64 0):=(blk_cell BK.out 2).trans rfl;have q3_ : w2.cell? ⟨g14,3,none⟩ = some (.int .i64 0):=(blk_cell BK.out 3).trans rfl;have q4_ : w2.cell? ⟨g14,4,none⟩ = some (.int .i64 0):=(blk_cell BK.out 4).trans rfl;have q5_ : w2.cell? ⟨g14,5,none⟩ = some (.slice none 0 0):=(blk_cell BK.out 5).trans rfl;have f0_:=blk_frozen BK.out 0;have f1_:=blk_frozen BK.out 1;have f2_:=blk_frozen BK.out 2;have f3_:=blk_frozen BK.out 3;have f4_:=blk_frozen BK.out 4;have f5_:=blk_frozen BK.out 5) | ((with_reducible refine gD_ 21 rfl ?_);refine Kd.R_lit (Kd.int .i64) _ 2 ?hg (N:=21) ?hd (xs:=([a5,a6] : List Int)) (inner:=[.int .i64 a5,.int .i64 a6]) (ok:=fun _ => True) (okp:=fun _ => True) ?hr ?hp (fun _ hk => hk) trivial (Below.refl _ _) (Nat.le_refl _) (by simp) ?_;(case hd => rfl);(case hg => rfl);(case hr => first | (go_simp;done) | (go_simp;rfl));(case hp => exact reps_ints _);intro v1 w1 ho hb hg hn;clear hg hn;obtain ⟨AP,cP,eP⟩:=Kd.R_slice ho;subst eP;have HP:=Z_ ho;clear ho;replace HB:=Z_ (lP_ HB.out hb);replace BK:=Z_ (bB_ BK.out hb);clear hb;(try clear q0_ q1_ q2_ q3_ q4_ q5_ f0_ f1_ f2_ f3_ f4_ f5_);have q0_ : w1.cell? ⟨g14,0,none⟩ = some (.int .i64 0):=(blk_cell BK.out 0).trans rfl;have q1_ : w1.cell? ⟨g14,1,none⟩ = some (.int .i64 0):=(blk_cell BK.out 1).trans rfl;have q2_ : w1.cell? ⟨g14,2,none⟩ = some (.int .i64 0):=(blk_cell BK.out 2).trans rfl;have q3_ : w1.cell? ⟨g14,3,none⟩ = some (.int .i64 0):=(blk_cell BK.out 3).trans rfl;have q4_ : w1.cell? ⟨g14,4,none⟩ = some (.int .i64 0):=(blk_cell BK.out 4).trans rfl;have q5_ : w1.cell? ⟨g14,5,none⟩ = some (.slice none 0 0):=(blk_cell BK.out 5).trans rfl;have f0_:=blk_frozen BK.out 0;have f1_:=blk_frozen BK.out 1;have f2_:=blk_frozen BK.out 2;have f3_:=blk_frozen BK.out 3;have f4_:=blk_frozen BK.out 4;have f5_:=blk_frozen BK.out 5) | ((with_reducible refine gD_ 26 rfl ?_);refine Kd.R_lit (Kd.int .i64) _ 2 ?hg (N:=26) ?hd (xs:=([a1,a2,a3,a4] : List Int)) (inner:=[.int .i64 a1,.int .i64 a2,.int .i64 a3,.int .i64 a4]) (ok:=fun _ => True) (okp:=fun _ => True) ?hr ?hp (fun _ hk => hk) trivial (Below.refl _ _) (Nat.le_refl _) (by simp) ?_;(case hd => rfl);(case hg => rfl);(case hr => first | (go_simp;done) | (go_simp;rfl));(case hp => exact reps_ints _);intro v1 w1 ho hb hg hn;clear hg hn;obtain ⟨AQ,cQ,eQ⟩:=Kd.R_slice ho;subst eQ;have HQ:=Z_ ho;clear ho;replace HB:=Z_ (lP_ HB.out hb);replace BK:=Z_ (bB_ BK.out hb);replace HP:=Z_ (Kd.R_below HP.out hb);clear hb;(try clear q0_ q1_ q2_ q3_ q4_ q5_ f0_ f1_ f2_ f3_ f4_ f5_);have q0_ : w1.cell? ⟨g14,0,none⟩ = some (.int .i64 0):=(blk_cell BK.out 0).trans rfl;have q1_ : w1.cell? ⟨g14,1,none⟩ = some (.int .i64 0):=(blk_cell BK.out 1).trans rfl;have q2_ : w1.cell? ⟨g14,2,none⟩ = some (.int .i64 0):=(blk_cell BK.out 2).trans rfl;have q3_ : w1.cell? ⟨g14,3,none⟩ = some (.int .i64 0):=(blk_cell BK.out 3).trans rfl;have q4_ : w1.cell? ⟨g14,4,none⟩ = some (.int .i64 0):=(blk_cell BK.out 4).trans rfl;have q5_ : w1.cell? ⟨g14,5,none⟩ = some (.slice none 0 0):=(blk_cell BK.out 5).trans rfl;have f0_:=blk_frozen BK.out 0;have f1_:=blk_frozen BK.out 1;have f2_:=blk_frozen BK.out 2;have f3_:=blk_frozen BK.out 3;have f4_:=blk_frozen BK.out 4;have f5_:=blk_frozen BK.out 5) | (go_at_call 41;refine (impl_namesFault.calls k (some adT) c0 l0 AP cP [a5,a6] AQ cQ [a1,a2,a3,a4] _ _ (Kd.C_below HR.out HB.out) HC.out (Kd.R_reads' HP.out).2.2 (Kd.R_reads' HP.out).2.1 (Kd.R_reads' HQ.out).2.2 (Kd.R_reads' HQ.out).2.1 HF.out).mono ?_;rintro e w4 ⟨rfl,hb⟩;replace HB:=Z_ (lP_ HB.out hb);replace BK:=Z_ (bB_ BK.out hb);replace HP:=Z_ (Kd.R_below HP.out hb);replace HQ:=Z_ (Kd.R_below HQ.out hb);clear hb;(try clear q0_ q1_ q2_ q3_ q4_ q5_ f0_ f1_ f2_ f3_ f4_ f5_);have q0_ : w4.cell? ⟨g14,0,none⟩ = some (.int .i64 0):=(blk_cell BK.out 0).trans rfl;have q1_ : w4.cell? ⟨g14,1,none⟩ = some (.int .i64 0):=(blk_cell BK.out 1).trans rfl;have q2_ : w4.cell? ⟨g14,2,none⟩ = some (.int .i64 0):=(blk_cell BK.out 2).trans rfl;have q3_ : w4.cell? ⟨g14,3,none⟩ = some (.int .i64 0):=(blk_cell BK.out 3).trans rfl;have q4_ : w4.cell? ⟨g14,4,none⟩ = some (.int .i64 0):=(blk_cell BK.out 4).trans rfl;have q5_ : w4.cell? ⟨g14,5,none⟩ = some (.slice none 0 0):=(blk_cell BK.out 5).trans rfl;have f0_:=blk_frozen BK.out 0;have f1_:=blk_frozen BK.out 1;have f2_:=blk_frozen BK.out 2;have f3_:=blk_frozen BK.out 3;have f4_:=blk_frozen BK.out 4;have f5_:=blk_frozen BK.out 5;have ho_:=pw_cell_below HB.out HXO.out;have hh_:=pw_cell_below HB.out HXH.out))
   refine bodyPost_ret (results_cell_row rfl _ _ g14 30 #[.int .i64 1,.int .i64 0,.int .i64 0,.int .i64 0,.int .i64 0,.slice none 0 0] (0,0) _ rfl (blk_put (blk_put (blk_put (blk_put (blk_put (blk_put BK.out 0 _ rfl) 1 _ rfl) 2 _ rfl) 3 _ rfl) 4 _ rfl) 5 _ rfl) Try.underlying30 rfl (by kernel_rfl)) rfl ?_
   exact ⟨_,rfl,Kd.R_nil _ _ _ _ _,lS1_ (lS1_ (lS1_ (lS1_ (lS1_ (lS1_ HB.out GE.out) GE.out) GE.out) GE.out) GE.out) GE.out⟩
  rw [if_pos h6] at h
  subst h6
  obtain ⟨r,hk,h⟩:=Option.bind_eq_some_iff.mp h
  obtain ⟨k1,k2,k3,k4,lt,fl⟩:=r
  have HKK:=Z_ hk
  clear hk
  dsimp only at h
  cases fl with
  | true =>
   rw [if_pos rfl] at h
   simp only [Option.some.injEq,Prod.mk.injEq] at h
   obtain ⟨rfl,rfl,rfl,rfl,rfl,rfl⟩:=h
   go_enter Try.func8,Try.ntmps8
   go_wp2_with (first | ((with_reducible refine gD_ 14 rfl ?_);refine bx_ zs5 30 ?_;intro g14 hg w2 hbox hb;have n0_:=Z_ (lP_ HB.out hb);have BK:=Z_ hbox;have GE:=Z_ (show w.heap.size ≤ g14 by rw [hg];exact below_size HB.out);clear HB;have HB:=n0_;clear n0_ hb hbox hg;(try clear q0_ q1_ q2_ q3_ q4_ q5_ f0_ f1_ f2_ f3_ f4_ f5_);have q0_ : w2.cell? ⟨g14,0,none⟩ = some (.int .i64 0):=(blk_cell BK.out 0).trans rfl;have q1_ : w2.cell? ⟨g14,1,none⟩ = some (.int .i64 0):=(blk_cell BK.out 1).trans rfl;have q2_ : w2.cell? ⟨g14,2,none⟩ = some (.int .i64 0):=(blk_cell BK.out 2).trans rfl;have q3_ : w2.cell? ⟨g14,3,none⟩ = some (.int .i64 0):=(blk_cell BK.out 3).trans rfl;have q4_ : w2.cell? ⟨g14,4,none⟩ = some (.int .i64 0):=(blk_cell BK.out 4).trans rfl;have q5_ : w2.cell? ⟨g14,5,none⟩ = some (.slice none 0 0):=(blk_cell BK.out 5).trans rfl;have f0_:=blk_frozen BK.out 0;have f1_:=blk_frozen BK.out 1;have f2_:=blk_frozen BK.out 2;have f3_:=blk_frozen BK.out 3;have f4_:=blk_frozen BK.out 4;have f5_:=blk_frozen BK.out 5) | ((with_reducible refine gD_ 21 rfl ?_);refine Kd.R_lit (Kd.int .i64) _ 2 ?hg (N:=21) ?hd (xs:=([a5,a6] : List Int)) (inner:=[.int .i64 a5,.int .i64 a6]) (ok:=fun _ => True) (okp:=fun _ => True) ?hr ?hp (fun _ hk => hk) trivial (Below.refl _ _) (Nat.le_refl _) (by simp) ?_;(case hd => rfl);(case hg => rfl);(case hr => first | (go_simp;done) | (go_simp;rfl));(case hp => exact reps_ints _);intro v1 w1 ho hb hg hn;clear hg hn;obtain ⟨AP,cP,eP⟩:=Kd.R_slice ho;subst eP;have HP:=Z_ ho;clear ho;replace HB:=Z_ (lP_ HB.out hb);replace BK:=Z_ (bB_ BK.out hb);clear hb;(try clear q0_ q1_ q2_ q3_ q4_ q5_ f0_ f1_ f2_ f3_ f4_ f5_);have q0_ : w1.cell? ⟨g14,0,none⟩ = some (.int .i64 0):=(blk_cell BK.out 0).trans rfl;have q1_ : w1.cell? ⟨g14,1,none⟩ = some (.int .i64 0):=(blk_cell BK.out 1).trans rfl;have q2_ : w1.cell? ⟨g14,2,none⟩ = some (.int .i64 0):=(blk_cell BK.out 2).trans rfl;have q3_ : w1.cell? ⟨g14,3,none⟩ = some (.int .i64 0):=(blk_cell BK.out 3).trans rfl;have q4_ : w1.cell? ⟨g14,4,none⟩ = some (.int .i64 0):=(blk_cell BK.out 4).trans rfl;have q5_ : w1.cell? ⟨g14,5,none⟩ = some (.slice none 0 0):=(blk_cell BK.out 5).trans rfl;have f0_:=blk_frozen BK.out 0;have f1_:=blk_frozen BK.out 1;have f2_:=blk_frozen BK.out 2;have f3_:=blk_frozen BK.out 3;have f4_:=blk_frozen BK.out 4;have f5_:=blk_frozen BK.out 5) | ((with_reducible refine gD_ 26 rfl ?_);refine Kd.R_lit (Kd.int .i64) _ 2 ?hg (N:=26) ?hd (xs:=([a1,a2,a3,a4] : List Int)) (inner:=[.int .i64 a1,.int .i64 a2,.int .i64 a3,.int .i64 a4]) (ok:=fun _ => True) (okp:=fun _ => True) ?hr ?hp (fun _ hk => hk) trivial (Below.refl _ _) (Nat.le_refl _) (by simp) ?_;(case hd => rfl);(case hg => rfl);(case hr => first | (go_simp;done) | (go_simp;rfl));(case hp => exact reps_ints _);intro v1 w1 ho hb hg hn;clear hg hn;obtain ⟨AQ,cQ,eQ⟩:=Kd.R_slice ho;subst eQ;have HQ:=Z_ ho;clear ho;replace HB:=Z_ (lP_ HB.out hb);replace BK:=Z_ (bB_ BK.out hb);replace HP:=Z_ (Kd.R_below HP.out hb);clear hb;(try clear q0_ q1_ q2_ q3_ q4_ q5_ f0_ f1_ f2_ f3_ f4_ f5_);have q0_ : w1.cell? ⟨g14,0,none⟩ = some (.int .i64 0):=(blk_cell BK.out 0).trans rfl;have q1_ : w1.cell? ⟨g14,1,none⟩ = some (.int .i64 0):=(blk_cell BK.out 1).trans rfl;have q2_ : w1.cell? ⟨g14,2,none⟩ = some (.int .i64 0):=(blk_cell BK.out 2).trans rfl;have q3_ : w1.cell? ⟨g14,3,none⟩ = some (.int .i64 0):=(blk_cell BK.out 3).trans rfl;have q4_ : w1.cell? ⟨g14,4,none⟩ = some (.int .i64 0):=(blk_cell BK.out 4).trans rfl;have q5_ : w1.cell? ⟨g14,5,none⟩ = some (.slice none 0 0):=(blk_cell BK.out 5).trans rfl;have f0_:=blk_frozen BK.out 0;have f1_:=blk_frozen BK.out 1;have f2_:=blk_frozen BK.out 2;have f3_:=blk_frozen BK.out 3;have f4_:=blk_frozen BK.out 4;have f5_:=blk_frozen BK.out 5) | (go_at_call 41;refine (impl_namesFault.calls k (some adT) c0 l0 AP cP [a5,a6] AQ cQ [a1,a2,a3,a4] _ _ (Kd.C_below HR.out HB.out) HC.out (Kd.R_reads' HP.out).2.2 (Kd.R_reads' HP.out).2.1 (Kd.R_reads' HQ.out).2.2 (Kd.R_reads' HQ.out).2.1 HF.out).mono ?_;rintro e w4 ⟨rfl,hb⟩;replace HB:=Z_ (lP_ HB.out hb);replace BK:=Z_ (bB_ BK.out hb);replace HP:=Z_ (Kd.R_below HP.out hb);replace HQ:=Z_ (Kd.R_below HQ.out hb);clear hb;(try clear q0_ q1_ q2_ q3_ q4_ q5_ f0_ f1_ f2_ f3_ f4_ f5_);have q0_ : w4.cell? ⟨g14,0,none⟩ = some (.int .i64 0):=(blk_cell BK.out 0).trans rfl;have q1_ : w4.cell? ⟨g14,1,none⟩ = some (.int .i64 0):=(blk_cell BK.out 1).trans rfl;have q2_ : w4.cell? ⟨g14,2,none⟩ = some (.int .i64 0):=(blk_cell BK.out 2).trans rfl;have q3_ : w4.cell? ⟨g14,3,none⟩ = some (.int .i64 0):=(blk_cell BK.out 3).trans rfl;have q4_ : w4.cell? ⟨g14,4,none⟩ = some (.int .i64 0):=(blk_cell BK.out 4).trans rfl;have q5_ : w4.cell? ⟨g14,5,none⟩ = some (.slice none 0 0):=(blk_cell BK.out 5).trans rfl;have f0_:=blk_frozen BK.out 0;have f1_:=blk_frozen BK.out 1;have f2_:=blk_frozen BK.out 2;have f3_:=blk_frozen BK.out 3;have f4_:=blk_frozen BK.out 4;have f5_:=blk_frozen BK.out 5;have ho_:=pw_cell_below HB.out HXO.out;have hh_:=pw_cell_below HB.out HXH.out) | (go_at_call 42;refine (impl_sheetOf.calls (some adT) c0 l0 _ (Kd.C_below HR.out HB.out) HC.out HL.out).mono ?_;rintro e w7 ⟨S,rfl,hs,hb⟩;obtain ⟨v7,hv⟩:=hs;have NG:=Z_ (blk_lt BK.out);have NW:=Z_ HB.out.size;have HS:=Z_ (SE.start hv);clear hv;replace HB:=Z_ (lP_ HB.out hb);replace BK:=Z_ (bB_ BK.out hb);clear hb;(try clear q0_ q1_ q2_ q3_ q4_ q5_ f0_ f1_ f2_ f3_ f4_ f5_);have q0_ : w7.cell? ⟨g14,0,none⟩ = some (.int .i64 0):=(blk_cell BK.out 0).trans rfl;have q1_ : w7.cell? ⟨g14,1,none⟩ = some (.int .i64 0):=(blk_cell BK.out 1).trans rfl;have q2_ : w7.cell? ⟨g14,2,none⟩ = some (.int .i64 0):=(blk_cell BK.out 2).trans rfl;have q3_ : w7.cell? ⟨g14,3,none⟩ = some (.int .i64 0):=(blk_cell BK.out 3).trans rfl;have q4_ : w7.cell? ⟨g14,4,none⟩ = some (.int .i64 0):=(blk_cell BK.out 4).trans rfl;have q5_ : w7.cell? ⟨g14,5,none⟩ = some (.slice none 0 0):=(blk_cell BK.out 5).trans rfl;have f0_:=blk_frozen BK.out 0;have f1_:=blk_frozen BK.out 1;have f2_:=blk_frozen BK.out 2;have f3_:=blk_frozen BK.out 3;have f4_:=blk_frozen BK.out 4;have f5_:=blk_frozen BK.out 5) | (go_at_call 43;refine (impl_sheet_keys.callsE a1 a2 a3 a4 a5 a6 _ HS.out HL4.out HKK.out).mono ?_;rintro e w9 ⟨rfl,hs,hk⟩;clear hk;obtain ⟨⟨v9,hv⟩,hk,hB⟩:=hs;obtain ⟨A9,c9,e9⟩:=Kd.R_slice hv.2.2;subst e9;have HV:=Z_ hv;have BW:=Z_ (blk_keepT BK.out hk (by decide) (by decide));have n0_:=Z_ (HB.out.trans (hB.mono NW.out));clear HB BK HS hk hB hv;have HB:=n0_;have BK:=BW;clear n0_ BW;have m0_ : w9.cell? ⟨S,0,none⟩ = some _:=(blk_cell HV.out.1 0).trans rfl;have m1_ : w9.cell? ⟨S,1,none⟩ = some (.bool _):=(blk_cell HV.out.1 1).trans rfl;(try clear q0_ q1_ q2_ q3_ q4_ q5_ f0_ f1_ f2_ f3_ f4_ f5_);have q0_ : w9.cell? ⟨g14,0,none⟩ = some (.int .i64 0):=(blk_cell BK.out 0).trans rfl;have q1_ : w9.cell? ⟨g14,1,none⟩ = some (.int .i64 0):=(blk_cell BK.out 1).trans rfl;have q2_ : w9.cell? ⟨g14,2,none⟩ = some (.int .i64 0):=(blk_cell BK.out 2).trans rfl;have q3_ : w9.cell? ⟨g14,3,none⟩ = some (.int .i64 0):=(blk_cell BK.out 3).trans rfl;have q4_ : w9.cell? ⟨g14,4,none⟩ = some (.int .i64 0):=(blk_cell BK.out 4).trans rfl;have q5_ : w9.cell? ⟨g14,5,none⟩ = some (.slice none 0 0):=(blk_cell BK.out 5).trans rfl;have f0_:=blk_frozen BK.out 0;have f1_:=blk_frozen BK.out 1;have f2_:=blk_frozen BK.out 2;have f3_:=blk_frozen BK.out 3;have f4_:=blk_frozen BK.out 4;have f5_:=blk_frozen BK.out 5) | ((with_reducible refine gD_ 17 rfl ?_);refine bx_ #[.int .i64 0,.int .i64 0,.int .i64 0,.int .i64 0] 28 ?_;intro gl hg w11 hbox hb;have BL:=Z_ hbox;have GL:=Z_ (show w.heap.size ≤ gl by rw [hg];exact below_size HB.out);have NE:=Z_ (show g14 ≠ gl by rw [hg];exact Nat.ne_of_lt (blk_lt BK.out));have NES:=Z_ (show S ≠ gl by rw [hg];exact Nat.ne_of_lt (blk_lt HV.out.1));have ne1_:=NE.out;have ne2_:=NE.out.symm;have ne3_:=NES.out;have ne4_:=NES.out.symm;replace HV:=Z_ (st_below HV.out hb);replace HB:=Z_ (lP_ HB.out hb);replace BK:=Z_ (bB_ BK.out hb);clear hb hbox hg;have y0_ : w11.cell? ⟨gl,0,none⟩ = some (.int .i64 0):=(blk_cell BL.out 0).trans rfl;have y1_ : w11.cell? ⟨gl,1,none⟩ = some (.int .i64 0):=(blk_cell BL.out 1).trans rfl;have y2_ : w11.cell? ⟨gl,2,none⟩ = some (.int .i64 0):=(blk_cell BL.out 2).trans rfl;have y3_ : w11.cell? ⟨gl,3,none⟩ = some (.int .i64 0):=(blk_cell BL.out 3).trans rfl;have z0_:=blk_frozen BL.out 0;have z1_:=blk_frozen BL.out 1;have z2_:=blk_frozen BL.out 2;have z3_:=blk_frozen BL.out 3;(try clear m0_ m1_);have m0_ : w11.cell? ⟨S,0,none⟩ = some _:=(blk_cell HV.out.1 0).trans rfl;have m1_ : w11.cell? ⟨S,1,none⟩ = some _:=(blk_cell HV.out.1 1).trans rfl;(try clear q0_ q1_ q2_ q3_ q4_ q5_ f0_ f1_ f2_ f3_ f4_ f5_);have q0_ : w11.cell? ⟨g14,0,none⟩ = some (.int .i64 0):=(blk_cell BK.out 0).trans rfl;have q1_ : w11.cell? ⟨g14,1,none⟩ = some (.int .i64 0):=(blk_cell BK.out 1).trans rfl;have q2_ : w11.cell? ⟨g14,2,none⟩ = some (.int .i64 0):=(blk_cell BK.out 2).trans rfl;have q3_ : w11.cell? ⟨g14,3,none⟩ = some (.int .i64 0):=(blk_cell BK.out 3).trans rfl;have q4_ : w11.cell? ⟨g14,4,none⟩ = some (.int .i64 0):=(blk_cell BK.out 4).trans rfl;have q5_ : w11.cell? ⟨g14,5,none⟩ = some (.slice none 0 0):=(blk_cell BK.out 5).trans rfl;have f0_:=blk_frozen BK.out 0;have f1_:=blk_frozen BK.out 1;have f2_:=blk_frozen BK.out 2;have f3_:=blk_frozen BK.out 3;have f4_:=blk_frozen BK.out 4;have f5_:=blk_frozen BK.out 5))
   have n0_:=Z_ (lS1_ (j:=3) (v:=.int .i64 k4) (lS1_ (j:=2) (v:=.int .i64 k3) (lS1_ (j:=1) (v:=.int .i64 k2) (lS1_ (j:=0) (v:=.int .i64 k1) HB.out GL.out) GL.out) GL.out) GL.out)
   have n1_:=Z_ (bF_ (bF_ (bF_ (bF_ BK.out (p:=⟨gl,0,none⟩) NE.out (.int .i64 k1)) (p:=⟨gl,1,none⟩) NE.out (.int .i64 k2)) (p:=⟨gl,2,none⟩) NE.out (.int .i64 k3)) (p:=⟨gl,3,none⟩) NE.out (.int .i64 k4))
   have n2_:=Z_ (st_far (st_far (st_far (st_far HV.out BL.out (by decide) (by decide) 0 (.int .i64 k1)) (blk_put BL.out 0 (.int .i64 k1) rfl) (by decide) (by decide) 1 (.int .i64 k2)) (blk_put (blk_put BL.out 0 (.int .i64 k1) rfl) 1 (.int .i64 k2) rfl) (by decide) (by decide) 2 (.int .i64 k3)) (blk_put (blk_put (blk_put BL.out 0 (.int .i64 k1) rfl) 1 (.int .i64 k2) rfl) 2 (.int .i64 k3) rfl) (by decide) (by decide) 3 (.int .i64 k4))
   have n3_ : Aside0 (((((w11.setCell ⟨gl,0,none⟩ (.int .i64 k1)).setCell ⟨gl,1,none⟩ (.int .i64 k2)).setCell ⟨gl,2,none⟩ (.int .i64 k3)).setCell ⟨gl,3,none⟩ (.int .i64 k4)).heap[gl]? = some (.cells #[.int .i64 k1,.int .i64 k2,.int .i64 k3,.int .i64 k4] 28 (0,0))):=Z_ (blk_put (blk_put (blk_put (blk_put BL.out 0 (.int .i64 k1) rfl) 1 (.int .i64 k2) rfl) 2 (.int .i64 k3) rfl) 3 (.int .i64 k4) rfl)
   clear HB BK HV BL
   have HB:=n0_;have BK:=n1_;have HV:=n2_;have BL:=n3_
   clear n0_ n1_ n2_ n3_
   refine bodyPost_ret (results_cell_row rfl _ _ g14 30 #[.int .i64 2,.int .i64 0,.int .i64 0,.int .i64 0,.int .i64 0,.slice none 0 0] (0,0) _ rfl (blk_put (blk_put (blk_put (blk_put (blk_put (blk_put BK.out 0 _ rfl) 1 _ rfl) 2 _ rfl) 3 _ rfl) 4 _ rfl) 5 _ rfl) Try.underlying30 rfl (by kernel_rfl)) rfl ?_
   exact ⟨_,rfl,Kd.R_nil _ _ _ _ _,lS1_ (lS1_ (lS1_ (lS1_ (lS1_ (lS1_ HB.out GE.out) GE.out) GE.out) GE.out) GE.out) GE.out⟩
  | false =>
   rw [if_neg (by decide)] at h
   simp only [Option.some.injEq,Prod.mk.injEq] at h
   obtain ⟨rfl,rfl,rfl,rfl,rfl,rfl⟩:=h
   go_enter Try.func8,Try.ntmps8
   go_wp2_with (first | ((with_reducible refine gD_ 14 rfl ?_);refine bx_ zs5 30 ?_;intro g14 hg w2 hbox hb;have n0_:=Z_ (lP_ HB.out hb);have BK:=Z_ hbox;have GE:=Z_ (show w.heap.size ≤ g14 by rw [hg];exact below_size HB.out);clear HB;have HB:=n0_;clear n0_ hb hbox hg;(try clear q0_ q1_ q2_ q3_ q4_ q5_ f0_ f1_ f2_ f3_ f4_ f5_);have q0_ : w2.cell? ⟨g14,0,none⟩ = some (.int .i64 0):=(blk_cell BK.out 0).trans rfl;have q1_ : w2.cell? ⟨g14,1,none⟩ = some (.int .i64 0):=(blk_cell BK.out 1).trans rfl;have q2_ : w2.cell? ⟨g14,2,none⟩ = some (.int .i64 0):=(blk_cell BK.out 2).trans rfl;have q3_ : w2.cell? ⟨g14,3,none⟩ = some (.int .i64 0):=(blk_cell BK.out 3).trans rfl;have q4_ : w2.cell? ⟨g14,4,none⟩ = some (.int .i64 0):=(blk_cell BK.out 4).trans rfl;have q5_ : w2.cell? ⟨g14,5,none⟩ = some (.slice none 0 0):=(blk_cell BK.out 5).trans rfl;have f0_:=blk_frozen BK.out 0;have f1_:=blk_frozen BK.out 1;have f2_:=blk_frozen BK.out 2;have f3_:=blk_frozen BK.out 3;have f4_:=blk_frozen BK.out 4;have f5_:=blk_frozen BK.out 5) | ((with_reducible refine gD_ 21 rfl ?_);refine Kd.R_lit (Kd.int .i64) _ 2 ?hg (N:=21) ?hd (xs:=([a5,a6] : List Int)) (inner:=[.int .i64 a5,.int .i64 a6]) (ok:=fun _ => True) (okp:=fun _ => True) ?hr ?hp (fun _ hk => hk) trivial (Below.refl _ _) (Nat.le_refl _) (by simp) ?_;(case hd => rfl);(case hg => rfl);(case hr => first | (go_simp;done) | (go_simp;rfl));(case hp => exact reps_ints _);intro v1 w1 ho hb hg hn;clear hg hn;obtain ⟨AP,cP,eP⟩:=Kd.R_slice ho;subst eP;have HP:=Z_ ho;clear ho;replace HB:=Z_ (lP_ HB.out hb);replace BK:=Z_ (bB_ BK.out hb);clear hb;(try clear q0_ q1_ q2_ q3_ q4_ q5_ f0_ f1_ f2_ f3_ f4_ f5_);have q0_ : w1.cell? ⟨g14,0,none⟩ = some (.int .i64 0):=(blk_cell BK.out 0).trans rfl;have q1_ : w1.cell? ⟨g14,1,none⟩ = some (.int .i64 0):=(blk_cell BK.out 1).trans rfl;have q2_ : w1.cell? ⟨g14,2,none⟩ = some (.int .i64 0):=(blk_cell BK.out 2).trans rfl;have q3_ : w1.cell? ⟨g14,3,none⟩ = some (.int .i64 0):=(blk_cell BK.out 3).trans rfl;have q4_ : w1.cell? ⟨g14,4,none⟩ = some (.int .i64 0):=(blk_cell BK.out 4).trans rfl;have q5_ : w1.cell? ⟨g14,5,none⟩ = some (.slice none 0 0):=(blk_cell BK.out 5).trans rfl;have f0_:=blk_frozen BK.out 0;have f1_:=blk_frozen BK.out 1;have f2_:=blk_frozen BK.out 2;have f3_:=blk_frozen BK.out 3;have f4_:=blk_frozen BK.out 4;have f5_:=blk_frozen BK.out 5) | ((with_reducible refine gD_ 26 rfl ?_);refine Kd.R_lit (Kd.int .i64) _ 2 ?hg (N:=26) ?hd (xs:=([a1,a2,a3,a4] : List Int)) (inner:=[.int .i64 a1,.int .i64 a2,.int .i64 a3,.int .i64 a4]) (ok:=fun _ => True) (okp:=fun _ => True) ?hr ?hp (fun _ hk => hk) trivial (Below.refl _ _) (Nat.le_refl _) (by simp) ?_;(case hd => rfl);(case hg => rfl);(case hr => first | (go_simp;done) | (go_simp;rfl));(case hp => exact reps_ints _);intro v1 w1 ho hb hg hn;clear hg hn;obtain ⟨AQ,cQ,eQ⟩:=Kd.R_slice ho;subst eQ;have HQ:=Z_ ho;clear ho;replace HB:=Z_ (lP_ HB.out hb);replace BK:=Z_ (bB_ BK.out hb);replace HP:=Z_ (Kd.R_below HP.out hb);clear hb;(try clear q0_ q1_ q2_ q3_ q4_ q5_ f0_ f1_ f2_ f3_ f4_ f5_);have q0_ : w1.cell? ⟨g14,0,none⟩ = some (.int .i64 0):=(blk_cell BK.out 0).trans rfl;have q1_ : w1.cell? ⟨g14,1,none⟩ = some (.int .i64 0):=(blk_cell BK.out 1).trans rfl;have q2_ : w1.cell? ⟨g14,2,none⟩ = some (.int .i64 0):=(blk_cell BK.out 2).trans rfl;have q3_ : w1.cell? ⟨g14,3,none⟩ = some (.int .i64 0):=(blk_cell BK.out 3).trans rfl;have q4_ : w1.cell? ⟨g14,4,none⟩ = some (.int .i64 0):=(blk_cell BK.out 4).trans rfl;have q5_ : w1.cell? ⟨g14,5,none⟩ = some (.slice none 0 0):=(blk_cell BK.out 5).trans rfl;have f0_:=blk_frozen BK.out 0;have f1_:=blk_frozen BK.out 1;have f2_:=blk_frozen BK.out 2;have f3_:=blk_frozen BK.out 3;have f4_:=blk_frozen BK.out 4;have f5_:=blk_frozen BK.out 5) | (go_at_call 41;refine (impl_namesFault.calls k (some adT) c0 l0 AP cP [a5,a6] AQ cQ [a1,a2,a3,a4] _ _ (Kd.C_below HR.out HB.out) HC.out (Kd.R_reads' HP.out).2.2 (Kd.R_reads' HP.out).2.1 (Kd.R_reads' HQ.out).2.2 (Kd.R_reads' HQ.out).2.1 HF.out).mono ?_;rintro e w4 ⟨rfl,hb⟩;replace HB:=Z_ (lP_ HB.out hb);replace BK:=Z_ (bB_ BK.out hb);replace HP:=Z_ (Kd.R_below HP.out hb);replace HQ:=Z_ (Kd.R_below HQ.out hb);clear hb;(try clear q0_ q1_ q2_ q3_ q4_ q5_ f0_ f1_ f2_ f3_ f4_ f5_);have q0_ : w4.cell? ⟨g14,0,none⟩ = some (.int .i64 0):=(blk_cell BK.out 0).trans rfl;have q1_ : w4.cell? ⟨g14,1,none⟩ = some (.int .i64 0):=(blk_cell BK.out 1).trans rfl;have q2_ : w4.cell? ⟨g14,2,none⟩ = some (.int .i64 0):=(blk_cell BK.out 2).trans rfl;have q3_ : w4.cell? ⟨g14,3,none⟩ = some (.int .i64 0):=(blk_cell BK.out 3).trans rfl;have q4_ : w4.cell? ⟨g14,4,none⟩ = some (.int .i64 0):=(blk_cell BK.out 4).trans rfl;have q5_ : w4.cell? ⟨g14,5,none⟩ = some (.slice none 0 0):=(blk_cell BK.out 5).trans rfl;have f0_:=blk_frozen BK.out 0;have f1_:=blk_frozen BK.out 1;have f2_:=blk_frozen BK.out 2;have f3_:=blk_frozen BK.out 3;have f4_:=blk_frozen BK.out 4;have f5_:=blk_frozen BK.out 5;have ho_:=pw_cell_below HB.out HXO.out;have hh_:=pw_cell_below HB.out HXH.out) | (go_at_call 42;refine (impl_sheetOf.calls (some adT) c0 l0 _ (Kd.C_below HR.out HB.out) HC.out HL.out).mono ?_;rintro e w7 ⟨S,rfl,hs,hb⟩;obtain ⟨v7,hv⟩:=hs;have NG:=Z_ (blk_lt BK.out);have NW:=Z_ HB.out.size;have HS:=Z_ (SE.start hv);clear hv;replace HB:=Z_ (lP_ HB.out hb);replace BK:=Z_ (bB_ BK.out hb);clear hb;(try clear q0_ q1_ q2_ q3_ q4_ q5_ f0_ f1_ f2_ f3_ f4_ f5_);have q0_ : w7.cell? ⟨g14,0,none⟩ = some (.int .i64 0):=(blk_cell BK.out 0).trans rfl;have q1_ : w7.cell? ⟨g14,1,none⟩ = some (.int .i64 0):=(blk_cell BK.out 1).trans rfl;have q2_ : w7.cell? ⟨g14,2,none⟩ = some (.int .i64 0):=(blk_cell BK.out 2).trans rfl;have q3_ : w7.cell? ⟨g14,3,none⟩ = some (.int .i64 0):=(blk_cell BK.out 3).trans rfl;have q4_ : w7.cell? ⟨g14,4,none⟩ = some (.int .i64 0):=(blk_cell BK.out 4).trans rfl;have q5_ : w7.cell? ⟨g14,5,none⟩ = some (.slice none 0 0):=(blk_cell BK.out 5).trans rfl;have f0_:=blk_frozen BK.out 0;have f1_:=blk_frozen BK.out 1;have f2_:=blk_frozen BK.out 2;have f3_:=blk_frozen BK.out 3;have f4_:=blk_frozen BK.out 4;have f5_:=blk_frozen BK.out 5) | (go_at_call 43;refine (impl_sheet_keys.callsE a1 a2 a3 a4 a5 a6 _ HS.out HL4.out HKK.out).mono ?_;rintro e w9 ⟨rfl,hs,hk⟩;clear hk;obtain ⟨⟨v9,hv⟩,hk,hB⟩:=hs;obtain ⟨A9,c9,e9⟩:=Kd.R_slice hv.2.2;subst e9;have HV:=Z_ hv;have BW:=Z_ (blk_keepT BK.out hk (by decide) (by decide));have n0_:=Z_ (HB.out.trans (hB.mono NW.out));clear HB BK HS hk hB hv;have HB:=n0_;have BK:=BW;clear n0_ BW;have m0_ : w9.cell? ⟨S,0,none⟩ = some _:=(blk_cell HV.out.1 0).trans rfl;have m1_ : w9.cell? ⟨S,1,none⟩ = some (.bool _):=(blk_cell HV.out.1 1).trans rfl;(try clear q0_ q1_ q2_ q3_ q4_ q5_ f0_ f1_ f2_ f3_ f4_ f5_);have q0_ : w9.cell? ⟨g14,0,none⟩ = some (.int .i64 0):=(blk_cell BK.out 0).trans rfl;have q1_ : w9.cell? ⟨g14,1,none⟩ = some (.int .i64 0):=(blk_cell BK.out 1).trans rfl;have q2_ : w9.cell? ⟨g14,2,none⟩ = some (.int .i64 0):=(blk_cell BK.out 2).trans rfl;have q3_ : w9.cell? ⟨g14,3,none⟩ = some (.int .i64 0):=(blk_cell BK.out 3).trans rfl;have q4_ : w9.cell? ⟨g14,4,none⟩ = some (.int .i64 0):=(blk_cell BK.out 4).trans rfl;have q5_ : w9.cell? ⟨g14,5,none⟩ = some (.slice none 0 0):=(blk_cell BK.out 5).trans rfl;have f0_:=blk_frozen BK.out 0;have f1_:=blk_frozen BK.out 1;have f2_:=blk_frozen BK.out 2;have f3_:=blk_frozen BK.out 3;have f4_:=blk_frozen BK.out 4;have f5_:=blk_frozen BK.out 5) | ((with_reducible refine gD_ 17 rfl ?_);refine bx_ #[.int .i64 0,.int .i64 0,.int .i64 0,.int .i64 0] 28 ?_;intro gl hg w11 hbox hb;have BL:=Z_ hbox;have GL:=Z_ (show w.heap.size ≤ gl by rw [hg];exact below_size HB.out);have NE:=Z_ (show g14 ≠ gl by rw [hg];exact Nat.ne_of_lt (blk_lt BK.out));have NES:=Z_ (show S ≠ gl by rw [hg];exact Nat.ne_of_lt (blk_lt HV.out.1));have ne1_:=NE.out;have ne2_:=NE.out.symm;have ne3_:=NES.out;have ne4_:=NES.out.symm;replace HV:=Z_ (st_below HV.out hb);replace HB:=Z_ (lP_ HB.out hb);replace BK:=Z_ (bB_ BK.out hb);clear hb hbox hg;have y0_ : w11.cell? ⟨gl,0,none⟩ = some (.int .i64 0):=(blk_cell BL.out 0).trans rfl;have y1_ : w11.cell? ⟨gl,1,none⟩ = some (.int .i64 0):=(blk_cell BL.out 1).trans rfl;have y2_ : w11.cell? ⟨gl,2,none⟩ = some (.int .i64 0):=(blk_cell BL.out 2).trans rfl;have y3_ : w11.cell? ⟨gl,3,none⟩ = some (.int .i64 0):=(blk_cell BL.out 3).trans rfl;have z0_:=blk_frozen BL.out 0;have z1_:=blk_frozen BL.out 1;have z2_:=blk_frozen BL.out 2;have z3_:=blk_frozen BL.out 3;(try clear m0_ m1_);have m0_ : w11.cell? ⟨S,0,none⟩ = some _:=(blk_cell HV.out.1 0).trans rfl;have m1_ : w11.cell? ⟨S,1,none⟩ = some _:=(blk_cell HV.out.1 1).trans rfl;(try clear q0_ q1_ q2_ q3_ q4_ q5_ f0_ f1_ f2_ f3_ f4_ f5_);have q0_ : w11.cell? ⟨g14,0,none⟩ = some (.int .i64 0):=(blk_cell BK.out 0).trans rfl;have q1_ : w11.cell? ⟨g14,1,none⟩ = some (.int .i64 0):=(blk_cell BK.out 1).trans rfl;have q2_ : w11.cell? ⟨g14,2,none⟩ = some (.int .i64 0):=(blk_cell BK.out 2).trans rfl;have q3_ : w11.cell? ⟨g14,3,none⟩ = some (.int .i64 0):=(blk_cell BK.out 3).trans rfl;have q4_ : w11.cell? ⟨g14,4,none⟩ = some (.int .i64 0):=(blk_cell BK.out 4).trans rfl;have q5_ : w11.cell? ⟨g14,5,none⟩ = some (.slice none 0 0):=(blk_cell BK.out 5).trans rfl;have f0_:=blk_frozen BK.out 0;have f1_:=blk_frozen BK.out 1;have f2_:=blk_frozen BK.out 2;have f3_:=blk_frozen BK.out 3;have f4_:=blk_frozen BK.out 4;have f5_:=blk_frozen BK.out 5))
   have n0_:=Z_ (lS1_ (j:=3) (v:=.int .i64 k4) (lS1_ (j:=2) (v:=.int .i64 k3) (lS1_ (j:=1) (v:=.int .i64 k2) (lS1_ (j:=0) (v:=.int .i64 k1) HB.out GL.out) GL.out) GL.out) GL.out)
   have n1_:=Z_ (bF_ (bF_ (bF_ (bF_ BK.out (p:=⟨gl,0,none⟩) NE.out (.int .i64 k1)) (p:=⟨gl,1,none⟩) NE.out (.int .i64 k2)) (p:=⟨gl,2,none⟩) NE.out (.int .i64 k3)) (p:=⟨gl,3,none⟩) NE.out (.int .i64 k4))
   have n2_:=Z_ (st_far (st_far (st_far (st_far HV.out BL.out (by decide) (by decide) 0 (.int .i64 k1)) (blk_put BL.out 0 (.int .i64 k1) rfl) (by decide) (by decide) 1 (.int .i64 k2)) (blk_put (blk_put BL.out 0 (.int .i64 k1) rfl) 1 (.int .i64 k2) rfl) (by decide) (by decide) 2 (.int .i64 k3)) (blk_put (blk_put (blk_put BL.out 0 (.int .i64 k1) rfl) 1 (.int .i64 k2) rfl) 2 (.int .i64 k3) rfl) (by decide) (by decide) 3 (.int .i64 k4))
   have n3_ : Aside0 (((((w11.setCell ⟨gl,0,none⟩ (.int .i64 k1)).setCell ⟨gl,1,none⟩ (.int .i64 k2)).setCell ⟨gl,2,none⟩ (.int .i64 k3)).setCell ⟨gl,3,none⟩ (.int .i64 k4)).heap[gl]? = some (.cells #[.int .i64 k1,.int .i64 k2,.int .i64 k3,.int .i64 k4] 28 (0,0))):=Z_ (blk_put (blk_put (blk_put (blk_put BL.out 0 (.int .i64 k1) rfl) 1 (.int .i64 k2) rfl) 2 (.int .i64 k3) rfl) 3 (.int .i64 k4) rfl)
   clear HB BK HV BL
   have HB:=n0_;have BK:=n1_;have HV:=n2_;have BL:=n3_
   clear n0_ n1_ n2_ n3_
   clear m0_ m1_ y0_ y1_ y2_ y3_ z0_ z1_ z2_ z3_ q0_ q1_ q2_ q3_ q4_ q5_ f0_ f1_ f2_ f3_ f4_ f5_
   generalize hw12 : ((((w11.setCell ⟨gl,0,none⟩ (.int .i64 k1)).setCell ⟨gl,1,none⟩ (.int .i64 k2)).setCell ⟨gl,2,none⟩ (.int .i64 k3)).setCell ⟨gl,3,none⟩ (.int .i64 k4)) = w12 at HB BK HV BL ⊢
   clear hw12
   have n0_:=Z_ (below_drew HB.out)
   have n1_:=Z_ (bD_ BK.out)
   have n2_:=Z_ (st_drew HV.out)
   have n3_:=Z_ (bD_ BL.out)
   clear HB BK HV BL
   have HB:=n0_;have BK:=n1_;have HV:=n2_;have BL:=n3_
   clear n0_ n1_ n2_ n3_
   refine start_ (n:=7) (S:=fun w' => w'.cell? ⟨gl,0,none⟩ = some (.int .i64 k1) ∧ w'.cell? ⟨gl,1,none⟩ = some (.int .i64 k2) ∧ w'.cell? ⟨gl,2,none⟩ = some (.int .i64 k3) ∧ w'.cell? ⟨gl,3,none⟩ = some (.int .i64 k4) ∧ w'.cell? ⟨S,0,none⟩ = some (.slice A9 lt.length c9)) (ds:=[6]) (Bt 7 0) (by kernel_rfl) rfl rfl ⟨(blk_cell BL.out 0).trans rfl,(blk_cell BL.out 1).trans rfl,(blk_cell BL.out 2).trans rfl,(blk_cell BL.out 3).trans rfl,(blk_cell HV.out.1 0).trans rfl⟩ (fun hHeld => ?_)
   generalize hw13 : w12.drew = w13 at HB BK HV BL hHeld ⊢
   clear hw13
   refine ta_ 0 (some 62) (Bt 7 1) (by kernel_rfl) hHeld ?_
   refine pu_ 1 (some 63) (Bt 7 3) (by kernel_rfl) ?_
   refine pu_ 2 (some 64) (Bt 7 7) (by kernel_rfl) ?_
   refine pu_ 3 (some 65) (Bt 7 15) (by kernel_rfl) ?_
   refine ta_ 4 (some 66) (Bt 7 31) (by kernel_rfl) hHeld ?_
   refine pu_ 5 (some 67) (Bt 7 63) (by kernel_rfl) ?_
   refine last_ (i:=6) (N:=none) (Bt 7 127) rfl rfl (by kernel_rfl) (by decide) (fun K hK => ?_)
   have q0_ : w13.cell? ⟨g14,0,none⟩ = some (.int .i64 0):=(blk_cell BK.out 0).trans rfl;have q1_ : w13.cell? ⟨g14,1,none⟩ = some (.int .i64 0):=(blk_cell BK.out 1).trans rfl;have q2_ : w13.cell? ⟨g14,2,none⟩ = some (.int .i64 0):=(blk_cell BK.out 2).trans rfl;have q3_ : w13.cell? ⟨g14,3,none⟩ = some (.int .i64 0):=(blk_cell BK.out 3).trans rfl;have q4_ : w13.cell? ⟨g14,4,none⟩ = some (.int .i64 0):=(blk_cell BK.out 4).trans rfl;have q5_ : w13.cell? ⟨g14,5,none⟩ = some (.slice none 0 0):=(blk_cell BK.out 5).trans rfl;have f0_:=blk_frozen BK.out 0;have f1_:=blk_frozen BK.out 1;have f2_:=blk_frozen BK.out 2;have f3_:=blk_frozen BK.out 3;have f4_:=blk_frozen BK.out 4;have f5_:=blk_frozen BK.out 5
   refine skip_ (w1:=?_) (by rfl) rfl ?_ ?_
   rotate_left
   ·go_simp
    rfl
   refine hK.out _ _ ?_
   clear hK K
   refine done_ (by kernel_rfl) ?_
   go_wp2
   have HOA:=Z_ (show ∀ k,(.slice A9 lt.length c9 : Value).ownBlock = some k → k ≠ g14 from fun k hk e => (Kd.R_ne HV.out.2.2 BK.out (by decide)) (by rw [← e];exact hk.symm))
   refine bodyPost_ret (results_cell_row rfl _ _ g14 30 #[.int .i64 0,.int .i64 k1,.int .i64 k2,.int .i64 k3,.int .i64 k4,.slice A9 lt.length c9] (0,0) _ rfl (blk_put (blk_put (blk_put (blk_put (blk_put (blk_put BK.out 0 _ rfl) 1 _ rfl) 2 _ rfl) 3 _ rfl) 4 _ rfl) 5 _ rfl) Try.underlying30 rfl (by kernel_rfl)) rfl ?_
   exact ⟨_,rfl,Kd.R_mono (Kd.R_lower (Kd.R_far (Kd.R_far (Kd.R_far (Kd.R_far (Kd.R_far (Kd.R_far (R_not HV.out.2.2 HOA.out) (p:=⟨g14,0,none⟩) (fun k hk => hk) _) (p:=⟨g14,1,none⟩) (fun k hk => hk) _) (p:=⟨g14,2,none⟩) (fun k hk => hk) _) (p:=⟨g14,3,none⟩) (fun k hk => hk) _) (p:=⟨g14,4,none⟩) (fun k hk => hk) _) (p:=⟨g14,5,none⟩) (fun k hk => hk) _) NW.out) (fun _ _ => trivial),lS1_ (lS1_ (lS1_ (lS1_ (lS1_ (lS1_ HB.out GE.out) GE.out) GE.out) GE.out) GE.out) GE.out⟩
 ·rw [if_neg hz] at h
  have hz0 : (c == 0) = false:=by simpa using hz
  have hz1 : (c != 0) = true:=by simpa using hz
  simp only [Option.some.injEq,Prod.mk.injEq] at h
  obtain ⟨rfl,rfl,rfl,rfl,rfl,rfl⟩:=h
  go_enter Try.func8,Try.ntmps8
  go_wp2_with (first | ((with_reducible refine gD_ 14 rfl ?_);refine bx_ zs5 30 ?_;intro g14 hg w2 hbox hb;have n0_:=Z_ (lP_ HB.out hb);have BK:=Z_ hbox;have GE:=Z_ (show w.heap.size ≤ g14 by rw [hg];exact below_size HB.out);clear HB;have HB:=n0_;clear n0_ hb hbox hg;(try clear q0_ q1_ q2_ q3_ q4_ q5_ f0_ f1_ f2_ f3_ f4_ f5_);have q0_ : w2.cell? ⟨g14,0,none⟩ = some (.int .i64 0):=(blk_cell BK.out 0).trans rfl;have q1_ : w2.cell? ⟨g14,1,none⟩ = some (.int .i64 0):=(blk_cell BK.out 1).trans rfl;have q2_ : w2.cell? ⟨g14,2,none⟩ = some (.int .i64 0):=(blk_cell BK.out 2).trans rfl;have q3_ : w2.cell? ⟨g14,3,none⟩ = some (.int .i64 0):=(blk_cell BK.out 3).trans rfl;have q4_ : w2.cell? ⟨g14,4,none⟩ = some (.int .i64 0):=(blk_cell BK.out 4).trans rfl;have q5_ : w2.cell? ⟨g14,5,none⟩ = some (.slice none 0 0):=(blk_cell BK.out 5).trans rfl;have f0_:=blk_frozen BK.out 0;have f1_:=blk_frozen BK.out 1;have f2_:=blk_frozen BK.out 2;have f3_:=blk_frozen BK.out 3;have f4_:=blk_frozen BK.out 4;have f5_:=blk_frozen BK.out 5) | ((with_reducible refine gD_ 21 rfl ?_);refine Kd.R_lit (Kd.int .i64) _ 2 ?hg (N:=21) ?hd (xs:=([a5,a6] : List Int)) (inner:=[.int .i64 a5,.int .i64 a6]) (ok:=fun _ => True) (okp:=fun _ => True) ?hr ?hp (fun _ hk => hk) trivial (Below.refl _ _) (Nat.le_refl _) (by simp) ?_;(case hd => rfl);(case hg => rfl);(case hr => first | (go_simp;done) | (go_simp;rfl));(case hp => exact reps_ints _);intro v1 w1 ho hb hg hn;clear hg hn;obtain ⟨AP,cP,eP⟩:=Kd.R_slice ho;subst eP;have HP:=Z_ ho;clear ho;replace HB:=Z_ (lP_ HB.out hb);replace BK:=Z_ (bB_ BK.out hb);clear hb;(try clear q0_ q1_ q2_ q3_ q4_ q5_ f0_ f1_ f2_ f3_ f4_ f5_);have q0_ : w1.cell? ⟨g14,0,none⟩ = some (.int .i64 0):=(blk_cell BK.out 0).trans rfl;have q1_ : w1.cell? ⟨g14,1,none⟩ = some (.int .i64 0):=(blk_cell BK.out 1).trans rfl;have q2_ : w1.cell? ⟨g14,2,none⟩ = some (.int .i64 0):=(blk_cell BK.out 2).trans rfl;have q3_ : w1.cell? ⟨g14,3,none⟩ = some (.int .i64 0):=(blk_cell BK.out 3).trans rfl;have q4_ : w1.cell? ⟨g14,4,none⟩ = some (.int .i64 0):=(blk_cell BK.out 4).trans rfl;have q5_ : w1.cell? ⟨g14,5,none⟩ = some (.slice none 0 0):=(blk_cell BK.out 5).trans rfl;have f0_:=blk_frozen BK.out 0;have f1_:=blk_frozen BK.out 1;have f2_:=blk_frozen BK.out 2;have f3_:=blk_frozen BK.out 3;have f4_:=blk_frozen BK.out 4;have f5_:=blk_frozen BK.out 5) | ((with_reducible refine gD_ 26 rfl ?_);refine Kd.R_lit (Kd.int .i64) _ 2 ?hg (N:=26) ?hd (xs:=([a1,a2,a3,a4] : List Int)) (inner:=[.int .i64 a1,.int .i64 a2,.int .i64 a3,.int .i64 a4]) (ok:=fun _ => True) (okp:=fun _ => True) ?hr ?hp (fun _ hk => hk) trivial (Below.refl _ _) (Nat.le_refl _) (by simp) ?_;(case hd => rfl);(case hg => rfl);(case hr => first | (go_simp;done) | (go_simp;rfl));(case hp => exact reps_ints _);intro v1 w1 ho hb hg hn;clear hg hn;obtain ⟨AQ,cQ,eQ⟩:=Kd.R_slice ho;subst eQ;have HQ:=Z_ ho;clear ho;replace HB:=Z_ (lP_ HB.out hb);replace BK:=Z_ (bB_ BK.out hb);replace HP:=Z_ (Kd.R_below HP.out hb);clear hb;(try clear q0_ q1_ q2_ q3_ q4_ q5_ f0_ f1_ f2_ f3_ f4_ f5_);have q0_ : w1.cell? ⟨g14,0,none⟩ = some (.int .i64 0):=(blk_cell BK.out 0).trans rfl;have q1_ : w1.cell? ⟨g14,1,none⟩ = some (.int .i64 0):=(blk_cell BK.out 1).trans rfl;have q2_ : w1.cell? ⟨g14,2,none⟩ = some (.int .i64 0):=(blk_cell BK.out 2).trans rfl;have q3_ : w1.cell? ⟨g14,3,none⟩ = some (.int .i64 0):=(blk_cell BK.out 3).trans rfl;have q4_ : w1.cell? ⟨g14,4,none⟩ = some (.int .i64 0):=(blk_cell BK.out 4).trans rfl;have q5_ : w1.cell? ⟨g14,5,none⟩ = some (.slice none 0 0):=(blk_cell BK.out 5).trans rfl;have f0_:=blk_frozen BK.out 0;have f1_:=blk_frozen BK.out 1;have f2_:=blk_frozen BK.out 2;have f3_:=blk_frozen BK.out 3;have f4_:=blk_frozen BK.out 4;have f5_:=blk_frozen BK.out 5) | (go_at_call 41;refine (impl_namesFault.calls k A0 c0 l0 AP cP [a5,a6] AQ cQ [a1,a2,a3,a4] _ _ (Kd.C_below HR.out HB.out) HC.out (Kd.R_reads' HP.out).2.2 (Kd.R_reads' HP.out).2.1 (Kd.R_reads' HQ.out).2.2 (Kd.R_reads' HQ.out).2.1 HF.out).mono ?_;rintro e w4 ⟨rfl,hb⟩;replace HB:=Z_ (lP_ HB.out hb);replace BK:=Z_ (bB_ BK.out hb);replace HP:=Z_ (Kd.R_below HP.out hb);replace HQ:=Z_ (Kd.R_below HQ.out hb);clear hb;(try clear q0_ q1_ q2_ q3_ q4_ q5_ f0_ f1_ f2_ f3_ f4_ f5_);have q0_ : w4.cell? ⟨g14,0,none⟩ = some (.int .i64 0):=(blk_cell BK.out 0).trans rfl;have q1_ : w4.cell? ⟨g14,1,none⟩ = some (.int .i64 0):=(blk_cell BK.out 1).trans rfl;have q2_ : w4.cell? ⟨g14,2,none⟩ = some (.int .i64 0):=(blk_cell BK.out 2).trans rfl;have q3_ : w4.cell? ⟨g14,3,none⟩ = some (.int .i64 0):=(blk_cell BK.out 3).trans rfl;have q4_ : w4.cell? ⟨g14,4,none⟩ = some (.int .i64 0):=(blk_cell BK.out 4).trans rfl;have q5_ : w4.cell? ⟨g14,5,none⟩ = some (.slice none 0 0):=(blk_cell BK.out 5).trans rfl;have f0_:=blk_frozen BK.out 0;have f1_:=blk_frozen BK.out 1;have f2_:=blk_frozen BK.out 2;have f3_:=blk_frozen BK.out 3;have f4_:=blk_frozen BK.out 4;have f5_:=blk_frozen BK.out 5))
  refine bodyPost_ret (results_cell_row rfl _ _ g14 30 #[.int .i64 c,.int .i64 0,.int .i64 0,.int .i64 0,.int .i64 0,.slice none 0 0] (0,0) _ rfl (blk_put (blk_put (blk_put (blk_put (blk_put (blk_put BK.out 0 _ rfl) 1 _ rfl) 2 _ rfl) 3 _ rfl) 4 _ rfl) 5 _ rfl) Try.underlying30 rfl (by kernel_rfl)) rfl ?_
  exact ⟨_,rfl,Kd.R_nil _ _ _ _ _,lS1_ (lS1_ (lS1_ (lS1_ (lS1_ (lS1_ HB.out GE.out) GE.out) GE.out) GE.out) GE.out) GE.out⟩
end Go.Proofs.Ytpabeajjbifjdaa.G
