/- Part 4 of the proof of FnKeys: what the functions on its road do, and the plain laws. -/
import Derived.Test.YtpabeajjbifjdaaCFnKeys3
import Derived.RangeFuncNested
import Derived.RangeFuncBound
import Derived.RangeFuncCalls
import Derived.RangeFuncLeaves
import Derived.RangeFuncWrites
import Derived.RangeFuncBox
import Derived.Shelf.Abstract
import Derived.OwnWalkIn
import Derived.TacticsInMore
import Derived.LoopNIn
import Derived.LoopIn
import Derived.OrdersIn
namespace Go.Proofs.Ytpabeajjbifjdaa.G
open Go.RowKit Go.Proofs.YtpabeajjbifjdaaW.PrintWords Go.Proofs.YtpabeajjbifjdaaW.PrintLast Go.Proofs.YtpabeajjbifjdaaW.PrintMore
attribute [local go_sem] max2_int min2_int max_two min_two max_three min_three max_four min_four   -- for this text's walks alone
set_option linter.unusedVariables false
set_option linter.unusedSimpArgs false
def spec_TermsFault.l0 : Nat → List (S36) → Int → Option (Int)
 | 0,_,_ => none
 | k + 1,x0,x3 => if x3 < (x0.length : Int) then (if 0 ≤ x3 then (if x3 ≤ (x0.length : Int) then ((spec_l5Term.f k (x0.take (x3 : Int).toNat) ((rd_T36 x0 x3).f0) ((rd_T36 x0 x3).f1) ((rd_T36 x0 x3).f2) ((rd_T36 x0 x3).f3)).bind fun t289 => (if t289 = 0 then ((spec_l5Find.f k (x0.take (x3 : Int).toNat) ((rd_T36 x0 x3).f0) ((rd_T36 x0 x3).f1) ((rd_T36 x0 x3).f2) ((rd_T36 x0 x3).f3)).bind fun t295 => (if t295 ≥ 0 then (some 7) else (spec_TermsFault.l0 k x0 (wrap64 (x3 + 1))))) else (some t289))) else (none)) else (none)) else (some 0)
def spec_TermsFault.f (k : Nat) (l0 : List (S36)) : Option (Int):=if (l0.length : Int) > 400 then (some 2) else (spec_TermsFault.l0 k l0 0)
def spec_TermsFault.T6 : Bool × List (List Nat × List Nat):=(true,[([],[]),([],[]),([0,1],[0,1]),([],[]),([],[]),([3,4],[3,4]),([5],[5]),([2,6],[2,6]),([7,7,0,1,2,3,4,5,6,7],[7])])
def spec_TermsFault.B6 : List Nat:=[0,0,3,0,0,24,56,127,255]
theorem spec_TermsFault.tab6 : rtab .any (opsOf Try.f51 6) = spec_TermsFault.T6:=by kernel_rfl
theorem spec_TermsFault.bits6 : waitsOk spec_TermsFault.T6.2 spec_TermsFault.B6 = true:=by kernel_rfl
def spec_TermsFault.T9 : Bool × List (List Nat × List Nat):=(true,[([],[]),([],[]),([0,1],[0,1]),([],[]),([],[]),([3,4],[3,4]),([5],[5]),([2,6],[2,6]),([7],[7])])
def spec_TermsFault.B9 : List Nat:=[0,0,3,0,0,24,56,127,255]
theorem spec_TermsFault.tab9 : rtab .any (opsOf Try.f51 9) = spec_TermsFault.T9:=by kernel_rfl
theorem spec_TermsFault.bits9 : waitsOk spec_TermsFault.T9.2 spec_TermsFault.B9 = true:=by kernel_rfl
abbrev spec_TermsFault.calls.b0 : Array Bool:=#[false,false,false,false,false,false,false,false,false]
abbrev spec_TermsFault.calls.b1 : Array Bool:=#[true,false,false,false,false,false,false,false,false]
abbrev spec_TermsFault.calls.b2 : Array Bool:=#[true,true,false,false,false,false,false,false,false]
abbrev spec_TermsFault.calls.b3 : Array Bool:=#[true,true,true,false,false,false,false,false,false]
abbrev spec_TermsFault.calls.b4 : Array Bool:=#[true,true,true,true,false,false,false,false,false]
abbrev spec_TermsFault.calls.b5 : Array Bool:=#[true,true,true,true,true,false,false,false,false]
abbrev spec_TermsFault.calls.b6 : Array Bool:=#[true,true,true,true,true,true,false,false,false]
abbrev spec_TermsFault.calls.b7 : Array Bool:=#[true,true,true,true,true,true,true,false,false]
abbrev spec_TermsFault.calls.b8 : Array Bool:=#[true,true,true,true,true,true,true,true,false]
abbrev spec_TermsFault.calls.b9 : Array Bool:=#[true,true,true,true,true,true,true,true,true]
set_option maxHeartbeats 8000000 in
set_option maxRecDepth 100000 in
theorem spec_TermsFault.calls (k : Nat) (A0 : Option Addr) (c0 : Nat) (l0 : List (S36)) (r : Int) (w : World) (hr0 : Kd.C k36 w A0 l0.length l0) (hc0 : l0.length ≤ c0) (h : spec_TermsFault.f k l0 = some r) :
  Calls Try.prog 51 #[.slice A0 l0.length c0] w fun e w' => e = .returned (.int .i64 r) ∧ Below w.heap.size w w':=by
 have hu36:=Try.underlying36
 have a3:=Z_ hr0
 have aa:=Z_ hc0
 clear hr0 hc0
 have HB:=Z_ (Below.refl w.heap.size w)
 unfold spec_TermsFault.f at h
 have H:=h
 clear h
 replace H:=iC_ H
 obtain ⟨c2,H⟩ | ⟨c2,H⟩:=H
 ·have c2b0 : decide (400 < (l0.length : Int)) = true:=decide_eq_true c2
  have c2b1 : decide (400 < l0.length) = true:=decide_eq_true (by omega)
  clear c2
  obtain rfl:=Option.some.inj H
  go_enter Try.func51,Try.ntmps51
  go_wp2
  go_ret
  exact ⟨Er_,Lb_⟩
 have c2b0 : decide (400 < (l0.length : Int)) = false:=decide_eq_false c2
 have c2b1 : decide (400 < l0.length) = false:=decide_eq_false (by omega)
 clear c2
 have H':=Z_ H
 clear H
 go_enter Try.func51,Try.ntmps51
 go_wp2
 go_loopg [3] k (fun kq v3 w' => ∃ (x3_1 : Int),v3 = .int .i64 x3_1 ∧ Aside0 (spec_TermsFault.l0 kq l0 x3_1 = some r) ∧ Aside0 (kq ≤ k) ∧ Aside0 (Below w.heap.size w w'))
 case atStart => exact ⟨(0),Sr_,H',⟨Nat.le_refl _⟩,⟨Lb_⟩⟩
 case round =>
  clear H'
  try clear c2
  try clear c2b0
  try clear c2b1
  try clear p2
  obtain ⟨x3_1,rfl,HA,HK1,HB⟩:=hrel
  cases gk with
  | zero => exact absurd HA.out (by simp [spec_TermsFault.l0])
  | succ k1 =>
   have H:=HA.out
   clear HA
   simp only [spec_TermsFault.l0] at H
   replace H:=iD_ H
   obtain ⟨c3b0,H⟩ | ⟨c3b0,H⟩:=H
   rotate_left
   ·obtain rfl:=Option.some.inj H
    go_wp2
    go_ret
    exact ⟨Er_,Lb_⟩
   rotate_right
   replace H:=iN_ H
   obtain ⟨c4,H⟩:=H
   have c4b0:=eq_true c4
   have c4b1 : decide (0 ≤ x3_1) = true:=decide_eq_true c4
   clear c4
   replace H:=iN_ H
   obtain ⟨c5,H⟩:=H
   have c5b0:=eq_true c5
   have c5b1 : decide (x3_1 ≤ (l0.length : Int)) = true:=decide_eq_true c5
   clear c5
   obtain ⟨y284,hy284⟩ : ∃ y_ : List (S36),y_ = (l0.take (x3_1 : Int).toNat):=⟨_,rfl⟩
   replace H : ((spec_l5Term.f k1 y284 ((rd_T36 l0 x3_1).f0) ((rd_T36 l0 x3_1).f1) ((rd_T36 l0 x3_1).f2) ((rd_T36 l0 x3_1).f3)).bind fun t289 => (if t289 = 0 then ((spec_l5Find.f k1 (l0.take (x3_1 : Int).toNat) ((rd_T36 l0 x3_1).f0) ((rd_T36 l0 x3_1).f1) ((rd_T36 l0 x3_1).f2) ((rd_T36 l0 x3_1).f3)).bind fun t295 => (if t295 ≥ 0 then (some 7) else (spec_TermsFault.l0 k1 l0 (wrap64 (x3_1 + 1))))) else (some t289))) = some r:=by first | (rw [hy284];with_reducible exact H) | (have H2_:=(Option.bind_some _ _).symm.trans H;rw [hy284];with_reducible exact H2_) | (have H2_:=(Option.bind_some _ _).symm.trans H;with_reducible exact H2_) | with_reducible exact H | (rw [hy284];exact H) | exact H
   have a2:=Z_ hy284
   clear hy284
   replace H:=bS_ H
   obtain ⟨t289,A6,H⟩:=H
   replace H:=iE_ H
   obtain ⟨c7b0,c7b1,H⟩ | ⟨c7b0,c7b1,H⟩:=H
   rotate_left
   ·obtain rfl:=Option.some.inj H
    try go_wp2
    replace HB:=Z_ (lD_ HB.out)
    have q25 : (x3_1 : Int) ≤ ((l0.length : Int) : Int):=dA_
    obtain ⟨i025,hi025,_,hsz25,_⟩:=info_parts info36
    have hroom25 : l0.length ≤ c0:=aa.out
    have hC25 : Kd.C k36 _ A0 l0.length l0:=a3.out
    try clear a1
    try clear a5
    try clear a8
    try clear ab
    have ad:=cut_to (P:=Try.prog) 24 36 .i64 Try.underlying24 hi025 A0 l0.length c0 x3_1 (dA_) q25 hroom25
    have hr25:=Kd.C_take (m:=(x3_1 : Int).toNat) hC25 (by omega)
    have hy25 : y284.length = (x3_1 : Int).toNat:=(by rw [a2.out,List.length_take];omega)
    rw [← a2.out] at hr25
    rw [← hy25] at ad
    have a0:=Z_ hr25
    have a4:=Z_ (show y284.length ≤ c0 from by omega)
    clear hr25 hC25 hroom25 hi025 hsz25
    have KY25:=Z_ hy25
    clear hy25
    replace q25:=eq_true q25
    have p288 : 0 ≤ (x3_1 : Int):=dA_
    have q288 : x3_1 < (l0.length : Int):=dA_
    obtain ⟨ad288,e288,hx288_0,hx288_1,hx288_2,hx288_3⟩:=at_T36 a3.out x3_1 p288 q288
    have hw288_3:=hx288_3
    have hw288_2:=hx288_2
    have hw288_1:=hx288_1
    have hw288_0:=hx288_0
    cases e288
    replace hx288_0:=cB_ HB hx288_0
    replace hx288_1:=cB_ HB hx288_1
    replace hx288_2:=cB_ HB hx288_2
    replace hx288_3:=cB_ HB hx288_3
    replace p288:=eq_true p288
    replace q288:=eq_true q288
    refine start_ (n:=9) (S:=fun w' => w'.cell? (ad288.add ((x3_1).toNat * 4)) = some (.int .i64 ((rd_T36 l0 x3_1).f0)) ∧ w'.cell? ⟨(ad288.add ((x3_1).toNat * 4)).block,(ad288.add ((x3_1).toNat * 4)).off + 1,none⟩ = some (.int .i64 ((rd_T36 l0 x3_1).f1)) ∧ w'.cell? ⟨(ad288.add ((x3_1).toNat * 4)).block,(ad288.add ((x3_1).toNat * 4)).off + 2,none⟩ = some (.int .i64 ((rd_T36 l0 x3_1).f2)) ∧ w'.cell? ⟨(ad288.add ((x3_1).toNat * 4)).block,(ad288.add ((x3_1).toNat * 4)).off + 3,none⟩ = some (.int .i64 ((rd_T36 l0 x3_1).f3))) (ds:=[]) spec_TermsFault.calls.b0 (by kernel_rfl) rfl rfl ⟨(cB_ HB hw288_0),(cB_ HB hw288_1),(cB_ HB hw288_2),(cB_ HB hw288_3)⟩ (fun hHeld => ?_);refine with_tabW spec_TermsFault.tab6 spec_TermsFault.bits6 (fun HT_ HW_ => ?_)
    generalize wr.drew = w24 at HB a0 hx288_0 hx288_1 hx288_2 hx288_3 hHeld ⊢
    refine pure_ (i:=0) (N:=some 14) (v:=?_) (a':=?_) spec_TermsFault.calls.b1 rfl rfl (any_of HT_.out (by kernel_rfl)) (fun _ _ _ h => h) (Or.inl ⟨by rfl,?_⟩) ?_ ?_
    rotate_left
    ·intro w'
     go_simp
     with_reducible rfl
    rotate_left
    ·simp only [Act.put,lA_,lZ_,lS_,i64_w,i32_w]
     rfl
    refine pure_ (i:=1) (N:=some 15) (v:=?_) (a':=?_) spec_TermsFault.calls.b2 rfl rfl (any_of HT_.out (by kernel_rfl)) (fun _ _ _ h => h) (Or.inl ⟨by rfl,?_⟩) ?_ ?_
    rotate_left
    ·intro w'
     go_simp
     with_reducible rfl
    rotate_left
    ·simp only [Act.put,lA_,lZ_,lS_,i64_w,i32_w]
     rfl
    refine pure_ (i:=2) (N:=some 16) (v:=?_) (a':=?_) spec_TermsFault.calls.b3 rfl rfl (any_of HT_.out (by kernel_rfl)) (fun _ _ _ h => h) (Or.inl ⟨by rfl,?_⟩) ?_ ?_
    rotate_left
    ·intro w'
     go_simp
     with_reducible rfl
    rotate_left
    ·simp only [Act.put,lA_,lZ_,lS_,i64_w,i32_w]
     rfl
    refine pure_ (i:=3) (N:=some 17) (v:=?_) (a':=?_) spec_TermsFault.calls.b4 rfl rfl (any_of HT_.out (by kernel_rfl)) (fun _ _ _ h => h) (Or.inl ⟨by rfl,?_⟩) ?_ ?_
    rotate_left
    ·intro w'
     go_simp
     with_reducible rfl
    rotate_left
    ·simp only [Act.put,lA_,lZ_,lS_,i64_w,i32_w]
     rfl
    refine pure_ (i:=4) (N:=some 18) (v:=?_) (a':=?_) spec_TermsFault.calls.b5 rfl rfl (any_of HT_.out (by kernel_rfl)) (fun _ _ _ h => h) (Or.inl ⟨by rfl,?_⟩) ?_ ?_
    rotate_left
    ·intro w'
     go_simp
     with_reducible rfl
    rotate_left
    ·simp only [Act.put,lA_,lZ_,lS_,i64_w,i32_w]
     rfl
    refine pure_ (i:=5) (N:=some 19) (v:=?_) (a':=?_) spec_TermsFault.calls.b6 rfl rfl (any_of HT_.out (by kernel_rfl)) (fun _ _ _ h => h) (Or.inl ⟨by rfl,?_⟩) ?_ ?_
    rotate_left
    ·intro w'
     go_simp
     with_reducible rfl
    rotate_left
    ·simp only [Act.put,lA_,lZ_,lS_,i64_w,i32_w]
     rfl
    refine take_ (i:=6) (N:=some 20) (v:=?_) (a':=?_) spec_TermsFault.calls.b7 rfl rfl (take_ofW HT_.out HW_.out (by kernel_rfl)) (fun _ _ _ h => h) (Or.inl ⟨by rfl,?_⟩) hHeld ?_ ?_
    rotate_left
    ·rintro w' ⟨s0,s1,s2,s3⟩
     go_simp
     with_reducible rfl
    rotate_left
    ·simp only [Act.put,lA_,lZ_,lS_,i64_w,i32_w]
     rfl
    refine one_ (i:=7) (N:=some 21) spec_TermsFault.calls.b8 rfl rfl (one_of HT_.out (by kernel_rfl)) (by decide) (fun K hK => ?_)
    refine goes_ Try.func95 (by kernel_rfl) rfl #[.slice (some ad288) y284.length c0,.agg #[.int .i64 ((rd_T36 l0 x3_1).f0),.int .i64 ((rd_T36 l0 x3_1).f1),.int .i64 ((rd_T36 l0 x3_1).f2),.int .i64 ((rd_T36 l0 x3_1).f3)]] (by rfl) rfl rfl (by (try simp only [List.map_toArray,List.map_cons,List.map_nil]);first | done | rfl | (simp only [List.length_drop,List.length_take];rfl)) ?_
    with_reducible refine (spec_l5Term.calls k1 _ _ y284 ((rd_T36 l0 x3_1).f0) ((rd_T36 l0 x3_1).f1) ((rd_T36 l0 x3_1).f2) ((rd_T36 l0 x3_1).f3) t289 _ ?side1 ?side2 A6.out).mono ?_
    (case side1 => exact Cb_ a0)
    (case side2 => exact a4.out)
    rintro e w26 ⟨rfl,hb⟩
    refine ⟨_,rfl,?_⟩
    replace HB:=Z_ (lP_ Lb_ hb)
    (try clear hb)
    (try clear hb2)
    (try clear hk)
    (try clear hi)
    refine hK.out _ _ ⟨(cB_ HB hw288_0),(cB_ HB hw288_1),(cB_ HB hw288_2),(cB_ HB hw288_3)⟩ (fun hHeld => ?_)
    clear hK K
    refine norm_ (a':=?_) ?_ ?_
    rotate_left
    ·show Act.put _ (some 21) _ = _
     simp only [Act.put,lA_,lZ_,lS_,i64_w,i32_w]
     rfl
    refine pure_ (i:=8) (N:=some 4) (v:=?_) (a':=?_) spec_TermsFault.calls.b9 rfl rfl (any_of HT_.out (by kernel_rfl)) (fun _ _ _ h => h) (Or.inl ⟨by rfl,?_⟩) ?_ ?_
    rotate_left
    ·intro w'
     go_simp
     with_reducible rfl
    rotate_left
    ·simp only [Act.put,lA_,lZ_,lS_,i64_w,i32_w]
     rfl
    refine done_ (done_of HT_.out (by kernel_rfl)) ?_
    try go_wp2
    go_ret
    exact ⟨Er_,Lb_⟩
   rotate_right
   have c8b0:=eq_true (dA_ : 0 ≤ x3_1)
   have c9b0:=eq_true (dA_ : x3_1 ≤ (l0.length : Int))
   obtain ⟨y290,hy290⟩ : ∃ y_ : List (S36),y_ = (l0.take (x3_1 : Int).toNat):=⟨_,rfl⟩
   replace H : ((spec_l5Find.f k1 y290 ((rd_T36 l0 x3_1).f0) ((rd_T36 l0 x3_1).f1) ((rd_T36 l0 x3_1).f2) ((rd_T36 l0 x3_1).f3)).bind fun t295 => (if t295 ≥ 0 then (some 7) else (spec_TermsFault.l0 k1 l0 (wrap64 (x3_1 + 1))))) = some r:=by first | (rw [hy290];with_reducible exact H) | (have H2_:=(Option.bind_some _ _).symm.trans H;rw [hy290];with_reducible exact H2_) | (have H2_:=(Option.bind_some _ _).symm.trans H;with_reducible exact H2_) | with_reducible exact H | (rw [hy290];exact H) | exact H
   have a7:=Z_ hy290
   clear hy290
   replace H:=bS_ H
   obtain ⟨t295,af,H⟩:=H
   replace H:=iD_ H
   obtain ⟨c11b0,H⟩ | ⟨c11b0,H⟩:=H
   ·replace c11b0 : decide (0 ≤ t295) = true:=c11b0
    obtain rfl:=Option.some.inj H
    try go_wp2
    replace HB:=Z_ (lD_ HB.out)
    have q13 : (x3_1 : Int) ≤ ((l0.length : Int) : Int):=dA_
    obtain ⟨i013,hi013,_,hsz13,_⟩:=info_parts info36
    have hroom13 : l0.length ≤ c0:=aa.out
    have hC13 : Kd.C k36 _ A0 l0.length l0:=a3.out
    have a1:=cut_to (P:=Try.prog) 24 36 .i64 Try.underlying24 hi013 A0 l0.length c0 x3_1 (dA_) q13 hroom13
    have hr13:=Kd.C_take (m:=(x3_1 : Int).toNat) hC13 (by omega)
    have hy13 : y284.length = (x3_1 : Int).toNat:=(by rw [a2.out,List.length_take];omega)
    rw [← a2.out] at hr13
    rw [← hy13] at a1
    have a0:=Z_ hr13
    have a4:=Z_ (show y284.length ≤ c0 from by omega)
    clear hr13 hC13 hroom13 hi013 hsz13
    have KY13:=Z_ hy13
    clear hy13
    replace q13:=eq_true q13
    have p288 : 0 ≤ (x3_1 : Int):=dA_
    have q288 : x3_1 < (l0.length : Int):=dA_
    obtain ⟨ad288,e288,hx288_0,hx288_1,hx288_2,hx288_3⟩:=at_T36 a3.out x3_1 p288 q288
    have hw288_3:=hx288_3
    have hw288_2:=hx288_2
    have hw288_1:=hx288_1
    have hw288_0:=hx288_0
    cases e288
    replace hx288_0:=cB_ HB hx288_0
    replace hx288_1:=cB_ HB hx288_1
    replace hx288_2:=cB_ HB hx288_2
    replace hx288_3:=cB_ HB hx288_3
    replace p288:=eq_true p288
    replace q288:=eq_true q288
    refine start_ (n:=9) (S:=fun w' => w'.cell? (ad288.add ((x3_1).toNat * 4)) = some (.int .i64 ((rd_T36 l0 x3_1).f0)) ∧ w'.cell? ⟨(ad288.add ((x3_1).toNat * 4)).block,(ad288.add ((x3_1).toNat * 4)).off + 1,none⟩ = some (.int .i64 ((rd_T36 l0 x3_1).f1)) ∧ w'.cell? ⟨(ad288.add ((x3_1).toNat * 4)).block,(ad288.add ((x3_1).toNat * 4)).off + 2,none⟩ = some (.int .i64 ((rd_T36 l0 x3_1).f2)) ∧ w'.cell? ⟨(ad288.add ((x3_1).toNat * 4)).block,(ad288.add ((x3_1).toNat * 4)).off + 3,none⟩ = some (.int .i64 ((rd_T36 l0 x3_1).f3))) (ds:=[]) spec_TermsFault.calls.b0 (by kernel_rfl) rfl rfl ⟨(cB_ HB hw288_0),(cB_ HB hw288_1),(cB_ HB hw288_2),(cB_ HB hw288_3)⟩ (fun hHeld => ?_);refine with_tabW spec_TermsFault.tab6 spec_TermsFault.bits6 (fun HT_ HW_ => ?_)
    generalize wr.drew = w12 at HB a0 hx288_0 hx288_1 hx288_2 hx288_3 hHeld ⊢
    refine pure_ (i:=0) (N:=some 14) (v:=?_) (a':=?_) spec_TermsFault.calls.b1 rfl rfl (any_of HT_.out (by kernel_rfl)) (fun _ _ _ h => h) (Or.inl ⟨by rfl,?_⟩) ?_ ?_
    rotate_left
    ·intro w'
     go_simp
     with_reducible rfl
    rotate_left
    ·simp only [Act.put,lA_,lZ_,lS_,i64_w,i32_w]
     rfl
    refine pure_ (i:=1) (N:=some 15) (v:=?_) (a':=?_) spec_TermsFault.calls.b2 rfl rfl (any_of HT_.out (by kernel_rfl)) (fun _ _ _ h => h) (Or.inl ⟨by rfl,?_⟩) ?_ ?_
    rotate_left
    ·intro w'
     go_simp
     with_reducible rfl
    rotate_left
    ·simp only [Act.put,lA_,lZ_,lS_,i64_w,i32_w]
     rfl
    refine pure_ (i:=2) (N:=some 16) (v:=?_) (a':=?_) spec_TermsFault.calls.b3 rfl rfl (any_of HT_.out (by kernel_rfl)) (fun _ _ _ h => h) (Or.inl ⟨by rfl,?_⟩) ?_ ?_
    rotate_left
    ·intro w'
     go_simp
     with_reducible rfl
    rotate_left
    ·simp only [Act.put,lA_,lZ_,lS_,i64_w,i32_w]
     rfl
    refine pure_ (i:=3) (N:=some 17) (v:=?_) (a':=?_) spec_TermsFault.calls.b4 rfl rfl (any_of HT_.out (by kernel_rfl)) (fun _ _ _ h => h) (Or.inl ⟨by rfl,?_⟩) ?_ ?_
    rotate_left
    ·intro w'
     go_simp
     with_reducible rfl
    rotate_left
    ·simp only [Act.put,lA_,lZ_,lS_,i64_w,i32_w]
     rfl
    refine pure_ (i:=4) (N:=some 18) (v:=?_) (a':=?_) spec_TermsFault.calls.b5 rfl rfl (any_of HT_.out (by kernel_rfl)) (fun _ _ _ h => h) (Or.inl ⟨by rfl,?_⟩) ?_ ?_
    rotate_left
    ·intro w'
     go_simp
     with_reducible rfl
    rotate_left
    ·simp only [Act.put,lA_,lZ_,lS_,i64_w,i32_w]
     rfl
    refine pure_ (i:=5) (N:=some 19) (v:=?_) (a':=?_) spec_TermsFault.calls.b6 rfl rfl (any_of HT_.out (by kernel_rfl)) (fun _ _ _ h => h) (Or.inl ⟨by rfl,?_⟩) ?_ ?_
    rotate_left
    ·intro w'
     go_simp
     with_reducible rfl
    rotate_left
    ·simp only [Act.put,lA_,lZ_,lS_,i64_w,i32_w]
     rfl
    refine take_ (i:=6) (N:=some 20) (v:=?_) (a':=?_) spec_TermsFault.calls.b7 rfl rfl (take_ofW HT_.out HW_.out (by kernel_rfl)) (fun _ _ _ h => h) (Or.inl ⟨by rfl,?_⟩) hHeld ?_ ?_
    rotate_left
    ·rintro w' ⟨s0,s1,s2,s3⟩
     go_simp
     with_reducible rfl
    rotate_left
    ·simp only [Act.put,lA_,lZ_,lS_,i64_w,i32_w]
     rfl
    refine one_ (i:=7) (N:=some 21) spec_TermsFault.calls.b8 rfl rfl (one_of HT_.out (by kernel_rfl)) (by decide) (fun K hK => ?_)
    refine goes_ Try.func95 (by kernel_rfl) rfl #[.slice (some ad288) y284.length c0,.agg #[.int .i64 ((rd_T36 l0 x3_1).f0),.int .i64 ((rd_T36 l0 x3_1).f1),.int .i64 ((rd_T36 l0 x3_1).f2),.int .i64 ((rd_T36 l0 x3_1).f3)]] (by rfl) rfl rfl (by (try simp only [List.map_toArray,List.map_cons,List.map_nil]);first | done | rfl | (simp only [List.length_drop,List.length_take];rfl)) ?_
    with_reducible refine (spec_l5Term.calls k1 _ _ y284 ((rd_T36 l0 x3_1).f0) ((rd_T36 l0 x3_1).f1) ((rd_T36 l0 x3_1).f2) ((rd_T36 l0 x3_1).f3) t289 _ ?side1 ?side2 A6.out).mono ?_
    (case side1 => exact Cb_ a0)
    (case side2 => exact a4.out)
    rintro e w14 ⟨rfl,hb⟩
    refine ⟨_,rfl,?_⟩
    replace HB:=Z_ (lP_ Lb_ hb)
    (try clear hb)
    (try clear hb2)
    (try clear hk)
    (try clear hi)
    refine hK.out _ _ ⟨(cB_ HB hw288_0),(cB_ HB hw288_1),(cB_ HB hw288_2),(cB_ HB hw288_3)⟩ (fun hHeld => ?_)
    clear hK K
    refine norm_ (a':=?_) ?_ ?_
    rotate_left
    ·show Act.put _ (some 21) _ = _
     simp only [Act.put,lA_,lZ_,lS_,i64_w,i32_w]
     rfl
    refine pure_ (i:=8) (N:=some 4) (v:=?_) (a':=?_) spec_TermsFault.calls.b9 rfl rfl (any_of HT_.out (by kernel_rfl)) (fun _ _ _ h => h) (Or.inl ⟨by rfl,?_⟩) ?_ ?_
    rotate_left
    ·intro w'
     go_simp
     with_reducible rfl
    rotate_left
    ·simp only [Act.put,lA_,lZ_,lS_,i64_w,i32_w]
     rfl
    refine done_ (done_of HT_.out (by kernel_rfl)) ?_
    try go_wp2
    replace HB:=Z_ (lD_ HB.out)
    have q16 : (x3_1 : Int) ≤ ((l0.length : Int) : Int):=dA_
    obtain ⟨i016,hi016,_,hsz16,_⟩:=info_parts info36
    have hroom16 : l0.length ≤ c0:=aa.out
    have hC16 : Kd.C k36 _ (some ad288) l0.length l0:=a3.out
    try clear a1
    have a5:=cut_to (P:=Try.prog) 24 36 .i64 Try.underlying24 hi016 (some ad288) l0.length c0 x3_1 (dA_) q16 hroom16
    have hr16:=Kd.C_take (m:=(x3_1 : Int).toNat) hC16 (by omega)
    have hy16 : y290.length = (x3_1 : Int).toNat:=(by rw [a7.out,List.length_take];omega)
    rw [← a7.out] at hr16
    rw [← hy16] at a5
    have a6:=Z_ hr16
    have a9:=Z_ (show y290.length ≤ c0 from by omega)
    clear hr16 hC16 hroom16 hi016 hsz16
    have KY16:=Z_ hy16
    clear hy16
    replace q16:=eq_true q16
    have p294 : 0 ≤ (x3_1 : Int):=dA_
    have q294 : x3_1 < (l0.length : Int):=dA_
    obtain ⟨ad294,e294,hx294_0,hx294_1,hx294_2,hx294_3⟩:=at_T36 a3.out x3_1 p294 q294
    have hw294_3:=hx294_3
    have hw294_2:=hx294_2
    have hw294_1:=hx294_1
    have hw294_0:=hx294_0
    obtain rfl : ad288 = ad294:=(by injection e294)
    replace hx294_0:=cB_ HB hx294_0
    replace hx294_1:=cB_ HB hx294_1
    replace hx294_2:=cB_ HB hx294_2
    replace hx294_3:=cB_ HB hx294_3
    replace p294:=eq_true p294
    replace q294:=eq_true q294
    refine start_ (n:=9) (S:=fun w' => w'.cell? (ad288.add ((x3_1).toNat * 4)) = some (.int .i64 ((rd_T36 l0 x3_1).f0)) ∧ w'.cell? ⟨(ad288.add ((x3_1).toNat * 4)).block,(ad288.add ((x3_1).toNat * 4)).off + 1,none⟩ = some (.int .i64 ((rd_T36 l0 x3_1).f1)) ∧ w'.cell? ⟨(ad288.add ((x3_1).toNat * 4)).block,(ad288.add ((x3_1).toNat * 4)).off + 2,none⟩ = some (.int .i64 ((rd_T36 l0 x3_1).f2)) ∧ w'.cell? ⟨(ad288.add ((x3_1).toNat * 4)).block,(ad288.add ((x3_1).toNat * 4)).off + 3,none⟩ = some (.int .i64 ((rd_T36 l0 x3_1).f3))) (ds:=[]) spec_TermsFault.calls.b0 (by kernel_rfl) rfl rfl ⟨(cB_ HB hw294_0),(cB_ HB hw294_1),(cB_ HB hw294_2),(cB_ HB hw294_3)⟩ (fun hHeld => ?_);refine with_tabW spec_TermsFault.tab9 spec_TermsFault.bits9 (fun HT_ HW_ => ?_)
    generalize w14.drew = w15 at HB a6 hx294_0 hx294_1 hx294_2 hx294_3 hHeld ⊢
    refine pure_ (i:=0) (N:=some 25) (v:=?_) (a':=?_) spec_TermsFault.calls.b1 rfl rfl (any_of HT_.out (by kernel_rfl)) (fun _ _ _ h => h) (Or.inl ⟨by rfl,?_⟩) ?_ ?_
    rotate_left
    ·intro w'
     go_simp
     with_reducible rfl
    rotate_left
    ·simp only [Act.put,lA_,lZ_,lS_,i64_w,i32_w]
     rfl
    refine pure_ (i:=1) (N:=some 26) (v:=?_) (a':=?_) spec_TermsFault.calls.b2 rfl rfl (any_of HT_.out (by kernel_rfl)) (fun _ _ _ h => h) (Or.inl ⟨by rfl,?_⟩) ?_ ?_
    rotate_left
    ·intro w'
     go_simp
     with_reducible rfl
    rotate_left
    ·simp only [Act.put,lA_,lZ_,lS_,i64_w,i32_w]
     rfl
    refine pure_ (i:=2) (N:=some 27) (v:=?_) (a':=?_) spec_TermsFault.calls.b3 rfl rfl (any_of HT_.out (by kernel_rfl)) (fun _ _ _ h => h) (Or.inl ⟨by rfl,?_⟩) ?_ ?_
    rotate_left
    ·intro w'
     go_simp
     with_reducible rfl
    rotate_left
    ·simp only [Act.put,lA_,lZ_,lS_,i64_w,i32_w]
     rfl
    refine pure_ (i:=3) (N:=some 28) (v:=?_) (a':=?_) spec_TermsFault.calls.b4 rfl rfl (any_of HT_.out (by kernel_rfl)) (fun _ _ _ h => h) (Or.inl ⟨by rfl,?_⟩) ?_ ?_
    rotate_left
    ·intro w'
     go_simp
     with_reducible rfl
    rotate_left
    ·simp only [Act.put,lA_,lZ_,lS_,i64_w,i32_w]
     rfl
    refine pure_ (i:=4) (N:=some 29) (v:=?_) (a':=?_) spec_TermsFault.calls.b5 rfl rfl (any_of HT_.out (by kernel_rfl)) (fun _ _ _ h => h) (Or.inl ⟨by rfl,?_⟩) ?_ ?_
    rotate_left
    ·intro w'
     go_simp
     with_reducible rfl
    rotate_left
    ·simp only [Act.put,lA_,lZ_,lS_,i64_w,i32_w]
     rfl
    refine pure_ (i:=5) (N:=some 30) (v:=?_) (a':=?_) spec_TermsFault.calls.b6 rfl rfl (any_of HT_.out (by kernel_rfl)) (fun _ _ _ h => h) (Or.inl ⟨by rfl,?_⟩) ?_ ?_
    rotate_left
    ·intro w'
     go_simp
     with_reducible rfl
    rotate_left
    ·simp only [Act.put,lA_,lZ_,lS_,i64_w,i32_w]
     rfl
    refine take_ (i:=6) (N:=some 31) (v:=?_) (a':=?_) spec_TermsFault.calls.b7 rfl rfl (take_ofW HT_.out HW_.out (by kernel_rfl)) (fun _ _ _ h => h) (Or.inl ⟨by rfl,?_⟩) hHeld ?_ ?_
    rotate_left
    ·rintro w' ⟨s0,s1,s2,s3⟩
     go_simp
     with_reducible rfl
    rotate_left
    ·simp only [Act.put,lA_,lZ_,lS_,i64_w,i32_w]
     rfl
    refine one_ (i:=7) (N:=some 32) spec_TermsFault.calls.b8 rfl rfl (one_of HT_.out (by kernel_rfl)) (by decide) (fun K hK => ?_)
    refine goes_ Try.func96 (by kernel_rfl) rfl #[.slice (some ad288) y290.length c0,.agg #[.int .i64 ((rd_T36 l0 x3_1).f0),.int .i64 ((rd_T36 l0 x3_1).f1),.int .i64 ((rd_T36 l0 x3_1).f2),.int .i64 ((rd_T36 l0 x3_1).f3)]] (by rfl) rfl rfl (by (try simp only [List.map_toArray,List.map_cons,List.map_nil]);first | done | rfl | (simp only [List.length_drop,List.length_take];rfl)) ?_
    with_reducible refine (spec_l5Find.calls k1 _ _ y290 ((rd_T36 l0 x3_1).f0) ((rd_T36 l0 x3_1).f1) ((rd_T36 l0 x3_1).f2) ((rd_T36 l0 x3_1).f3) t295 _ ?side1 ?side2 af.out).mono ?_
    (case side1 => exact Cb_ a6)
    (case side2 => exact a9.out)
    rintro e w17 ⟨rfl,hb⟩
    refine ⟨_,rfl,?_⟩
    replace HB:=Z_ (lP_ Lb_ hb)
    (try clear hb)
    (try clear hb2)
    (try clear hk)
    (try clear hi)
    refine hK.out _ _ ⟨(cB_ HB hw294_0),(cB_ HB hw294_1),(cB_ HB hw294_2),(cB_ HB hw294_3)⟩ (fun hHeld => ?_)
    clear hK K
    refine norm_ (a':=?_) ?_ ?_
    rotate_left
    ·show Act.put _ (some 32) _ = _
     simp only [Act.put,lA_,lZ_,lS_,i64_w,i32_w]
     rfl
    refine pure_ (i:=8) (N:=some 33) (v:=?_) (a':=?_) spec_TermsFault.calls.b9 rfl rfl (any_of HT_.out (by kernel_rfl)) (fun _ _ _ h => h) (Or.inl ⟨by rfl,?_⟩) ?_ ?_
    rotate_left
    ·intro w'
     go_simp
     with_reducible rfl
    rotate_left
    ·simp only [Act.put,lA_,lZ_,lS_,i64_w,i32_w]
     rfl
    refine done_ (done_of HT_.out (by kernel_rfl)) ?_
    try go_wp2
    go_ret
    exact ⟨Er_,Lb_⟩
   replace c11b0 : decide (0 ≤ t295) = false:=c11b0
   have H':=Z_ H
   clear H
   try go_wp2
   replace HB:=Z_ (lD_ HB.out)
   have q19 : (x3_1 : Int) ≤ ((l0.length : Int) : Int):=dA_
   obtain ⟨i019,hi019,_,hsz19,_⟩:=info_parts info36
   have hroom19 : l0.length ≤ c0:=aa.out
   have hC19 : Kd.C k36 _ A0 l0.length l0:=a3.out
   try clear a1
   try clear a5
   have a8:=cut_to (P:=Try.prog) 24 36 .i64 Try.underlying24 hi019 A0 l0.length c0 x3_1 (dA_) q19 hroom19
   have hr19:=Kd.C_take (m:=(x3_1 : Int).toNat) hC19 (by omega)
   have hy19 : y284.length = (x3_1 : Int).toNat:=(by rw [a2.out,List.length_take];omega)
   rw [← a2.out] at hr19
   rw [← hy19] at a8
   have a0:=Z_ hr19
   have a4:=Z_ (show y284.length ≤ c0 from by omega)
   clear hr19 hC19 hroom19 hi019 hsz19
   have KY19:=Z_ hy19
   clear hy19
   replace q19:=eq_true q19
   have p288 : 0 ≤ (x3_1 : Int):=dA_
   have q288 : x3_1 < (l0.length : Int):=dA_
   obtain ⟨ad288,e288,hx288_0,hx288_1,hx288_2,hx288_3⟩:=at_T36 a3.out x3_1 p288 q288
   have hw288_3:=hx288_3
   have hw288_2:=hx288_2
   have hw288_1:=hx288_1
   have hw288_0:=hx288_0
   cases e288
   replace hx288_0:=cB_ HB hx288_0
   replace hx288_1:=cB_ HB hx288_1
   replace hx288_2:=cB_ HB hx288_2
   replace hx288_3:=cB_ HB hx288_3
   replace p288:=eq_true p288
   replace q288:=eq_true q288
   refine start_ (n:=9) (S:=fun w' => w'.cell? (ad288.add ((x3_1).toNat * 4)) = some (.int .i64 ((rd_T36 l0 x3_1).f0)) ∧ w'.cell? ⟨(ad288.add ((x3_1).toNat * 4)).block,(ad288.add ((x3_1).toNat * 4)).off + 1,none⟩ = some (.int .i64 ((rd_T36 l0 x3_1).f1)) ∧ w'.cell? ⟨(ad288.add ((x3_1).toNat * 4)).block,(ad288.add ((x3_1).toNat * 4)).off + 2,none⟩ = some (.int .i64 ((rd_T36 l0 x3_1).f2)) ∧ w'.cell? ⟨(ad288.add ((x3_1).toNat * 4)).block,(ad288.add ((x3_1).toNat * 4)).off + 3,none⟩ = some (.int .i64 ((rd_T36 l0 x3_1).f3))) (ds:=[]) spec_TermsFault.calls.b0 (by kernel_rfl) rfl rfl ⟨(cB_ HB hw288_0),(cB_ HB hw288_1),(cB_ HB hw288_2),(cB_ HB hw288_3)⟩ (fun hHeld => ?_);refine with_tabW spec_TermsFault.tab6 spec_TermsFault.bits6 (fun HT_ HW_ => ?_)
   generalize wr.drew = w18 at HB a0 hx288_0 hx288_1 hx288_2 hx288_3 hHeld ⊢
   refine pure_ (i:=0) (N:=some 14) (v:=?_) (a':=?_) spec_TermsFault.calls.b1 rfl rfl (any_of HT_.out (by kernel_rfl)) (fun _ _ _ h => h) (Or.inl ⟨by rfl,?_⟩) ?_ ?_
   rotate_left
   ·intro w'
    go_simp
    with_reducible rfl
   rotate_left
   ·simp only [Act.put,lA_,lZ_,lS_,i64_w,i32_w]
    rfl
   refine pure_ (i:=1) (N:=some 15) (v:=?_) (a':=?_) spec_TermsFault.calls.b2 rfl rfl (any_of HT_.out (by kernel_rfl)) (fun _ _ _ h => h) (Or.inl ⟨by rfl,?_⟩) ?_ ?_
   rotate_left
   ·intro w'
    go_simp
    with_reducible rfl
   rotate_left
   ·simp only [Act.put,lA_,lZ_,lS_,i64_w,i32_w]
    rfl
   refine pure_ (i:=2) (N:=some 16) (v:=?_) (a':=?_) spec_TermsFault.calls.b3 rfl rfl (any_of HT_.out (by kernel_rfl)) (fun _ _ _ h => h) (Or.inl ⟨by rfl,?_⟩) ?_ ?_
   rotate_left
   ·intro w'
    go_simp
    with_reducible rfl
   rotate_left
   ·simp only [Act.put,lA_,lZ_,lS_,i64_w,i32_w]
    rfl
   refine pure_ (i:=3) (N:=some 17) (v:=?_) (a':=?_) spec_TermsFault.calls.b4 rfl rfl (any_of HT_.out (by kernel_rfl)) (fun _ _ _ h => h) (Or.inl ⟨by rfl,?_⟩) ?_ ?_
   rotate_left
   ·intro w'
    go_simp
    with_reducible rfl
   rotate_left
   ·simp only [Act.put,lA_,lZ_,lS_,i64_w,i32_w]
    rfl
   refine pure_ (i:=4) (N:=some 18) (v:=?_) (a':=?_) spec_TermsFault.calls.b5 rfl rfl (any_of HT_.out (by kernel_rfl)) (fun _ _ _ h => h) (Or.inl ⟨by rfl,?_⟩) ?_ ?_
   rotate_left
   ·intro w'
    go_simp
    with_reducible rfl
   rotate_left
   ·simp only [Act.put,lA_,lZ_,lS_,i64_w,i32_w]
    rfl
   refine pure_ (i:=5) (N:=some 19) (v:=?_) (a':=?_) spec_TermsFault.calls.b6 rfl rfl (any_of HT_.out (by kernel_rfl)) (fun _ _ _ h => h) (Or.inl ⟨by rfl,?_⟩) ?_ ?_
   rotate_left
   ·intro w'
    go_simp
    with_reducible rfl
   rotate_left
   ·simp only [Act.put,lA_,lZ_,lS_,i64_w,i32_w]
    rfl
   refine take_ (i:=6) (N:=some 20) (v:=?_) (a':=?_) spec_TermsFault.calls.b7 rfl rfl (take_ofW HT_.out HW_.out (by kernel_rfl)) (fun _ _ _ h => h) (Or.inl ⟨by rfl,?_⟩) hHeld ?_ ?_
   rotate_left
   ·rintro w' ⟨s0,s1,s2,s3⟩
    go_simp
    with_reducible rfl
   rotate_left
   ·simp only [Act.put,lA_,lZ_,lS_,i64_w,i32_w]
    rfl
   refine one_ (i:=7) (N:=some 21) spec_TermsFault.calls.b8 rfl rfl (one_of HT_.out (by kernel_rfl)) (by decide) (fun K hK => ?_)
   refine goes_ Try.func95 (by kernel_rfl) rfl #[.slice (some ad288) y284.length c0,.agg #[.int .i64 ((rd_T36 l0 x3_1).f0),.int .i64 ((rd_T36 l0 x3_1).f1),.int .i64 ((rd_T36 l0 x3_1).f2),.int .i64 ((rd_T36 l0 x3_1).f3)]] (by rfl) rfl rfl (by (try simp only [List.map_toArray,List.map_cons,List.map_nil]);first | done | rfl | (simp only [List.length_drop,List.length_take];rfl)) ?_
   with_reducible refine (spec_l5Term.calls k1 _ _ y284 ((rd_T36 l0 x3_1).f0) ((rd_T36 l0 x3_1).f1) ((rd_T36 l0 x3_1).f2) ((rd_T36 l0 x3_1).f3) t289 _ ?side1 ?side2 A6.out).mono ?_
   (case side1 => exact Cb_ a0)
   (case side2 => exact a4.out)
   rintro e w20 ⟨rfl,hb⟩
   refine ⟨_,rfl,?_⟩
   replace HB:=Z_ (lP_ Lb_ hb)
   (try clear hb)
   (try clear hb2)
   (try clear hk)
   (try clear hi)
   refine hK.out _ _ ⟨(cB_ HB hw288_0),(cB_ HB hw288_1),(cB_ HB hw288_2),(cB_ HB hw288_3)⟩ (fun hHeld => ?_)
   clear hK K
   refine norm_ (a':=?_) ?_ ?_
   rotate_left
   ·show Act.put _ (some 21) _ = _
    simp only [Act.put,lA_,lZ_,lS_,i64_w,i32_w]
    rfl
   refine pure_ (i:=8) (N:=some 4) (v:=?_) (a':=?_) spec_TermsFault.calls.b9 rfl rfl (any_of HT_.out (by kernel_rfl)) (fun _ _ _ h => h) (Or.inl ⟨by rfl,?_⟩) ?_ ?_
   rotate_left
   ·intro w'
    go_simp
    with_reducible rfl
   rotate_left
   ·simp only [Act.put,lA_,lZ_,lS_,i64_w,i32_w]
    rfl
   refine done_ (done_of HT_.out (by kernel_rfl)) ?_
   try go_wp2
   replace HB:=Z_ (lD_ HB.out)
   have q22 : (x3_1 : Int) ≤ ((l0.length : Int) : Int):=dA_
   obtain ⟨i022,hi022,_,hsz22,_⟩:=info_parts info36
   have hroom22 : l0.length ≤ c0:=aa.out
   have hC22 : Kd.C k36 _ (some ad288) l0.length l0:=a3.out
   try clear a1
   try clear a5
   try clear a8
   have ab:=cut_to (P:=Try.prog) 24 36 .i64 Try.underlying24 hi022 (some ad288) l0.length c0 x3_1 (dA_) q22 hroom22
   have hr22:=Kd.C_take (m:=(x3_1 : Int).toNat) hC22 (by omega)
   have hy22 : y290.length = (x3_1 : Int).toNat:=(by rw [a7.out,List.length_take];omega)
   rw [← a7.out] at hr22
   rw [← hy22] at ab
   have a6:=Z_ hr22
   have a9:=Z_ (show y290.length ≤ c0 from by omega)
   clear hr22 hC22 hroom22 hi022 hsz22
   have KY22:=Z_ hy22
   clear hy22
   replace q22:=eq_true q22
   have p294 : 0 ≤ (x3_1 : Int):=dA_
   have q294 : x3_1 < (l0.length : Int):=dA_
   obtain ⟨ad294,e294,hx294_0,hx294_1,hx294_2,hx294_3⟩:=at_T36 a3.out x3_1 p294 q294
   have hw294_3:=hx294_3
   have hw294_2:=hx294_2
   have hw294_1:=hx294_1
   have hw294_0:=hx294_0
   obtain rfl : ad288 = ad294:=(by injection e294)
   replace hx294_0:=cB_ HB hx294_0
   replace hx294_1:=cB_ HB hx294_1
   replace hx294_2:=cB_ HB hx294_2
   replace hx294_3:=cB_ HB hx294_3
   replace p294:=eq_true p294
   replace q294:=eq_true q294
   refine start_ (n:=9) (S:=fun w' => w'.cell? (ad288.add ((x3_1).toNat * 4)) = some (.int .i64 ((rd_T36 l0 x3_1).f0)) ∧ w'.cell? ⟨(ad288.add ((x3_1).toNat * 4)).block,(ad288.add ((x3_1).toNat * 4)).off + 1,none⟩ = some (.int .i64 ((rd_T36 l0 x3_1).f1)) ∧ w'.cell? ⟨(ad288.add ((x3_1).toNat * 4)).block,(ad288.add ((x3_1).toNat * 4)).off + 2,none⟩ = some (.int .i64 ((rd_T36 l0 x3_1).f2)) ∧ w'.cell? ⟨(ad288.add ((x3_1).toNat * 4)).block,(ad288.add ((x3_1).toNat * 4)).off + 3,none⟩ = some (.int .i64 ((rd_T36 l0 x3_1).f3))) (ds:=[]) spec_TermsFault.calls.b0 (by kernel_rfl) rfl rfl ⟨(cB_ HB hw294_0),(cB_ HB hw294_1),(cB_ HB hw294_2),(cB_ HB hw294_3)⟩ (fun hHeld => ?_);refine with_tabW spec_TermsFault.tab9 spec_TermsFault.bits9 (fun HT_ HW_ => ?_)
   generalize w20.drew = w21 at HB a6 hx294_0 hx294_1 hx294_2 hx294_3 hHeld ⊢
   refine pure_ (i:=0) (N:=some 25) (v:=?_) (a':=?_) spec_TermsFault.calls.b1 rfl rfl (any_of HT_.out (by kernel_rfl)) (fun _ _ _ h => h) (Or.inl ⟨by rfl,?_⟩) ?_ ?_
   rotate_left
   ·intro w'
    go_simp
    with_reducible rfl
   rotate_left
   ·simp only [Act.put,lA_,lZ_,lS_,i64_w,i32_w]
    rfl
   refine pure_ (i:=1) (N:=some 26) (v:=?_) (a':=?_) spec_TermsFault.calls.b2 rfl rfl (any_of HT_.out (by kernel_rfl)) (fun _ _ _ h => h) (Or.inl ⟨by rfl,?_⟩) ?_ ?_
   rotate_left
   ·intro w'
    go_simp
    with_reducible rfl
   rotate_left
   ·simp only [Act.put,lA_,lZ_,lS_,i64_w,i32_w]
    rfl
   refine pure_ (i:=2) (N:=some 27) (v:=?_) (a':=?_) spec_TermsFault.calls.b3 rfl rfl (any_of HT_.out (by kernel_rfl)) (fun _ _ _ h => h) (Or.inl ⟨by rfl,?_⟩) ?_ ?_
   rotate_left
   ·intro w'
    go_simp
    with_reducible rfl
   rotate_left
   ·simp only [Act.put,lA_,lZ_,lS_,i64_w,i32_w]
    rfl
   refine pure_ (i:=3) (N:=some 28) (v:=?_) (a':=?_) spec_TermsFault.calls.b4 rfl rfl (any_of HT_.out (by kernel_rfl)) (fun _ _ _ h => h) (Or.inl ⟨by rfl,?_⟩) ?_ ?_
   rotate_left
   ·intro w'
    go_simp
    with_reducible rfl
   rotate_left
   ·simp only [Act.put,lA_,lZ_,lS_,i64_w,i32_w]
    rfl
   refine pure_ (i:=4) (N:=some 29) (v:=?_) (a':=?_) spec_TermsFault.calls.b5 rfl rfl (any_of HT_.out (by kernel_rfl)) (fun _ _ _ h => h) (Or.inl ⟨by rfl,?_⟩) ?_ ?_
   rotate_left
   ·intro w'
    go_simp
    with_reducible rfl
   rotate_left
   ·simp only [Act.put,lA_,lZ_,lS_,i64_w,i32_w]
    rfl
   refine pure_ (i:=5) (N:=some 30) (v:=?_) (a':=?_) spec_TermsFault.calls.b6 rfl rfl (any_of HT_.out (by kernel_rfl)) (fun _ _ _ h => h) (Or.inl ⟨by rfl,?_⟩) ?_ ?_
   rotate_left
   ·intro w'
    go_simp
    with_reducible rfl
   rotate_left
   ·simp only [Act.put,lA_,lZ_,lS_,i64_w,i32_w]
    rfl
   refine take_ (i:=6) (N:=some 31) (v:=?_) (a':=?_) spec_TermsFault.calls.b7 rfl rfl (take_ofW HT_.out HW_.out (by kernel_rfl)) (fun _ _ _ h => h) (Or.inl ⟨by rfl,?_⟩) hHeld ?_ ?_
   rotate_left
   ·rintro w' ⟨s0,s1,s2,s3⟩
    go_simp
    with_reducible rfl
   rotate_left
   ·simp only [Act.put,lA_,lZ_,lS_,i64_w,i32_w]
    rfl
   refine one_ (i:=7) (N:=some 32) spec_TermsFault.calls.b8 rfl rfl (one_of HT_.out (by kernel_rfl)) (by decide) (fun K hK => ?_)
   refine goes_ Try.func96 (by kernel_rfl) rfl #[.slice (some ad288) y290.length c0,.agg #[.int .i64 ((rd_T36 l0 x3_1).f0),.int .i64 ((rd_T36 l0 x3_1).f1),.int .i64 ((rd_T36 l0 x3_1).f2),.int .i64 ((rd_T36 l0 x3_1).f3)]] (by rfl) rfl rfl (by (try simp only [List.map_toArray,List.map_cons,List.map_nil]);first | done | rfl | (simp only [List.length_drop,List.length_take];rfl)) ?_
   with_reducible refine (spec_l5Find.calls k1 _ _ y290 ((rd_T36 l0 x3_1).f0) ((rd_T36 l0 x3_1).f1) ((rd_T36 l0 x3_1).f2) ((rd_T36 l0 x3_1).f3) t295 _ ?side1 ?side2 af.out).mono ?_
   (case side1 => exact Cb_ a6)
   (case side2 => exact a9.out)
   rintro e w23 ⟨rfl,hb⟩
   refine ⟨_,rfl,?_⟩
   replace HB:=Z_ (lP_ Lb_ hb)
   (try clear hb)
   (try clear hb2)
   (try clear hk)
   (try clear hi)
   refine hK.out _ _ ⟨(cB_ HB hw294_0),(cB_ HB hw294_1),(cB_ HB hw294_2),(cB_ HB hw294_3)⟩ (fun hHeld => ?_)
   clear hK K
   refine norm_ (a':=?_) ?_ ?_
   rotate_left
   ·show Act.put _ (some 32) _ = _
    simp only [Act.put,lA_,lZ_,lS_,i64_w,i32_w]
    rfl
   refine pure_ (i:=8) (N:=some 33) (v:=?_) (a':=?_) spec_TermsFault.calls.b9 rfl rfl (any_of HT_.out (by kernel_rfl)) (fun _ _ _ h => h) (Or.inl ⟨by rfl,?_⟩) ?_ ?_
   rotate_left
   ·intro w'
    go_simp
    with_reducible rfl
   rotate_left
   ·simp only [Act.put,lA_,lZ_,lS_,i64_w,i32_w]
    rfl
   refine done_ (done_of HT_.out (by kernel_rfl)) ?_
   try go_wp2
   go_roundg k1
   case measure => have:=HK1.out;omega
   case rel => exact ⟨(wrap64 (x3_1 + 1)),Sr_,H',⟨by have:=HK1.out;omega⟩,⟨Lb_⟩⟩
def spec_l5At.f (l0 : List (S36)) (a1 : Int) : Option (Bool):=(spec_l1In.f a1 0 (wrap64 ((l0.length : Int) - 1))).bind fun t296 => (some t296)
set_option maxHeartbeats 8000000 in
set_option maxRecDepth 100000 in
theorem spec_l5At.calls (A0 : Option Addr) (c0 : Nat) (l0 : List (S36)) (a1 : Int) (r : Bool) (w : World) (hr0 : Kd.C k36 w A0 l0.length l0) (hc0 : l0.length ≤ c0) (h : spec_l5At.f l0 a1 = some r) :
  Calls Try.prog 83 #[.slice A0 l0.length c0,.int .i64 a1] w fun e w' => e = .returned (.bool r) ∧ Drawn0 w w':=by
 have HR0:=Z_ hr0
 have HC0:=Z_ hc0
 clear hr0 hc0
 unfold spec_l5At.f at h
 have H:=h
 clear h
 replace H:=bS_ H
 obtain ⟨t296,A3,H⟩:=H
 obtain rfl:=Option.some.inj H
 go_enter Try.func83,Try.ntmps83
 go_wp2_with (first | ((with_reducible refine gate_callee (f:=84) rfl ?_);refine goesA_ (some 9) rfl rfl Try.func84 (by kernel_rfl) rfl #[.int .i64 a1,.int .i64 0,.int .i64 (wrap64 ((l0.length : Int) - 1))] rfl ?_;(with_reducible refine (spec_l1In.calls a1 0 (wrap64 ((l0.length : Int) - 1)) t296 _ A3.out).mono ?_);rintro e w' ⟨rfl,⟨nd,rfl⟩⟩;refine ⟨_,rfl,?_⟩))
 go_ret
 exact ⟨by first | rfl | (simp;done) | (simp [*];done),by repeat (first | exact Drawn0.refl _ | apply Drawn0.step)⟩
def spec_l9Asked.l0 : Nat → List (S36) → List Int → Int → Option (Int)
 | 0,_,_,_ => none
 | k + 1,x0,x1,x6 => if x6 < (x1.length : Int) then (if 0 ≤ x6 then ((spec_l5At.f x0 (rd x1 x6)).bind fun t299 => (if t299 = true then (spec_l9Asked.l0 k x0 x1 (wrap64 (x6 + 1))) else (some 3))) else (none)) else (some 0)
def spec_l9Asked.f (k : Nat) (l0 : List (S36)) (l1 : List Int) : Option (Int):=(spec_TermsFault.f k l0).bind fun t297 => (if t297 = 0 then (spec_l9Asked.l0 k l0 l1 0) else (some t297))
set_option maxHeartbeats 8000000 in
set_option maxRecDepth 100000 in
theorem spec_l9Asked.calls (k : Nat) (A0 : Option Addr) (c0 : Nat) (l0 : List (S36)) (A1 : Option Addr) (c1 : Nat) (l1 : List Int) (r : Int) (w : World) (hr0 : Kd.C k36 w A0 l0.length l0) (hc0 : l0.length ≤ c0) (hr1 : Kd.C (Kd.int .i64) w A1 l1.length l1) (hc1 : l1.length ≤ c1) (h : spec_l9Asked.f k l0 l1 = some r) :
  Calls Try.prog 44 #[.slice A0 l0.length c0,.slice A1 l1.length c1] w fun e w' => e = .returned (.int .i64 r) ∧ Below w.heap.size w w':=by
 have a0:=Z_ hr0
 have a1:=Z_ hc0
 clear hr0 hc0
 have a2:=Z_ hr1
 have a5:=Z_ hc1
 clear hr1 hc1
 have HB:=Z_ (Below.refl w.heap.size w)
 unfold spec_l9Asked.f at h
 have H:=h
 clear h
 replace H:=bS_ H
 obtain ⟨t297,A3,H⟩:=H
 replace H:=iC_ H
 obtain ⟨c4,H⟩ | ⟨c4,H⟩:=H
 rotate_left
 ·have c4b0 : (t297 == 0) = false:=beq_eq_false_iff_ne.mpr c4
  have c4b1 : (t297 != 0) = true:=bne_iff_ne.mpr c4
  obtain rfl:=Option.some.inj H
  go_enter Try.func44,Try.ntmps44
  go_wp2_with (first | ((with_reducible refine gate_callee (f:=51) rfl ?_);refine goesA_ (some 8) rfl rfl Try.func51 (by kernel_rfl) rfl #[.slice A0 l0.length c0] rfl ?_;(with_reducible refine (spec_TermsFault.calls k _ _ l0 t297 _ ?side1 ?side2 A3.out).mono ?_);(case side1 => repeat (first | exact a0.out | (with_reducible refine Kd.C_alloc ?_ _) | (with_reducible refine Kd.C_drewN ?_ _) | (with_reducible refine Kd.C_drew ?_)));(case side2 => exact a1.out);rintro e w10 ⟨rfl,hb⟩;refine ⟨_,rfl,?_⟩;replace HB:=Z_ (lP_ Lb_ hb);(try clear hb)))
  go_ret
  exact ⟨Er_,Lb_⟩
 rotate_right
 have c4b0 : (t297 == 0) = true:=beq_iff_eq.mpr c4
 have c4b1 : (t297 != 0) = false:=bne_eq_false_iff_eq.mpr c4
 clear c4
 have H':=Z_ H
 clear H
 go_enter Try.func44,Try.ntmps44
 go_wp2_with (first | ((with_reducible refine gate_callee (f:=51) rfl ?_);refine goesA_ (some 8) rfl rfl Try.func51 (by kernel_rfl) rfl #[.slice A0 l0.length c0] rfl ?_;(with_reducible refine (spec_TermsFault.calls k _ _ l0 t297 _ ?side1 ?side2 A3.out).mono ?_);(case side1 => repeat (first | exact a0.out | (with_reducible refine Kd.C_alloc ?_ _) | (with_reducible refine Kd.C_drewN ?_ _) | (with_reducible refine Kd.C_drew ?_)));(case side2 => exact a1.out);rintro e w5 ⟨rfl,hb⟩;refine ⟨_,rfl,?_⟩;replace HB:=Z_ (lP_ HB.out hb);(try clear hb)))
 go_loopg [6] k (fun kq v6 w' => ∃ (x6_1 : Int),v6 = .int .i64 x6_1 ∧ Aside0 (spec_l9Asked.l0 kq l0 l1 x6_1 = some r) ∧ Aside0 (kq ≤ k) ∧ Aside0 (Below w.heap.size w w'))
 case atStart => exact ⟨(0),Sr_,H',⟨Nat.le_refl _⟩,⟨Lb_⟩⟩
 case round =>
  clear H'
  try clear c1
  try clear p2
  try clear c4
  try clear c4b0
  try clear c4b1
  try clear c5
  obtain ⟨x6_1,rfl,HA,HK1,HB⟩:=hrel
  cases gk with
  | zero => exact absurd HA.out (by simp [spec_l9Asked.l0])
  | succ k1 =>
   have H:=HA.out
   clear HA
   simp only [spec_l9Asked.l0] at H
   replace H:=iD_ H
   obtain ⟨c6b0,H⟩ | ⟨c6b0,H⟩:=H
   rotate_left
   ·obtain rfl:=Option.some.inj H
    go_wp2
    go_ret
    exact ⟨Er_,Lb_⟩
   rotate_right
   replace H:=iM_ H
   obtain ⟨c7b0,H⟩:=H
   replace H:=bS_ H
   obtain ⟨t299,A8,H⟩:=H
   replace H:=iB_ H
   obtain ⟨rfl,H⟩ | ⟨rfl,H⟩:=H
   rotate_left
   ·obtain rfl:=Option.some.inj H
    have p298 : 0 ≤ (x6_1 : Int):=dA_
    have q298 : x6_1 < (l1.length : Int):=dA_
    obtain ⟨ad298,e298,hx298_0⟩:=Kd.at_int a2.out x6_1 p298 q298
    cases e298
    replace hx298_0:=cB_ HB hx298_0
    replace p298:=eq_true p298
    replace q298:=eq_true q298
    go_wp2_with (first | ((with_reducible refine gate_callee (f:=83) rfl ?_);refine goesA_ (some 23) rfl rfl Try.func83 (by kernel_rfl) rfl #[.slice A0 l0.length c0,.int .i64 (rd l1 x6_1)] rfl ?_;(with_reducible refine (spec_l5At.calls _ _ l0 (rd l1 x6_1) false _ ?side1 ?side2 A8.out).mono ?_);(case side1 => exact Cb_ a0);(case side2 => exact a1.out);rintro e w' ⟨rfl,⟨nd,rfl⟩⟩;refine ⟨_,rfl,?_⟩))
    go_ret
    exact ⟨Er_,Lb_⟩
   rotate_right
   have H':=Z_ H
   clear H
   have p298 : 0 ≤ (x6_1 : Int):=dA_
   have q298 : x6_1 < (l1.length : Int):=dA_
   obtain ⟨ad298,e298,hx298_0⟩:=Kd.at_int a2.out x6_1 p298 q298
   cases e298
   replace hx298_0:=cB_ HB hx298_0
   replace p298:=eq_true p298
   replace q298:=eq_true q298
   go_wp2_with (first | ((with_reducible refine gate_callee (f:=83) rfl ?_);refine goesA_ (some 23) rfl rfl Try.func83 (by kernel_rfl) rfl #[.slice A0 l0.length c0,.int .i64 (rd l1 x6_1)] rfl ?_;(with_reducible refine (spec_l5At.calls _ _ l0 (rd l1 x6_1) true _ ?side1 ?side2 A8.out).mono ?_);(case side1 => exact Cb_ a0);(case side2 => exact a1.out);rintro e w' ⟨rfl,⟨nd,rfl⟩⟩;refine ⟨_,rfl,?_⟩))
   go_roundg k1
   case measure => have:=HK1.out;omega
   case rel => exact ⟨(wrap64 (x6_1 + 1)),Sr_,H',⟨by have:=HK1.out;omega⟩,⟨Lb_⟩⟩
def spec_l9Word.f (a0 : Int) : Option (Bool):=(spec_l1In.f a0 0 9999).bind fun t300 => (some t300)
set_option maxHeartbeats 8000000 in
set_option maxRecDepth 100000 in
theorem spec_l9Word.calls (a0 : Int) (r : Bool) (w : World) (h : spec_l9Word.f a0 = some r) :
  Calls Try.prog 45 #[.int .i64 a0] w fun e w' => e = .returned (.bool r) ∧ Drawn0 w w':=by
 unfold spec_l9Word.f at h
 have H:=h
 clear h
 replace H:=bS_ H
 obtain ⟨t300,A2,H⟩:=H
 obtain rfl:=Option.some.inj H
 go_enter Try.func45,Try.ntmps45
 go_wp2_with (first | ((with_reducible refine gate_callee (f:=84) rfl ?_);refine goesA_ (some 4) rfl rfl Try.func84 (by kernel_rfl) rfl #[.int .i64 a0,.int .i64 0,.int .i64 9999] rfl ?_;(with_reducible refine (spec_l1In.calls a0 0 9999 t300 _ A2.out).mono ?_);rintro e w' ⟨rfl,⟨nd,rfl⟩⟩;refine ⟨_,rfl,?_⟩))
 go_ret
 exact ⟨by first | rfl | (simp;done) | (simp [*];done),by repeat (first | exact Drawn0.refl _ | apply Drawn0.step)⟩
def spec_l9Put.f (k : Nat) (l : List S36) (c t0 t1 t2 t3 : Int) : Option (Int × List S36 × Int):=if c = 0 then ((spec_l5Put.f k l t0 t1 t2 t3).bind fun q => (if q.1 = 0 then (some (q.2.1,q.2.2,0)) else (some (0,l,q.1)))) else (some (0,l,c))
theorem R_okT {w : World} {b : Nat} {v : Value} {l : List S36} {p : Nat → Prop} (h : k36.R 36 w b (fun _ => True) v l) (hp : ∀ k,v.ownBlock = some k → p k) : k36.R 36 w b p v l:=by
  obtain ⟨h0,inner,hown,hr⟩:=h
  exact ⟨hp,inner,hown,hr.imp_ (fun x cs hm => by obtain rfl:=k36_openM hm;exact k36_mkM _ _ _ _)⟩
theorem se_keep {Q N S : Nat} {w W : World} {v x : Value} {l : List S36} (hv : StV Q w N S v x l) (hb : Below w.heap.size w W) (j : Nat) (y : Value) : KeepT Q N w (W.setCell ⟨S,j,none⟩ y) :=
  ⟨Nat.le_trans hb.size (by simp),fun i hi hn => (Below.heap_setCell W ⟨S,j,none⟩ y i (fun e => hn (by have e2 : i = S:=e;rw [e2];exact ⟨hv.2.1,_,_,hv.1,.inl rfl⟩))).trans (hb.block i hi)⟩
theorem se_set1 {Q N S : Nat} {w W : World} {v x : Value} {l : List S36} (hv : StV Q w N S v x l) (hb : Below w.heap.size w W) (y : Value) : SE Q N S w (W.setCell ⟨S,1,none⟩ y) l y :=
  ⟨⟨v,blk_put (bB_ hv.1 hb) 1 y rfl,hv.2.1,Kd.R_far (Kd.R_below hv.2.2 hb) (p:=⟨S,1,none⟩) (fun k hk => hk) y⟩,se_keep hv hb 1 y,(hb.mono hv.size).setCell (p:=⟨S,1,none⟩) hv.2.1 y⟩
theorem se_set0 {Q N S : Nat} {w W : World} {v x v2 : Value} {l l2 : List S36} (hv : StV Q w N S v x l) (hb : Below w.heap.size w W) (hr : k36.R 36 W w.heap.size (fun _ => True) v2 l2) : SE Q N S w (W.setCell ⟨S,0,none⟩ v2) l2 x :=
  ⟨⟨v2,blk_put (bB_ hv.1 hb) 0 v2 rfl,hv.2.1,Kd.R_far (R_okT (Kd.R_lower hr hv.size) (fun k hk => by have:=Kd.R_base hr k hk;have:=blk_lt hv.1;show k ≠ S;omega)) (p:=⟨S,0,none⟩) (fun k hk => hk) v2⟩,se_keep hv hb 0 v2,(hb.mono hv.size).setCell (p:=⟨S,0,none⟩) hv.2.1 v2⟩
set_option maxHeartbeats 4000000 in
set_option maxRecDepth 100000 in
theorem spec_l9Put.callsE {N S : Nat} {w0 w : World} {l : List S36} {c : Int} (k : Nat) (t0 t1 t2 t3 : Int) (r : Int × List S36 × Int) (h : SE 84 N S w0 w l (.int .i64 c)) (hr : spec_l9Put.f k l c t0 t1 t2 t3 = some r) :
    Calls Try.prog 113 #[.pointer (some ⟨S,0,none⟩),.agg #[.int .i64 t0,.int .i64 t1,.int .i64 t2,.int .i64 t3]] w fun e w' => e = .returned (.int .i64 r.1) ∧ SE 84 N S w0 w' r.2.1 (.int .i64 r.2.2) ∧ KeepT 84 N w w':=by
  refine SE.call h (fun v hv => ?_)
  clear h
  obtain ⟨A,cc,rfl⟩:=Kd.R_slice hv.2.2
  unfold spec_l9Put.f at hr
  have HV:=Z_ hv
  have BS:=Z_ hv.1
  have HB:=Z_ (Below.refl w.heap.size w)
  have HC:=Z_ (Kd.R_reads' hv.2.2).2.2
  have HCC:=Z_ (Kd.R_reads' hv.2.2).2.1
  clear hv
  by_cases hz : c = 0
  · rw [if_pos hz] at hr
    subst hz
    obtain ⟨q,hq,hr⟩:=Option.bind_eq_some_iff.mp hr
    have HQ:=Z_ hq
    clear hq
    have p0_ : w.cell? ⟨S,1,none⟩ = some (.int .i64 0):=(blk_cell BS.out 1).trans rfl
    go_enter Try.func113,Try.ntmps113
    go_wp2_with (first | ((with_reducible refine gD_ 3 rfl ?_);refine bx_ #[.int .i64 t0,.int .i64 t1,.int .i64 t2,.int .i64 t3] 36 ?_;intro g3 hg w2 hbox hb;have n0_:=Z_ (lP_ HB.out hb);have B3:=Z_ hbox;have p1_ : w2.cell? ⟨S,1,none⟩ = some (.int .i64 0):=(blk_cell (bB_ BS.out n0_.out) 1).trans rfl;clear HB;have HB:=n0_;clear n0_ hb hbox hg))
    clear p0_ p1_
    have n0_:=Z_ (below_drew HB.out)
    have n1_:=Z_ (bD_ B3.out)
    clear HB B3
    have HB:=n0_;have B3:=n1_
    clear n0_ n1_
    refine start_ (n:=8) (S:=fun w' => w'.cell? ⟨S,0,none⟩ = some (.slice A l.length cc) ∧ w'.cell? ⟨g3,0,none⟩ = some (.int .i64 t0) ∧ w'.cell? ⟨g3,1,none⟩ = some (.int .i64 t1) ∧ w'.cell? ⟨g3,2,none⟩ = some (.int .i64 t2) ∧ w'.cell? ⟨g3,3,none⟩ = some (.int .i64 t3)) (ds:=[7]) (Bt 8 0) (by kernel_rfl) rfl rfl ⟨(blk_cell (bB_ BS.out HB.out) 0).trans rfl,(blk_cell B3.out 0).trans rfl,(blk_cell B3.out 1).trans rfl,(blk_cell B3.out 2).trans rfl,(blk_cell B3.out 3).trans rfl⟩ (fun hHeld => ?_)
    generalize hw3 : w2.drew = w3 at HB B3 hHeld ⊢
    clear hw3
    refine pu_ 0 (some 11) (Bt 8 1) (by kernel_rfl) ?_
    refine pu_ 1 (some 12) (Bt 8 3) (by kernel_rfl) ?_
    refine pu_ 2 (some 13) (Bt 8 7) (by kernel_rfl) ?_
    refine ta_ 3 (some 14) (Bt 8 15) (by kernel_rfl) hHeld ?_
    refine ta_ 4 (some 15) (Bt 8 31) (by kernel_rfl) hHeld ?_
    refine join_ (σ:=Nat × Value) 1 (Bt 8 127) (fun s_ => [(16,.agg #[.int .i64 q.1,.int .i64 q.2.1,s_.2]),(5,.pointer (some ⟨s_.1,0,none⟩))]) (fun s_ W => ( W.cell? ⟨S,0,none⟩ = some (.slice A l.length cc) ∧ W.cell? ⟨g3,0,none⟩ = some (.int .i64 t0) ∧ W.cell? ⟨g3,1,none⟩ = some (.int .i64 t1) ∧ W.cell? ⟨g3,2,none⟩ = some (.int .i64 t2) ∧ W.cell? ⟨g3,3,none⟩ = some (.int .i64 t3)) ∧ W.heap[s_.1]? = some (.cells #[.int .i64 0,.int .i64 0,.slice none 0 0] 33 (0,0)) ∧ w.heap.size ≤ s_.1 ∧ W.heap[g3]? = some (.cells #[.int .i64 t0,.int .i64 t1,.int .i64 t2,.int .i64 t3] 36 (0,0)) ∧ k36.R 36 W w.heap.size (fun k => k ≠ s_.1) s_.2 q.2.2 ∧ Below w.heap.size w W) ?_ ?_
    rotate_left
    · intro hCont
      refine two_ (i:=5) (j:=6) (Ni:=some 16) (Nj:=some 5) (Bt 8 63) (Bt 8 95) rfl rfl rfl rfl (by kernel_rfl) (by decide) (by decide) (fun K hK => ?_) (fun K hK => ?_)
      · skip
        refine goes_ Try.func52 (by kernel_rfl) rfl #[.slice A l.length cc,.agg #[.int .i64 t0,.int .i64 t1,.int .i64 t2,.int .i64 t3]] (by rfl) rfl rfl (by (try simp only [List.map_toArray,List.map_cons,List.map_nil]);first | done | rfl) ?_
        refine (spec_l5Put.calls k A cc l t0 t1 t2 t3 q.1 q.2.1 q.2.2 _ (Kd.C_below HC.out HB.out) HCC.out HQ.out).mono ?_
        rintro e w5 ⟨v2,rfl,ho,hb⟩
        refine ⟨_,rfl,?_⟩
        have HR:=Z_ (Kd.R_lower ho (below_size HB.out))
        have n0_:=Z_ (lP_ HB.out hb)
        have n1_:=Z_ (bB_ B3.out hb)
        clear HB B3 ho
        have HB:=n0_;have B3:=n1_
        clear n0_ n1_ hb
        refine hK.out _ _ ⟨(blk_cell (bB_ BS.out HB.out) 0).trans rfl,(blk_cell B3.out 0).trans rfl,(blk_cell B3.out 1).trans rfl,(blk_cell B3.out 2).trans rfl,(blk_cell B3.out 3).trans rfl⟩ (fun hHeld => ?_)
        clear hK K
        refine norm_ (a':=?_) ?_ ?_
        rotate_left
        · show Act.put _ (some 16) _ = _
          simp only [Act.put,lA_,lZ_,lS_,i64_w,i32_w]
          rfl
        refine one_ (i:=6) (N:=some 5) (Bt 8 127) rfl rfl (by kernel_rfl) (by decide) (fun K hK => ?_)
        refine value_ (w1:=?_) (v:=?_) (by rfl) rfl ?_ ?_
        rotate_left 2
        · go_simp
          first | rfl | (constructor <;> rfl)
        have B5:=Z_ (blk_new w5 (.cells #[.int .i64 0,.int .i64 0,.slice none 0 0] 33))
        have GE:=Z_ (below_size HB.out)
        have n0_:=Z_ (lA1_ HB.out (.cells #[.int .i64 0,.int .i64 0,.slice none 0 0] 33))
        have n1_:=Z_ (bA_ B3.out (.cells #[.int .i64 0,.int .i64 0,.slice none 0 0] 33))
        have HG:=Z_ (show ∀ k,v2.ownBlock = some k → k ≠ w5.heap.size from fun k hk => by obtain ⟨_,hi⟩:=Kd.R_own HR.out;have:=own_lt hi k hk;omega)
        have n2_:=Z_ (rA_ HR.out (.cells #[.int .i64 0,.int .i64 0,.slice none 0 0] 33))
        clear HR
        have HR:=n2_
        clear HB B3
        have HB:=n0_;have B3:=n1_
        clear n0_ n1_
        refine hK.out _ _ ⟨(blk_cell (bB_ BS.out HB.out) 0).trans rfl,(blk_cell B3.out 0).trans rfl,(blk_cell B3.out 1).trans rfl,(blk_cell B3.out 2).trans rfl,(blk_cell B3.out 3).trans rfl⟩ (fun hHeld => ?_)
        clear hK K
        refine norm_ (a':=?_) ?_ ?_
        rotate_left
        · show Act.put _ (some 5) _ = _
          simp only [Act.put,lA_,lZ_,lS_,i64_w,i32_w]
          rfl
        exact norm_ (by simp only [putAll,Act.put,lA_,lZ_,lS_]) (hCont (w5.heap.size,v2) _ ⟨hHeld,B5.out,GE.out,B3.out,R_okT HR.out HG.out,HB.out⟩)
      · skip
        refine value_ (w1:=?_) (v:=?_) (by rfl) rfl ?_ ?_
        rotate_left 2
        · go_simp
          first | rfl | (constructor <;> rfl)
        have B5:=Z_ (blk_new w3 (.cells #[.int .i64 0,.int .i64 0,.slice none 0 0] 33))
        have GE:=Z_ (below_size HB.out)
        have n0_:=Z_ (lA1_ HB.out (.cells #[.int .i64 0,.int .i64 0,.slice none 0 0] 33))
        have n1_:=Z_ (bA_ B3.out (.cells #[.int .i64 0,.int .i64 0,.slice none 0 0] 33))
        clear HB B3
        have HB:=n0_;have B3:=n1_
        clear n0_ n1_
        refine hK.out _ _ ⟨(blk_cell (bB_ BS.out HB.out) 0).trans rfl,(blk_cell B3.out 0).trans rfl,(blk_cell B3.out 1).trans rfl,(blk_cell B3.out 2).trans rfl,(blk_cell B3.out 3).trans rfl⟩ (fun hHeld => ?_)
        clear hK K
        refine norm_ (a':=?_) ?_ ?_
        rotate_left
        · show Act.put _ (some 5) _ = _
          simp only [Act.put,lA_,lZ_,lS_,i64_w,i32_w]
          rfl
        refine one_ (i:=5) (N:=some 16) (Bt 8 127) rfl rfl (by kernel_rfl) (by decide) (fun K hK => ?_)
        refine goes_ Try.func52 (by kernel_rfl) rfl #[.slice A l.length cc,.agg #[.int .i64 t0,.int .i64 t1,.int .i64 t2,.int .i64 t3]] (by rfl) rfl rfl (by (try simp only [List.map_toArray,List.map_cons,List.map_nil]);first | done | rfl) ?_
        refine (spec_l5Put.calls k A cc l t0 t1 t2 t3 q.1 q.2.1 q.2.2 _ (Kd.C_below HC.out HB.out) HCC.out HQ.out).mono ?_
        rintro e w5 ⟨v2,rfl,ho,hb⟩
        refine ⟨_,rfl,?_⟩
        have HR:=Z_ (Kd.R_lower ho (below_size HB.out))
        have HG:=Z_ (Kd.R_base ho)
        have n0_:=Z_ (lP_ HB.out hb)
        have n1_:=Z_ (bB_ B3.out hb)
        have n2_:=Z_ (bB_ B5.out hb)
        clear B5
        clear HB B3 ho
        have HB:=n0_;have B3:=n1_
        have B5:=n2_
        clear n2_
        clear n0_ n1_ hb
        refine hK.out _ _ ⟨(blk_cell (bB_ BS.out HB.out) 0).trans rfl,(blk_cell B3.out 0).trans rfl,(blk_cell B3.out 1).trans rfl,(blk_cell B3.out 2).trans rfl,(blk_cell B3.out 3).trans rfl⟩ (fun hHeld => ?_)
        clear hK K
        refine norm_ (a':=?_) ?_ ?_
        rotate_left
        · show Act.put _ (some 16) _ = _
          simp only [Act.put,lA_,lZ_,lS_,i64_w,i32_w]
          rfl
        exact norm_ (by simp only [putAll,Act.put,lA_,lZ_,lS_]) (hCont (w3.heap.size,v2) _ ⟨hHeld,B5.out,GE.out,B3.out,R_okT HR.out (fun k hk e => by have:=HG.out k hk;simp at this;omega),HB.out⟩)
    rintro ⟨g5,v2⟩ w6 ⟨hHeld,b5,ge5,b3,ho2,hb⟩
    obtain ⟨A2,c2,e2⟩:=Kd.R_slice ho2
    dsimp only at e2
    subst e2
    clear HB B3
    have B5:=Z_ b5;have GE:=Z_ ge5;have HR:=Z_ ho2;have HB:=Z_ hb
    clear b5 ge5 b3 ho2 hb hHeld
    dsimp only at B5 GE HR HB ⊢
    refine norm_ (a':=?_) ?_ ?_
    rotate_left
    · simp only [putAll,Act.put,lA_,lZ_,lS_]
      rfl
    refine last_ (i:=7) (N:=none) (Bt 8 255) rfl rfl (by kernel_rfl) (by decide) (fun K hK => ?_)
    have x0_ : w6.cell? ⟨g5,0,none⟩ = some (.int .i64 0):=(blk_cell B5.out 0).trans rfl;have x1_ : w6.cell? ⟨g5,1,none⟩ = some (.int .i64 0):=(blk_cell B5.out 1).trans rfl;have x2_ : w6.cell? ⟨g5,2,none⟩ = some (.slice none 0 0):=(blk_cell B5.out 2).trans rfl
    have y0_:=blk_frozen B5.out 0;have y1_:=blk_frozen B5.out 1;have y2_:=blk_frozen B5.out 2
    refine skip_ (w1:=?_) (by rfl) rfl ?_ ?_
    rotate_left
    · go_simp
      rfl
    refine hK.out _ _ ?_
    clear hK K
    refine done_ (by kernel_rfl) ?_
    have n0_:=Z_ (lS1_ (j:=2) (v:=(.slice A2 q.2.2.length c2)) (lS1_ (j:=1) (v:=.int .i64 q.2.1) (lS1_ (j:=0) (v:=.int .i64 q.1) HB.out GE.out) GE.out) GE.out)
    have n1_:=Z_ (Kd.R_mono (Kd.R_far (Kd.R_far (Kd.R_far HR.out (p:=⟨g5,0,none⟩) (fun k hk => hk) (.int .i64 q.1)) (p:=⟨g5,1,none⟩) (fun k hk => hk) (.int .i64 q.2.1)) (p:=⟨g5,2,none⟩) (fun k hk => hk) (.slice A2 q.2.2.length c2)) (fun _ _ => trivial))
    have n2_ : Aside0 ((((w6.setCell ⟨g5,0,none⟩ (.int .i64 q.1)).setCell ⟨g5,1,none⟩ (.int .i64 q.2.1)).setCell ⟨g5,2,none⟩ (.slice A2 q.2.2.length c2)).heap[g5]? = some (.cells #[.int .i64 q.1,.int .i64 q.2.1,.slice A2 q.2.2.length c2] 33 (0,0))):=Z_ (blk_put (blk_put (blk_put B5.out 0 _ rfl) 1 _ rfl) 2 _ rfl)
    clear HB HR B5 x0_ x1_ x2_ y0_ y1_ y2_
    have HB:=n0_;have HR:=n1_;have B5:=n2_
    clear n0_ n1_ n2_
    generalize ((w6.setCell ⟨g5,0,none⟩ (.int .i64 q.1)).setCell ⟨g5,1,none⟩ (.int .i64 q.2.1)).setCell ⟨g5,2,none⟩ (.slice A2 q.2.2.length c2) = w7 at HB HR B5 ⊢
    have x0_ : w7.cell? ⟨g5,0,none⟩ = some (.int .i64 q.1):=(blk_cell B5.out 0).trans rfl
    have x1_ : w7.cell? ⟨g5,1,none⟩ = some (.int .i64 q.2.1):=(blk_cell B5.out 1).trans rfl
    have x2_ : w7.cell? ⟨g5,2,none⟩ = some (.slice A2 q.2.2.length c2):=(blk_cell B5.out 2).trans rfl
    have z0_ : w7.cell? ⟨S,0,none⟩ = some (.slice A l.length cc):=(blk_cell (bB_ BS.out HB.out) 0).trans rfl
    have z1_ : w7.cell? ⟨S,1,none⟩ = some (.int .i64 0):=(blk_cell (bB_ BS.out HB.out) 1).trans rfl
    have f0_:=blk_frozen (bB_ BS.out HB.out) 0
    have f1_:=blk_frozen (bB_ BS.out HB.out) 1
    by_cases hq : q.1 = 0
    · rw [if_pos hq] at hr
      injection hr with hr
      subst hr
      have hq0 : (q.1 == 0) = true:=by simpa using hq
      have hq1 : (q.1 != 0) = false:=by simpa using hq
      have hne : S ≠ g5:=by have:=GE.out;have:=blk_lt BS.out;omega
      have hne2 : g5 ≠ S:=hne.symm
      go_wp2
      go_ret
      exact ⟨rfl,se_set0 HV.out HB.out HR.out⟩
    · rw [if_neg hq] at hr
      injection hr with hr
      subst hr
      have hq0 : (q.1 == 0) = false:=by simpa using hq
      have hq1 : (q.1 != 0) = true:=by simpa using hq
      go_wp2
      go_ret
      exact ⟨rfl,se_set1 HV.out HB.out _⟩
  · rw [if_neg hz] at hr
    injection hr with hr
    subst hr
    have hz0 : (c == 0) = false:=by simpa using hz
    have hz1 : (c != 0) = true:=by simpa using hz
    have p0_ : w.cell? ⟨S,1,none⟩ = some (.int .i64 c):=(blk_cell BS.out 1).trans rfl
    go_enter Try.func113,Try.ntmps113
    go_wp2_with (first | ((with_reducible refine gD_ 3 rfl ?_);refine bx_ #[.int .i64 t0,.int .i64 t1,.int .i64 t2,.int .i64 t3] 36 ?_;intro g3 hg w2 hbox hb;have n0_:=Z_ (lP_ HB.out hb);have p1_ : w2.cell? ⟨S,1,none⟩ = some (.int .i64 c):=(blk_cell (bB_ BS.out n0_.out) 1).trans rfl;clear HB;have HB:=n0_;clear n0_ hb hbox hg))
    go_ret
    exact ⟨rfl,(SE.start HV.out).below HB.out⟩
theorem st_new {Q N M : Nat} {w : World} {a b v x : Value} {l : List S36} (h : w.heap[M]? = some (.cells #[a,b] Q (0,0))) (hN : N ≤ M) (hr : k36.R 36 w N (fun k => k ≠ M) v l) : StV Q ((w.setCell ⟨M,0,none⟩ v).setCell ⟨M,1,none⟩ x) N M v x l :=
  ⟨blk_put (blk_put h 0 v rfl) 1 x rfl,hN,Kd.R_far (Kd.R_far hr (p:=⟨M,0,none⟩) (fun k hk => hk) v) (p:=⟨M,1,none⟩) (fun k hk => hk) x⟩
theorem R_below_ne {w W : World} {b g : Nat} {v : Value} {l : List S36} (h : k36.R 36 w b (fun _ => True) v l) (hb : Below w.heap.size w W) (hg : w.heap.size ≤ g) : k36.R 36 W b (fun k => k ≠ g) v l :=
  Kd.R_below (R_okT h (fun k hk => by obtain ⟨_,hi⟩:=Kd.R_own h;have:=own_lt hi k hk;show k ≠ g;omega)) hb
def spec_l9Two.f (k : Nat) (l : List S36) (c o a b : Int) : Option (Int × List S36 × Int):=spec_l9Put.f k l c o a b 0
set_option maxHeartbeats 4000000 in
set_option maxRecDepth 100000 in
theorem spec_l9Two.callsE {N S : Nat} {w0 w : World} {l : List S36} {c : Int} (k : Nat) (o a b : Int) (r : Int × List S36 × Int) (h : SE 84 N S w0 w l (.int .i64 c)) (hr : spec_l9Two.f k l c o a b = some r) :
    Calls Try.prog 85 #[.pointer (some ⟨S,0,none⟩),.int .i64 o,.int .i64 a,.int .i64 b] w fun e w' => e = .returned (.int .i64 r.1) ∧ SE 84 N S w0 w' r.2.1 (.int .i64 r.2.2) ∧ KeepT 84 N w w':=by
  refine SE.call h (fun v hv => ?_)
  have HS:=Z_ (SE.start hv)
  have HR:=Z_ (show spec_l9Put.f k l c o a b 0 = some r from hr)
  clear h hv hr
  go_enter Try.func85,Try.ntmps85
  go_wp2_with (first | (go_at_call 113;refine (spec_l9Put.callsE k o a b 0 r HS.out HR.out).mono ?_;rintro e w' ⟨rfl,hs,hk⟩;clear HS;have HS:=Z_ hs;clear hs hk))
  go_ret
  exact ⟨rfl,HS.out⟩
def spec_l9Name.f (k : Nat) (l : List S36) (c n : Int) : Option (Int × List S36 × Int):=spec_l9Put.f k l c 1 0 0 n
set_option maxHeartbeats 4000000 in
set_option maxRecDepth 100000 in
theorem spec_l9Name.callsE {N S : Nat} {w0 w : World} {l : List S36} {c : Int} (k : Nat) (n : Int) (r : Int × List S36 × Int) (h : SE 84 N S w0 w l (.int .i64 c)) (hr : spec_l9Name.f k l c n = some r) :
    Calls Try.prog 114 #[.pointer (some ⟨S,0,none⟩),.int .i64 n] w fun e w' => e = .returned (.int .i64 r.1) ∧ SE 84 N S w0 w' r.2.1 (.int .i64 r.2.2) ∧ KeepT 84 N w w':=by
  refine SE.call h (fun v hv => ?_)
  have HS:=Z_ (SE.start hv)
  have HR:=Z_ (show spec_l9Put.f k l c 1 0 0 n = some r from hr)
  clear h hv hr
  go_enter Try.func114,Try.ntmps114
  go_wp2_with (first | (go_at_call 113;refine (spec_l9Put.callsE k 1 0 0 n r HS.out HR.out).mono ?_;rintro e w' ⟨rfl,hs,hk⟩;clear HS;have HS:=Z_ hs;clear hs hk))
  go_ret
  exact ⟨rfl,HS.out⟩
def l9Fold (k : Nat) : List Int → Int × List S36 × Int → Option (Int × List S36 × Int)
  | [],st => some st
  | x :: ys,st => (spec_l9Two.f k st.2.1 st.2.2 3 x st.1).bind fun q => l9Fold k ys q
def spec_l9List.f (k : Nat) (l : List S36) (c : Int) (xs : List Int) : Option (Int × List S36 × Int):=if xs.length = 0 then none else l9Fold k (xs.take (xs.length - 1)).reverse (rd xs ((xs.length - 1 : Nat) : Int),l,c)
theorem l9Fold_take (k : Nat) (xs : List Int) (d : Nat) (h : d < xs.length) (st : Int × List S36 × Int) : l9Fold k (xs.take (d + 1)).reverse st = (spec_l9Two.f k st.2.1 st.2.2 3 (rd xs (d : Int)) st.1).bind fun q => l9Fold k (xs.take d).reverse q:=by
  have e : xs.take (d + 1) = xs.take d ++ [rd xs (d : Int)]:=by
    rw [List.take_succ_eq_append_getElem h]
    simp [rd,List.getD,List.getElem?_eq_getElem h]
  rw [e,List.reverse_append]
  rfl
set_option maxHeartbeats 4000000 in
set_option maxRecDepth 100000 in
theorem spec_l9List.callsE {N S : Nat} {w0 w : World} {l : List S36} {c : Int} (k : Nat) (A1 : Option Addr) (c1 : Nat) (xs : List Int) (n : Nat) (r : Int × List S36 × Int) (h : SE 84 N S w0 w l (.int .i64 c)) (hn : xs.length = n) (hC : Kd.C (Kd.int .i64) w A1 xs.length xs) (hf : FarT 84 N w A1 xs.length) (hr : spec_l9List.f k l c xs = some r) :
    Calls Try.prog 115 #[.pointer (some ⟨S,0,none⟩),.slice A1 n c1] w fun e w' => e = .returned (.int .i64 r.1) ∧ SE 84 N S w0 w' r.2.1 (.int .i64 r.2.2) ∧ KeepT 84 N w w':=by
  subst hn
  refine SE.call h (fun v hv => ?_)
  unfold spec_l9List.f at hr
  by_cases h0 : xs.length = 0
  · rw [if_pos h0] at hr;cases hr
  rw [if_neg h0] at hr
  have HS:=Z_ (SE.start hv)
  have HC:=Z_ hC
  have HF:=Z_ hf
  have HM:=Z_ (show xs.length ≤ 9223372036854775807 from hC.2.1)
  obtain ⟨m,hm⟩ : ∃ m,xs.length = m + 1:=⟨xs.length - 1,by omega⟩
  rw [hm,Nat.add_sub_cancel] at hr
  obtain ⟨ad,e,hx0⟩:=Kd.at_int hC (m : Int) (by omega) (by omega)
  subst e
  rw [Int.toNat_natCast] at hx0
  obtain ⟨x0,hxx0⟩ : ∃ x0,x0 = rd xs (m : Int):=⟨_,rfl⟩
  rw [← hxx0] at hx0 hr
  have HR:=Z_ hr
  have HW1:=Z_ (show wrap64 ((xs.length : Int) - 1) = (m : Int) by have:=HM.out;unfold wrap64;omega)
  have HW2:=Z_ (show wrap64 ((xs.length : Int) - 2) = (m : Int) - 1 by have:=HM.out;unfold wrap64;omega)
  have w1_:=HW1.out
  have w2_:=HW2.out
  have HML:=Z_ hm
  have p1:=eq_true (show 0 ≤ (m : Int) by omega)
  have p2:=eq_true (show (m : Int) < (xs.length : Int) by omega)
  clear h hv hC hf hr hm hxx0 h0
  go_enter Try.func115,Try.ntmps115
  go_wp2
  clear p1 p2
  go_loopg [5,6] m (fun gg v5 v6 w' => ∃ (d : Nat) (st : Int × List S36 × Int),d ≤ m ∧ d ≤ gg ∧ v5 = .int .i64 st.1 ∧ v6 = .int .i64 ((d : Int) - 1) ∧ Aside0 (l9Fold k (xs.take d).reverse st = some r) ∧ Aside0 (SE 84 N S w w' st.2.1 (.int .i64 st.2.2)))
  case atStart => exact ⟨m,(x0,l,c),Nat.le_refl _,by omega,rfl,by first | rfl | (rw [HW2.out]) | simp [HW2.out],HR,HS⟩
  case round =>
    clear HS HR hx0 w1_ w2_
    obtain ⟨d,st,hd,hg,rfl,rfl,HR,HS⟩:=hrel
    by_cases hz : 0 < d
    · obtain ⟨e,rfl⟩ : ∃ e,d = e + 1:=⟨d - 1,by omega⟩
      have hel : e < xs.length:=by have:=HML.out;omega
      have hr:=HR.out
      rw [l9Fold_take k xs e hel st] at hr
      obtain ⟨q,hq,hr⟩:=Option.bind_eq_some_iff.mp hr
      have HCw:=C_keepT HC.out HS.out.2.1 HF.out
      obtain ⟨ad2,e2,hx⟩:=Kd.at_int HCw (e : Int) (by omega) (by omega)
      obtain rfl : ad = ad2:=by injection e2
      rw [Int.toNat_natCast] at hx
      obtain ⟨x,hxx⟩ : ∃ x,x = rd xs (e : Int):=⟨_,rfl⟩
      rw [← hxx] at hx hq
      have HQ:=Z_ hq
      have HR2:=Z_ hr
      have HW:=Z_ (show wrap64 ((e : Int) - 1) = (e : Int) - 1 by have:=HM.out;unfold wrap64;omega)
      have w1_:=HW.out
      have p1:=eq_true (show 0 ≤ (e : Int) by omega)
      have p2:=eq_true (show (e : Int) < (xs.length : Int) by omega)
      have d1 : decide ((e : Int) ≥ 0) = true:=decide_eq_true (by omega)
      have d2 : decide (0 ≤ (e : Int)) = true:=decide_eq_true (by omega)
      rw [show (((e + 1 : Nat) : Int) - 1) = (e : Int) by omega]
      clear HR hr hq hxx HCw e2
      go_wp2_with (first | (go_at_call 85;refine (spec_l9Two.callsE k 3 x st.1 q HS.out HQ.out).mono ?_;rintro e w' ⟨rfl,hs,hk⟩;clear HS;have HS:=Z_ hs;clear hs hk))
      go_roundg (gk - 1)
      case measure => omega
      case rel => exact ⟨e,q,by omega,by omega,rfl,by first | rfl | (rw [HW.out]) | simp [HW.out],HR2,HS⟩
    · obtain rfl : d = 0:=by omega
      have hr : some st = some r:=HR.out
      injection hr with hr
      subst hr
      have d1 : decide ((((0 : Nat) : Int) - 1) ≥ 0) = false:=by decide
      go_wp2
      go_ret
      exact ⟨rfl,HS.out⟩
def l9NamesF (k : Nat) : List Int → List Int × List S36 × Int → Option (List Int × List S36 × Int)
  | [],st => some st
  | n :: ns,st => (spec_l9Name.f k st.2.1 st.2.2 n).bind fun q => l9NamesF k ns (st.1 ++ [q.1],q.2)
def spec_l9Names.f (k : Nat) (l : List S36) (c : Int) (ns : List Int) : Option (Int × List S36 × Int):=if ns.length ≤ 1000000000 then ((l9NamesF k ns ([],l,c)).bind fun st => spec_l9List.f k st.2.1 st.2.2 st.1) else none
set_option maxHeartbeats 4000000 in
set_option maxRecDepth 100000 in
theorem spec_l9Names.callsE {N S : Nat} {w0 w : World} {l : List S36} {c : Int} (k : Nat) (A1 : Option Addr) (c1 : Nat) (ns : List Int) (n : Nat) (r : Int × List S36 × Int) (h : SE 84 N S w0 w l (.int .i64 c)) (hn : ns.length = n) (hC : Kd.C (Kd.int .i64) w A1 ns.length ns) (hf : FarT 84 N w A1 ns.length) (hr : spec_l9Names.f k l c ns = some r) :
    Calls Try.prog 87 #[.pointer (some ⟨S,0,none⟩),.slice A1 n c1] w fun e w' => e = .returned (.int .i64 r.1) ∧ SE 84 N S w0 w' r.2.1 (.int .i64 r.2.2) ∧ KeepT 84 N w w':=by
  subst hn
  refine SE.call h (fun v hv => ?_)
  unfold spec_l9Names.f at hr
  by_cases hm : ns.length ≤ 1000000000
  rotate_left
  · rw [if_neg hm] at hr;cases hr
  rw [if_pos hm] at hr
  obtain ⟨st0,hf0,hr⟩:=Option.bind_eq_some_iff.mp hr
  have HS:=Z_ (SE.start hv)
  have HN:=Z_ hv.size
  have HC:=Z_ hC
  have HF:=Z_ hf
  have HM:=Z_ hm
  have HR:=Z_ hr
  have HF0:=Z_ hf0
  clear h hv hC hf hm hr hf0
  go_enter Try.func87,Try.ntmps87
  go_wp2_with (first | ((with_reducible refine gD_ 7 rfl ?_);refine Kd.R_lit (Kd.int .i64) _ 2 ?hg (N:=7) ?hd (xs:=([] : List Int)) (inner:=[]) (ok:=fun _ => True) (okp:=fun _ => True) ?hr ?hp (fun _ hk => hk) trivial (Below.refl _ _) (Nat.le_refl _) (by simp) ?_;(case hd => rfl);(case hg => rfl);(case hr => first | (go_simp;done) | (go_simp;rfl));(case hp => exact (Reps.none _ _));intro v1 w1 ho hb hg hn;clear hg hn;obtain ⟨AP,cP,eP⟩:=Kd.R_slice ho;subst eP;have HP:=Z_ (Kd.R_lower ho HS.out.2.1.1);replace HS:=Z_ (HS.out.below hb);clear ho hb))
  go_loopg [5,6] ns.length (fun gg v5 v6 w' => ∃ (kk : Nat) (st : List Int × List S36 × Int),kk + gg = ns.length ∧ v6 = .int .i64 kk ∧ Aside0 (st.1.length = kk) ∧ Aside0 (l9NamesF k (ns.drop kk) st = some st0) ∧ Aside0 (Kd.R (Kd.int .i64) 2 w' w.heap.size (fun _ => True) v5 st.1) ∧ Aside0 (SE 84 N S w w' st.2.1 (.int .i64 st.2.2)))
  case atStart => exact ⟨0,([],l,c),by omega,rfl,⟨rfl⟩,by simpa using HF0,HP,HS⟩
  case round =>
    clear HP HS HF0
    obtain ⟨kk,st,hkk,rfl,HLEN,HF0,HO,HS⟩:=hrel
    have HCw:=Z_ (C_keepT HC.out HS.out.2.1 HF.out)
    by_cases hlt : kk < ns.length
    · have hf0:=HF0.out
      have hd : ns.drop kk = rd ns (kk : Int) :: ns.drop (kk + 1):=by
        rw [List.drop_eq_getElem_cons hlt]
        simp [rd,List.getD,List.getElem?_eq_getElem hlt]
      rw [hd] at hf0
      obtain ⟨ad,e,hx⟩:=Kd.at_int HCw.out (kk : Int) (by omega) (by omega)
      subst e
      rw [Int.toNat_natCast] at hx
      obtain ⟨x,hxx⟩ : ∃ x,x = rd ns (kk : Int):=⟨_,rfl⟩
      rw [← hxx] at hx hf0
      unfold l9NamesF at hf0
      obtain ⟨q,hq,hf0⟩:=Option.bind_eq_some_iff.mp hf0
      have HF1:=Z_ hf0
      have HQ:=Z_ hq
      have HW:=Z_ (show wrap64 ((kk : Int) + 1) = ((kk + 1 : Nat) : Int) by have:=HM.out;unfold wrap64;omega)
      have d1 : decide ((kk : Int) < (ns.length : Int)) = true:=decide_eq_true (by omega)
      have p1:=eq_true (show 0 ≤ (kk : Int) by omega)
      have p2:=eq_true (show (kk : Int) < (ns.length : Int) by omega)
      clear hq hxx hf0 hd HF0
      go_wp2_with (first | (go_at_call 114;refine (spec_l9Name.callsE k x q HS.out HQ.out).mono ?_;rintro e w' ⟨rfl,hs,hk⟩;have k0_:=Z_ (R_keepT HO.out hk (by decide));clear HS HO;have HO:=k0_;have HS:=Z_ hs;clear hs hk k0_) | ((with_reducible refine gate_builtin (b:=.append) (xs:=#[.tmp 14,.tmp 21]) rfl ?_);at_builtin;refine Kd.R_append (Kd.int .i64) w.heap.size rfl (.tmp 14) (.tmp 21) 37 2 (.int .i64 0) 8 rfl Try.underlying37 info2 rfl (by decide) (by omega) u5 st.1 q.1 [.int .i64 q.1] (fun _ => True) (fun _ => False) rfl rfl ?aP (fun _ hk => hk.elim) ?aF ?aO (Below.refl _ _) ?aS ?aL ?_;(case aP => exact rfl);(case aF => exact (fun _ _ => trivial));(case aO => exact HO.out);(case aS => exact HS.out.2.1.1);(case aL => have:=HLEN.out;have:=HM.out;omega);intro v513 w11 ho hb hg hat;have n0_:=Z_ (SE.grown HS.out hg HN.out (fun b e => by obtain ⟨_,hi⟩:=Kd.R_own HO.out;obtain ⟨cells,hc⟩:=own_typed hi b e;exact ⟨own_base hi b e,cells,_,hc,by decide,by decide⟩));clear HS HO hb hg hat;have HS:=n0_;have HO:=Z_ ho;clear n0_ ho))
      go_roundg (gk - 1)
      case measure => omega
      case rel => exact ⟨kk + 1,(st.1 ++ [q.1],q.2),by omega,by first | rfl | (rw [HW.out]) | simp [HW.out],⟨by have:=HLEN.out;simp;omega⟩,HF1,HO,HS⟩
    · have hf0:=HF0.out
      rw [List.drop_of_length_le (by omega)] at hf0
      have hf1 : some st = some st0:=hf0
      injection hf1 with hf1
      subst hf1
      have d1 : decide ((kk : Int) < (ns.length : Int)) = false:=decide_eq_false (by omega)
      obtain ⟨A5,c5,e5⟩:=Kd.R_slice HO.out
      subst e5
      clear hf0 HF0
      go_wp2_with (first | (go_at_call 115;refine (spec_l9List.callsE k A5 c5 st.1 _ r HS.out rfl (Kd.R_reads' HO.out).2.2 (far_row HO.out (by decide) (by decide)) HR.out).mono ?_;rintro e w' ⟨rfl,hs,hk⟩;clear HS;have HS:=Z_ hs;clear hs hk))
      go_ret
      exact ⟨rfl,HS.out⟩
def spec_l9Keys.f (k : Nat) (l : List S36) (c ni nr own half sI sR : Int) : Option (Int × Int × Int × Int × List S36 × Int):=(spec_l9Two.f k l c 3 ni nr).bind fun r1 => (if 0 ≤ half ∧ half < (r1.2.1.length : Int) then (some (rd_T36 r1.2.1 half).f1).bind fun x => ((spec_l1Min.f own x).bind fun mi => ((spec_l1Max.f own x).bind fun ma => ((spec_l9Two.f k r1.2.1 r1.2.2 7 mi ma).bind fun r2 => ((spec_l9Two.f k r2.2.1 r2.2.2 4 r1.1 r2.1).bind fun r3 => ((spec_l9Names.f k r3.2.1 r3.2.2 [1,sI,sR]).bind fun r4 => ((spec_l9Two.f k r4.2.1 r4.2.2 4 r3.1 r4.1).bind fun r5 => ((spec_l9Names.f k r5.2.1 r5.2.2 [2,sI,sR]).bind fun r6 => ((spec_l9Two.f k r6.2.1 r6.2.2 4 r3.1 r6.1).bind fun r7 => ((spec_l9Names.f k r7.2.1 r7.2.2 [3,sI,sR]).bind fun r8 => ((spec_l9Two.f k r8.2.1 r8.2.2 4 r3.1 r8.1).bind fun r9 => (some (r3.1,r5.1,r7.1,r9.1,r9.2)))))))))))) else none)
abbrev spec_l9Keys.callsE.b0 : Array Bool:=#[false,false,false,false,false,false,false,false,false,false,false]
abbrev spec_l9Keys.callsE.b1 : Array Bool:=#[true,false,false,false,false,false,false,false,false,false,false]
abbrev spec_l9Keys.callsE.b2 : Array Bool:=#[true,true,false,false,false,false,false,false,false,false,false]
abbrev spec_l9Keys.callsE.b3 : Array Bool:=#[true,true,true,false,false,false,false,false,false,false,false]
abbrev spec_l9Keys.callsE.b4 : Array Bool:=#[true,true,true,true,false,false,false,false,false,false,false]
abbrev spec_l9Keys.callsE.b5 : Array Bool:=#[true,true,true,true,true,false,false,false,false,false,false]
abbrev spec_l9Keys.callsE.b6 : Array Bool:=#[true,true,true,true,true,true,false,false,false,false,false]
abbrev spec_l9Keys.callsE.b7 : Array Bool:=#[true,true,true,true,true,true,true,false,false,false,false]
abbrev spec_l9Keys.callsE.b8 : Array Bool:=#[true,true,true,true,true,true,true,true,false,false,false]
abbrev spec_l9Keys.callsE.b9 : Array Bool:=#[true,true,true,true,true,true,true,true,true,false,false]
abbrev spec_l9Keys.callsE.b10 : Array Bool:=#[true,true,true,true,true,true,true,true,true,true,false]
abbrev spec_l9Keys.callsE.b11 : Array Bool:=#[true,true,true,true,true,true,true,true,true,true,true]
set_option maxHeartbeats 8000000 in
set_option maxRecDepth 100000 in
theorem spec_l9Keys.callsE {N S : Nat} {w0 w : World} {l : List S36} {c : Int} (k : Nat) (ni nr own half sI sR : Int) (rr : Int × Int × Int × Int × List S36 × Int) (h : SE 84 N S w0 w l (.int .i64 c)) (hr : spec_l9Keys.f k l c ni nr own half sI sR = some rr) :
    Calls Try.prog 47 #[.pointer (some ⟨S,0,none⟩),.int .i64 ni,.int .i64 nr,.int .i64 own,.int .i64 half,.int .i64 sI,.int .i64 sR] w fun e w' => e = .returned (.agg #[.int .i64 rr.1,.int .i64 rr.2.1,.int .i64 rr.2.2.1,.int .i64 rr.2.2.2.1]) ∧ SE 84 N S w0 w' rr.2.2.2.2.1 (.int .i64 rr.2.2.2.2.2) ∧ KeepT 84 N w w':=by
  refine SE.call h (fun v hv => ?_)
  have HS:=Z_ (SE.start hv)
  have HN:=Z_ hv.size
  unfold spec_l9Keys.f at hr
  obtain ⟨r1,h1,hr⟩:=Option.bind_eq_some_iff.mp hr
  have H1:=Z_ h1
  by_cases hg : 0 ≤ half ∧ half < (r1.2.1.length : Int)
  rotate_left
  · rw [if_neg hg] at hr;cases hr
  rw [if_pos hg,Option.bind_some] at hr
  generalize hx : (rd_T36 r1.2.1 half).f1 = x at hr
  obtain ⟨mi,hmi,hr⟩:=Option.bind_eq_some_iff.mp hr
  obtain ⟨ma,hma,hr⟩:=Option.bind_eq_some_iff.mp hr
  have HMI:=Z_ hmi
  have HMA:=Z_ hma
  obtain ⟨r2,h2,hr⟩:=Option.bind_eq_some_iff.mp hr
  have H2:=Z_ h2
  obtain ⟨r3,h3,hr⟩:=Option.bind_eq_some_iff.mp hr
  have H3:=Z_ h3
  clear h3
  obtain ⟨r4,h4,hr⟩:=Option.bind_eq_some_iff.mp hr
  have H4:=Z_ h4
  clear h4
  obtain ⟨r5,h5,hr⟩:=Option.bind_eq_some_iff.mp hr
  have H5:=Z_ h5
  clear h5
  obtain ⟨r6,h6,hr⟩:=Option.bind_eq_some_iff.mp hr
  have H6:=Z_ h6
  clear h6
  obtain ⟨r7,h7,hr⟩:=Option.bind_eq_some_iff.mp hr
  have H7:=Z_ h7
  clear h7
  obtain ⟨r8,h8,hr⟩:=Option.bind_eq_some_iff.mp hr
  have H8:=Z_ h8
  clear h8
  obtain ⟨r9,h9,hr⟩:=Option.bind_eq_some_iff.mp hr
  have H9:=Z_ h9
  clear h9
  clear h1 h2 hmi hma
  injection hr with hr
  subst hr
  have p1:=eq_true hg.1
  have p2:=eq_true hg.2
  have HG:=Z_ hg
  have HX:=Z_ hx
  clear h hv hg hx
  go_enter Try.func47,Try.ntmps47
  go_wp2_with (first | ((with_reducible refine gD_ 14 rfl ?_);refine bx_ #[.int .i64 0,.int .i64 0,.int .i64 0,.int .i64 0] 28 ?_;intro g14 hg w2 hbox hb;have BK:=Z_ hbox;have GE:=Z_ (show w.heap.size ≤ g14 by rw [hg];exact HS.out.2.1.1);replace HS:=Z_ (HS.out.below hb);clear hb hbox hg) | (go_at_call 85;refine (spec_l9Two.callsE k 3 ni nr r1 HS.out H1.out).mono ?_;rintro e w9 ⟨rfl,hs,hk⟩;have k0_:=Z_ (blk_keepT BK.out hk (by decide) (by decide));clear HS BK;have BK:=k0_;have HS:=Z_ hs;clear hs hk k0_;obtain ⟨v9,hv9⟩:=HS.out.1;obtain ⟨A9,c9,e9⟩:=Kd.R_slice hv9.2.2;subst e9;obtain ⟨ad9,e9,hx0,hx1,hx2,hx3⟩:=at_T36 (Kd.R_reads' hv9.2.2).2.2 half HG.out.1 HG.out.2;subst e9;rw [HX.out] at hx1;have p0_ : w9.cell? ⟨S,0,none⟩ = some (.slice (some ad9) r1.2.1.length c9):=(blk_cell hv9.1 0).trans rfl;clear hx0 hx2 hx3 hv9) | (go_at_call 86;refine (spec_l1Min.calls own x mi _ HMI.out).mono ?_;rintro e w9 ⟨rfl,hd⟩;have hb:=hd.below;clear hd;replace HS:=Z_ (HS.out.below hb);replace BK:=Z_ (bB_ BK.out hb);clear hb) | (go_at_call 37;refine (spec_l1Max.calls own x ma _ HMA.out).mono ?_;rintro e w9 ⟨rfl,hd⟩;have hb:=hd.below;clear hd;replace HS:=Z_ (HS.out.below hb);replace BK:=Z_ (bB_ BK.out hb);clear hb) | (go_at_call 85;refine (spec_l9Two.callsE k 7 mi ma r2 HS.out H2.out).mono ?_;rintro e w9 ⟨rfl,hs,hk⟩;have k0_:=Z_ (blk_keepT BK.out hk (by decide) (by decide));clear HS BK;have BK:=k0_;have HS:=Z_ hs;clear hs hk k0_) | (go_at_call 85;refine (spec_l9Two.callsE k 4 r1.1 r2.1 r3 HS.out H3.out).mono ?_;rintro e w9 ⟨rfl,hs,hk⟩;have k0_:=Z_ (blk_keepT BK.out hk (by decide) (by decide));clear HS BK;have BK:=k0_;have HS:=Z_ hs;clear hs hk k0_) | ((with_reducible refine gD_ 18 rfl ?_);refine bx_ #[.int .i64 0,.int .i64 0,.int .i64 0,.int .i64 0] 28 ?_;intro gl hg w3 hbox hb;have BL:=Z_ hbox;have GL:=Z_ (show w.heap.size ≤ gl by rw [hg];exact HS.out.2.1.1);have NE:=Z_ (show g14 ≠ gl by rw [hg];exact Nat.ne_of_lt (blk_lt BK.out));replace HS:=Z_ (HS.out.below hb);replace BK:=Z_ (bB_ BK.out hb);clear hb hbox hg;have y0_ : w3.cell? ⟨gl,0,none⟩ = some (.int .i64 0):=(blk_cell BL.out 0).trans rfl;have y1_ : w3.cell? ⟨gl,1,none⟩ = some (.int .i64 0):=(blk_cell BL.out 1).trans rfl;have y2_ : w3.cell? ⟨gl,2,none⟩ = some (.int .i64 0):=(blk_cell BL.out 2).trans rfl;have y3_ : w3.cell? ⟨gl,3,none⟩ = some (.int .i64 0):=(blk_cell BL.out 3).trans rfl;have z0_:=blk_frozen BL.out 0;have z1_:=blk_frozen BL.out 1;have z2_:=blk_frozen BL.out 2;have z3_:=blk_frozen BL.out 3))
  have n0_:=Z_ (SE.far (SE.far (SE.far (SE.far HS.out BL.out (by decide) (by decide) GL.out (Nat.le_trans HN.out GL.out) 0 (.int .i64 r3.1)) (blk_put BL.out 0 (.int .i64 r3.1) rfl) (by decide) (by decide) GL.out (Nat.le_trans HN.out GL.out) 1 (.int .i64 0)) (blk_put (blk_put BL.out 0 (.int .i64 r3.1) rfl) 1 (.int .i64 0) rfl) (by decide) (by decide) GL.out (Nat.le_trans HN.out GL.out) 2 (.int .i64 0)) (blk_put (blk_put (blk_put BL.out 0 (.int .i64 r3.1) rfl) 1 (.int .i64 0) rfl) 2 (.int .i64 0) rfl) (by decide) (by decide) GL.out (Nat.le_trans HN.out GL.out) 3 (.int .i64 0))
  have n1_ : Aside0 (((((w3.setCell ⟨gl,0,none⟩ (.int .i64 r3.1)).setCell ⟨gl,1,none⟩ (.int .i64 0)).setCell ⟨gl,2,none⟩ (.int .i64 0)).setCell ⟨gl,3,none⟩ (.int .i64 0)).heap[gl]? = some (.cells #[.int .i64 r3.1,.int .i64 0,.int .i64 0,.int .i64 0] 28 (0,0))):=Z_ (blk_put (blk_put (blk_put (blk_put BL.out 0 (.int .i64 r3.1) rfl) 1 (.int .i64 0) rfl) 2 (.int .i64 0) rfl) 3 (.int .i64 0) rfl)
  have n2_:=Z_ (bF_ (bF_ (bF_ (bF_ BK.out (p:=⟨gl,0,none⟩) NE.out (.int .i64 r3.1)) (p:=⟨gl,1,none⟩) NE.out (.int .i64 0)) (p:=⟨gl,2,none⟩) NE.out (.int .i64 0)) (p:=⟨gl,3,none⟩) NE.out (.int .i64 0))
  clear HS BL BK y0_ y1_ y2_ y3_ z0_ z1_ z2_ z3_
  (try clear p0_)
  (try clear hx1)
  have HS:=n0_;have BL:=n1_;have BK:=n2_
  clear n0_ n1_ n2_
  generalize hw4 : ((((w3.setCell ⟨gl,0,none⟩ (.int .i64 r3.1)).setCell ⟨gl,1,none⟩ (.int .i64 0)).setCell ⟨gl,2,none⟩ (.int .i64 0)).setCell ⟨gl,3,none⟩ (.int .i64 0)) = w4 at HS BL BK ⊢
  clear hw4
  have n0_:=Z_ (show SE 84 N S w w4.drew _ _ from ⟨HS.out.1,HS.out.2.1,HS.out.2.2.drew⟩)
  have n1_:=Z_ (bD_ BL.out)
  have n2_:=Z_ (bD_ BK.out)
  clear HS BL BK
  have HS:=n0_;have BL:=n1_;have BK:=n2_
  clear n0_ n1_ n2_
  refine start_ (n:=11) (S:=fun w' => w'.cell? ⟨gl,0,none⟩ = some (.int .i64 r3.1)) (ds:=[10]) spec_l9Keys.callsE.b0 (by kernel_rfl) rfl rfl ((blk_cell BL.out 0).trans rfl) (fun hHeld => ?_)
  generalize hw5 : w4.drew = w5 at HS BL BK hHeld ⊢
  clear hw5
  refine pure_ (i:=0) (N:=some 44) (v:=?_) (a':=?_) spec_l9Keys.callsE.b1 rfl rfl (by kernel_rfl) (fun _ _ _ h => h) (Or.inl ⟨by rfl,?_⟩) ?_ ?_
  rotate_left
  · intro w'
    go_simp
    with_reducible rfl
  rotate_left
  · simp only [Act.put,lA_,lZ_,lS_,i64_w,i32_w]
    rfl
  refine pure_ (i:=1) (N:=some 45) (v:=?_) (a':=?_) spec_l9Keys.callsE.b2 rfl rfl (by kernel_rfl) (fun _ _ _ h => h) (Or.inl ⟨by rfl,?_⟩) ?_ ?_
  rotate_left
  · intro w'
    go_simp
    with_reducible rfl
  rotate_left
  · simp only [Act.put,lA_,lZ_,lS_,i64_w,i32_w]
    rfl
  refine take_ (i:=2) (N:=some 46) (v:=?_) (a':=?_) spec_l9Keys.callsE.b3 rfl rfl (by kernel_rfl) (fun _ _ _ h => h) (Or.inl ⟨by rfl,?_⟩) hHeld ?_ ?_
  rotate_left
  · rintro w' s0
    go_simp
    with_reducible rfl
  rotate_left
  · simp only [Act.put,lA_,lZ_,lS_,i64_w,i32_w]
    rfl
  refine pure_ (i:=3) (N:=some 47) (v:=?_) (a':=?_) spec_l9Keys.callsE.b4 rfl rfl (by kernel_rfl) (fun _ _ _ h => h) (Or.inl ⟨by rfl,?_⟩) ?_ ?_
  rotate_left
  · intro w'
    go_simp
    with_reducible rfl
  rotate_left
  · simp only [Act.put,lA_,lZ_,lS_,i64_w,i32_w]
    rfl
  refine pure_ (i:=4) (N:=some 48) (v:=?_) (a':=?_) spec_l9Keys.callsE.b5 rfl rfl (by kernel_rfl) (fun _ _ _ h => h) (Or.inl ⟨by rfl,?_⟩) ?_ ?_
  rotate_left
  · intro w'
    go_simp
    with_reducible rfl
  rotate_left
  · simp only [Act.put,lA_,lZ_,lS_,i64_w,i32_w]
    rfl
  refine pure_ (i:=5) (N:=some 49) (v:=?_) (a':=?_) spec_l9Keys.callsE.b6 rfl rfl (by kernel_rfl) (fun _ _ _ h => h) (Or.inl ⟨by rfl,?_⟩) ?_ ?_
  rotate_left
  · intro w'
    go_simp
    with_reducible rfl
  rotate_left
  · simp only [Act.put,lA_,lZ_,lS_,i64_w,i32_w]
    rfl
  refine one_ (i:=6) (N:=some 50) spec_l9Keys.callsE.b7 rfl rfl (by kernel_rfl) (by decide) (fun K hK => ?_)
  refine Kd.R_lit_step (Kd.int .i64) _ 2 ?hg (N:=50) ?hd (xs:=([1,sI,sR] : List Int)) (inner:=[.int .i64 1,.int .i64 sI,.int .i64 sR]) (ok:=fun _ => True) (okp:=fun _ => True) ?hr ?hp (fun _ hk => hk) trivial (Below.refl _ _) (Nat.le_refl _) (by simp) ?_;(case hd => rfl);(case hg => rfl);(case hr => first | (go_simp;done) | (go_simp;rfl));(case hp => exact reps_ints _)
  intro v6 w6 ho hb hg_ hn_
  clear hg_ hn_
  obtain ⟨AP,cP,eP⟩:=Kd.R_slice ho
  subst eP
  have HP:=Z_ ho
  have n0_:=Z_ (HS.out.below hb)
  have n1_:=Z_ (bB_ BL.out hb)
  have n2_:=Z_ (bB_ BK.out hb)
  clear HS BL BK hb ho
  have HS:=n0_;have BL:=n1_;have BK:=n2_
  clear n0_ n1_ n2_
  refine hK.out _ _ ((blk_cell BL.out 0).trans rfl) (fun hHeld => ?_)
  clear hK K
  refine norm_ (a':=?_) ?_ ?_
  rotate_left
  · show Act.put _ (some 50) _ = _
    simp only [Act.put,lA_,lZ_,lS_,i64_w,i32_w]
    rfl
  refine one_ (i:=7) (N:=some 51) spec_l9Keys.callsE.b8 rfl rfl (by kernel_rfl) (by decide) (fun K hK => ?_)
  refine goes_ Try.func87 (by kernel_rfl) rfl #[.pointer (some ⟨S,0,none⟩),.slice AP 3 cP] (by rfl) rfl rfl (by (try simp only [List.map_toArray,List.map_cons,List.map_nil]);first | done | rfl) ?_
  refine (spec_l9Names.callsE k AP cP [1,sI,sR] 3 r4 HS.out rfl (Kd.R_reads' HP.out).2.2 (far_row HP.out (by decide) (by decide)) H4.out).mono ?_
  rintro e w7 ⟨rfl,hs,hk⟩
  refine ⟨_,rfl,?_⟩
  have n0_:=Z_ (blk_keepT BL.out hk (by decide) (by decide))
  have n1_:=Z_ (blk_keepT BK.out hk (by decide) (by decide))
  clear HS BL BK
  have HS:=Z_ hs;have BL:=n0_;have BK:=n1_
  clear n0_ n1_ hs hk
  clear HP
  refine hK.out _ _ ((blk_cell BL.out 0).trans rfl) (fun hHeld => ?_)
  clear hK K
  refine norm_ (a':=?_) ?_ ?_
  rotate_left
  · show Act.put _ (some 51) _ = _
    simp only [Act.put,lA_,lZ_,lS_,i64_w,i32_w]
    rfl
  refine one_ (i:=8) (N:=some 52) spec_l9Keys.callsE.b9 rfl rfl (by kernel_rfl) (by decide) (fun K hK => ?_)
  refine goes_ Try.func85 (by kernel_rfl) rfl #[.pointer (some ⟨S,0,none⟩),.int .i64 4,.int .i64 r3.1,.int .i64 r4.1] (by rfl) rfl rfl (by (try simp only [List.map_toArray,List.map_cons,List.map_nil]);first | done | rfl) ?_
  refine (spec_l9Two.callsE k 4 r3.1 r4.1 r5 HS.out H5.out).mono ?_
  rintro e w8 ⟨rfl,hs,hk⟩
  refine ⟨_,rfl,?_⟩
  have n0_:=Z_ (blk_keepT BL.out hk (by decide) (by decide))
  have n1_:=Z_ (blk_keepT BK.out hk (by decide) (by decide))
  clear HS BL BK
  have HS:=Z_ hs;have BL:=n0_;have BK:=n1_
  clear n0_ n1_ hs hk
  refine hK.out _ _ ((blk_cell BL.out 0).trans rfl) (fun hHeld => ?_)
  clear hK K
  refine norm_ (a':=?_) ?_ ?_
  rotate_left
  · show Act.put _ (some 52) _ = _
    simp only [Act.put,lA_,lZ_,lS_,i64_w,i32_w]
    rfl
  refine pure_ (i:=9) (N:=some 53) (v:=?_) (a':=?_) spec_l9Keys.callsE.b10 rfl rfl (by kernel_rfl) (fun _ _ _ h => h) (Or.inl ⟨by rfl,?_⟩) ?_ ?_
  rotate_left
  · intro w'
    go_simp
    with_reducible rfl
  rotate_left
  · simp only [Act.put,lA_,lZ_,lS_,i64_w,i32_w]
    rfl
  refine last_ (i:=10) (N:=none) spec_l9Keys.callsE.b11 rfl rfl (by kernel_rfl) (by decide) (fun K hK => ?_)
  have y_ : w8.cell? ⟨gl,1,none⟩ = some (.int .i64 0):=(blk_cell BL.out 1).trans rfl
  have z_:=blk_frozen BL.out 1
  refine skip_ (w1:=?_) (by rfl) rfl ?_ ?_
  rotate_left
  · go_simp
    rfl
  refine hK.out _ _ ?_
  clear hK K
  refine done_ (by kernel_rfl) ?_
  have n0_:=Z_ (SE.far HS.out BL.out (by decide) (by decide) GL.out (Nat.le_trans HN.out GL.out) 1 (.int .i64 r5.1))
  have n1_ : Aside0 ((w8.setCell ⟨gl,1,none⟩ (.int .i64 r5.1)).heap[gl]? = some (.cells #[.int .i64 r3.1,.int .i64 r5.1,.int .i64 0,.int .i64 0] 28 (0,0))):=Z_ (blk_put BL.out 1 (.int .i64 r5.1) rfl)
  have n2_:=Z_ (bF_ BK.out (p:=⟨gl,1,none⟩) NE.out (.int .i64 r5.1))
  clear HS BL BK y_ z_ hHeld
  have HS:=n0_;have BL:=n1_;have BK:=n2_
  clear n0_ n1_ n2_
  generalize hw9 : w8.setCell ⟨gl,1,none⟩ (.int .i64 r5.1) = w4 at HS BL BK ⊢
  clear hw9
  go_wp2_with fail
  have n0_:=Z_ (show SE 84 N S w w4.drew _ _ from ⟨HS.out.1,HS.out.2.1,HS.out.2.2.drew⟩)
  have n1_:=Z_ (bD_ BL.out)
  have n2_:=Z_ (bD_ BK.out)
  clear HS BL BK
  have HS:=n0_;have BL:=n1_;have BK:=n2_
  clear n0_ n1_ n2_
  refine start_ (n:=11) (S:=fun w' => w'.cell? ⟨gl,0,none⟩ = some (.int .i64 r3.1)) (ds:=[10]) spec_l9Keys.callsE.b0 (by kernel_rfl) rfl rfl ((blk_cell BL.out 0).trans rfl) (fun hHeld => ?_)
  generalize hw5 : w4.drew = w5 at HS BL BK hHeld ⊢
  clear hw5
  refine pure_ (i:=0) (N:=some 54) (v:=?_) (a':=?_) spec_l9Keys.callsE.b1 rfl rfl (by kernel_rfl) (fun _ _ _ h => h) (Or.inl ⟨by rfl,?_⟩) ?_ ?_
  rotate_left
  · intro w'
    go_simp
    with_reducible rfl
  rotate_left
  · simp only [Act.put,lA_,lZ_,lS_,i64_w,i32_w]
    rfl
  refine pure_ (i:=1) (N:=some 55) (v:=?_) (a':=?_) spec_l9Keys.callsE.b2 rfl rfl (by kernel_rfl) (fun _ _ _ h => h) (Or.inl ⟨by rfl,?_⟩) ?_ ?_
  rotate_left
  · intro w'
    go_simp
    with_reducible rfl
  rotate_left
  · simp only [Act.put,lA_,lZ_,lS_,i64_w,i32_w]
    rfl
  refine take_ (i:=2) (N:=some 56) (v:=?_) (a':=?_) spec_l9Keys.callsE.b3 rfl rfl (by kernel_rfl) (fun _ _ _ h => h) (Or.inl ⟨by rfl,?_⟩) hHeld ?_ ?_
  rotate_left
  · rintro w' s0
    go_simp
    with_reducible rfl
  rotate_left
  · simp only [Act.put,lA_,lZ_,lS_,i64_w,i32_w]
    rfl
  refine pure_ (i:=3) (N:=some 57) (v:=?_) (a':=?_) spec_l9Keys.callsE.b4 rfl rfl (by kernel_rfl) (fun _ _ _ h => h) (Or.inl ⟨by rfl,?_⟩) ?_ ?_
  rotate_left
  · intro w'
    go_simp
    with_reducible rfl
  rotate_left
  · simp only [Act.put,lA_,lZ_,lS_,i64_w,i32_w]
    rfl
  refine pure_ (i:=4) (N:=some 58) (v:=?_) (a':=?_) spec_l9Keys.callsE.b5 rfl rfl (by kernel_rfl) (fun _ _ _ h => h) (Or.inl ⟨by rfl,?_⟩) ?_ ?_
  rotate_left
  · intro w'
    go_simp
    with_reducible rfl
  rotate_left
  · simp only [Act.put,lA_,lZ_,lS_,i64_w,i32_w]
    rfl
  refine pure_ (i:=5) (N:=some 59) (v:=?_) (a':=?_) spec_l9Keys.callsE.b6 rfl rfl (by kernel_rfl) (fun _ _ _ h => h) (Or.inl ⟨by rfl,?_⟩) ?_ ?_
  rotate_left
  · intro w'
    go_simp
    with_reducible rfl
  rotate_left
  · simp only [Act.put,lA_,lZ_,lS_,i64_w,i32_w]
    rfl
  refine one_ (i:=6) (N:=some 60) spec_l9Keys.callsE.b7 rfl rfl (by kernel_rfl) (by decide) (fun K hK => ?_)
  refine Kd.R_lit_step (Kd.int .i64) _ 2 ?hg (N:=60) ?hd (xs:=([2,sI,sR] : List Int)) (inner:=[.int .i64 2,.int .i64 sI,.int .i64 sR]) (ok:=fun _ => True) (okp:=fun _ => True) ?hr ?hp (fun _ hk => hk) trivial (Below.refl _ _) (Nat.le_refl _) (by simp) ?_;(case hd => rfl);(case hg => rfl);(case hr => first | (go_simp;done) | (go_simp;rfl));(case hp => exact reps_ints _)
  intro v6 w6 ho hb hg_ hn_
  clear hg_ hn_
  obtain ⟨AP,cP,eP⟩:=Kd.R_slice ho
  subst eP
  have HP:=Z_ ho
  have n0_:=Z_ (HS.out.below hb)
  have n1_:=Z_ (bB_ BL.out hb)
  have n2_:=Z_ (bB_ BK.out hb)
  clear HS BL BK hb ho
  have HS:=n0_;have BL:=n1_;have BK:=n2_
  clear n0_ n1_ n2_
  refine hK.out _ _ ((blk_cell BL.out 0).trans rfl) (fun hHeld => ?_)
  clear hK K
  refine norm_ (a':=?_) ?_ ?_
  rotate_left
  · show Act.put _ (some 60) _ = _
    simp only [Act.put,lA_,lZ_,lS_,i64_w,i32_w]
    rfl
  refine one_ (i:=7) (N:=some 61) spec_l9Keys.callsE.b8 rfl rfl (by kernel_rfl) (by decide) (fun K hK => ?_)
  refine goes_ Try.func87 (by kernel_rfl) rfl #[.pointer (some ⟨S,0,none⟩),.slice AP 3 cP] (by rfl) rfl rfl (by (try simp only [List.map_toArray,List.map_cons,List.map_nil]);first | done | rfl) ?_
  refine (spec_l9Names.callsE k AP cP [2,sI,sR] 3 r6 HS.out rfl (Kd.R_reads' HP.out).2.2 (far_row HP.out (by decide) (by decide)) H6.out).mono ?_
  rintro e w7 ⟨rfl,hs,hk⟩
  refine ⟨_,rfl,?_⟩
  have n0_:=Z_ (blk_keepT BL.out hk (by decide) (by decide))
  have n1_:=Z_ (blk_keepT BK.out hk (by decide) (by decide))
  clear HS BL BK
  have HS:=Z_ hs;have BL:=n0_;have BK:=n1_
  clear n0_ n1_ hs hk
  clear HP
  refine hK.out _ _ ((blk_cell BL.out 0).trans rfl) (fun hHeld => ?_)
  clear hK K
  refine norm_ (a':=?_) ?_ ?_
  rotate_left
  · show Act.put _ (some 61) _ = _
    simp only [Act.put,lA_,lZ_,lS_,i64_w,i32_w]
    rfl
  refine one_ (i:=8) (N:=some 62) spec_l9Keys.callsE.b9 rfl rfl (by kernel_rfl) (by decide) (fun K hK => ?_)
  refine goes_ Try.func85 (by kernel_rfl) rfl #[.pointer (some ⟨S,0,none⟩),.int .i64 4,.int .i64 r3.1,.int .i64 r6.1] (by rfl) rfl rfl (by (try simp only [List.map_toArray,List.map_cons,List.map_nil]);first | done | rfl) ?_
  refine (spec_l9Two.callsE k 4 r3.1 r6.1 r7 HS.out H7.out).mono ?_
  rintro e w8 ⟨rfl,hs,hk⟩
  refine ⟨_,rfl,?_⟩
  have n0_:=Z_ (blk_keepT BL.out hk (by decide) (by decide))
  have n1_:=Z_ (blk_keepT BK.out hk (by decide) (by decide))
  clear HS BL BK
  have HS:=Z_ hs;have BL:=n0_;have BK:=n1_
  clear n0_ n1_ hs hk
  refine hK.out _ _ ((blk_cell BL.out 0).trans rfl) (fun hHeld => ?_)
  clear hK K
  refine norm_ (a':=?_) ?_ ?_
  rotate_left
  · show Act.put _ (some 62) _ = _
    simp only [Act.put,lA_,lZ_,lS_,i64_w,i32_w]
    rfl
  refine pure_ (i:=9) (N:=some 63) (v:=?_) (a':=?_) spec_l9Keys.callsE.b10 rfl rfl (by kernel_rfl) (fun _ _ _ h => h) (Or.inl ⟨by rfl,?_⟩) ?_ ?_
  rotate_left
  · intro w'
    go_simp
    with_reducible rfl
  rotate_left
  · simp only [Act.put,lA_,lZ_,lS_,i64_w,i32_w]
    rfl
  refine last_ (i:=10) (N:=none) spec_l9Keys.callsE.b11 rfl rfl (by kernel_rfl) (by decide) (fun K hK => ?_)
  have y_ : w8.cell? ⟨gl,2,none⟩ = some (.int .i64 0):=(blk_cell BL.out 2).trans rfl
  have z_:=blk_frozen BL.out 2
  refine skip_ (w1:=?_) (by rfl) rfl ?_ ?_
  rotate_left
  · go_simp
    rfl
  refine hK.out _ _ ?_
  clear hK K
  refine done_ (by kernel_rfl) ?_
  have n0_:=Z_ (SE.far HS.out BL.out (by decide) (by decide) GL.out (Nat.le_trans HN.out GL.out) 2 (.int .i64 r7.1))
  have n1_ : Aside0 ((w8.setCell ⟨gl,2,none⟩ (.int .i64 r7.1)).heap[gl]? = some (.cells #[.int .i64 r3.1,.int .i64 r5.1,.int .i64 r7.1,.int .i64 0] 28 (0,0))):=Z_ (blk_put BL.out 2 (.int .i64 r7.1) rfl)
  have n2_:=Z_ (bF_ BK.out (p:=⟨gl,2,none⟩) NE.out (.int .i64 r7.1))
  clear HS BL BK y_ z_ hHeld
  have HS:=n0_;have BL:=n1_;have BK:=n2_
  clear n0_ n1_ n2_
  generalize hw9 : w8.setCell ⟨gl,2,none⟩ (.int .i64 r7.1) = w4 at HS BL BK ⊢
  clear hw9
  go_wp2_with fail
  have n0_:=Z_ (show SE 84 N S w w4.drew _ _ from ⟨HS.out.1,HS.out.2.1,HS.out.2.2.drew⟩)
  have n1_:=Z_ (bD_ BL.out)
  have n2_:=Z_ (bD_ BK.out)
  clear HS BL BK
  have HS:=n0_;have BL:=n1_;have BK:=n2_
  clear n0_ n1_ n2_
  refine start_ (n:=11) (S:=fun w' => w'.cell? ⟨gl,0,none⟩ = some (.int .i64 r3.1)) (ds:=[10]) spec_l9Keys.callsE.b0 (by kernel_rfl) rfl rfl ((blk_cell BL.out 0).trans rfl) (fun hHeld => ?_)
  generalize hw5 : w4.drew = w5 at HS BL BK hHeld ⊢
  clear hw5
  refine pure_ (i:=0) (N:=some 64) (v:=?_) (a':=?_) spec_l9Keys.callsE.b1 rfl rfl (by kernel_rfl) (fun _ _ _ h => h) (Or.inl ⟨by rfl,?_⟩) ?_ ?_
  rotate_left
  · intro w'
    go_simp
    with_reducible rfl
  rotate_left
  · simp only [Act.put,lA_,lZ_,lS_,i64_w,i32_w]
    rfl
  refine pure_ (i:=1) (N:=some 65) (v:=?_) (a':=?_) spec_l9Keys.callsE.b2 rfl rfl (by kernel_rfl) (fun _ _ _ h => h) (Or.inl ⟨by rfl,?_⟩) ?_ ?_
  rotate_left
  · intro w'
    go_simp
    with_reducible rfl
  rotate_left
  · simp only [Act.put,lA_,lZ_,lS_,i64_w,i32_w]
    rfl
  refine take_ (i:=2) (N:=some 66) (v:=?_) (a':=?_) spec_l9Keys.callsE.b3 rfl rfl (by kernel_rfl) (fun _ _ _ h => h) (Or.inl ⟨by rfl,?_⟩) hHeld ?_ ?_
  rotate_left
  · rintro w' s0
    go_simp
    with_reducible rfl
  rotate_left
  · simp only [Act.put,lA_,lZ_,lS_,i64_w,i32_w]
    rfl
  refine pure_ (i:=3) (N:=some 67) (v:=?_) (a':=?_) spec_l9Keys.callsE.b4 rfl rfl (by kernel_rfl) (fun _ _ _ h => h) (Or.inl ⟨by rfl,?_⟩) ?_ ?_
  rotate_left
  · intro w'
    go_simp
    with_reducible rfl
  rotate_left
  · simp only [Act.put,lA_,lZ_,lS_,i64_w,i32_w]
    rfl
  refine pure_ (i:=4) (N:=some 68) (v:=?_) (a':=?_) spec_l9Keys.callsE.b5 rfl rfl (by kernel_rfl) (fun _ _ _ h => h) (Or.inl ⟨by rfl,?_⟩) ?_ ?_
  rotate_left
  · intro w'
    go_simp
    with_reducible rfl
  rotate_left
  · simp only [Act.put,lA_,lZ_,lS_,i64_w,i32_w]
    rfl
  refine pure_ (i:=5) (N:=some 69) (v:=?_) (a':=?_) spec_l9Keys.callsE.b6 rfl rfl (by kernel_rfl) (fun _ _ _ h => h) (Or.inl ⟨by rfl,?_⟩) ?_ ?_
  rotate_left
  · intro w'
    go_simp
    with_reducible rfl
  rotate_left
  · simp only [Act.put,lA_,lZ_,lS_,i64_w,i32_w]
    rfl
  refine one_ (i:=6) (N:=some 70) spec_l9Keys.callsE.b7 rfl rfl (by kernel_rfl) (by decide) (fun K hK => ?_)
  refine Kd.R_lit_step (Kd.int .i64) _ 2 ?hg (N:=70) ?hd (xs:=([3,sI,sR] : List Int)) (inner:=[.int .i64 3,.int .i64 sI,.int .i64 sR]) (ok:=fun _ => True) (okp:=fun _ => True) ?hr ?hp (fun _ hk => hk) trivial (Below.refl _ _) (Nat.le_refl _) (by simp) ?_;(case hd => rfl);(case hg => rfl);(case hr => first | (go_simp;done) | (go_simp;rfl));(case hp => exact reps_ints _)
  intro v6 w6 ho hb hg_ hn_
  clear hg_ hn_
  obtain ⟨AP,cP,eP⟩:=Kd.R_slice ho
  subst eP
  have HP:=Z_ ho
  have n0_:=Z_ (HS.out.below hb)
  have n1_:=Z_ (bB_ BL.out hb)
  have n2_:=Z_ (bB_ BK.out hb)
  clear HS BL BK hb ho
  have HS:=n0_;have BL:=n1_;have BK:=n2_
  clear n0_ n1_ n2_
  refine hK.out _ _ ((blk_cell BL.out 0).trans rfl) (fun hHeld => ?_)
  clear hK K
  refine norm_ (a':=?_) ?_ ?_
  rotate_left
  · show Act.put _ (some 70) _ = _
    simp only [Act.put,lA_,lZ_,lS_,i64_w,i32_w]
    rfl
  refine one_ (i:=7) (N:=some 71) spec_l9Keys.callsE.b8 rfl rfl (by kernel_rfl) (by decide) (fun K hK => ?_)
  refine goes_ Try.func87 (by kernel_rfl) rfl #[.pointer (some ⟨S,0,none⟩),.slice AP 3 cP] (by rfl) rfl rfl (by (try simp only [List.map_toArray,List.map_cons,List.map_nil]);first | done | rfl) ?_
  refine (spec_l9Names.callsE k AP cP [3,sI,sR] 3 r8 HS.out rfl (Kd.R_reads' HP.out).2.2 (far_row HP.out (by decide) (by decide)) H8.out).mono ?_
  rintro e w7 ⟨rfl,hs,hk⟩
  refine ⟨_,rfl,?_⟩
  have n0_:=Z_ (blk_keepT BL.out hk (by decide) (by decide))
  have n1_:=Z_ (blk_keepT BK.out hk (by decide) (by decide))
  clear HS BL BK
  have HS:=Z_ hs;have BL:=n0_;have BK:=n1_
  clear n0_ n1_ hs hk
  clear HP
  refine hK.out _ _ ((blk_cell BL.out 0).trans rfl) (fun hHeld => ?_)
  clear hK K
  refine norm_ (a':=?_) ?_ ?_
  rotate_left
  · show Act.put _ (some 71) _ = _
    simp only [Act.put,lA_,lZ_,lS_,i64_w,i32_w]
    rfl
  refine one_ (i:=8) (N:=some 72) spec_l9Keys.callsE.b9 rfl rfl (by kernel_rfl) (by decide) (fun K hK => ?_)
  refine goes_ Try.func85 (by kernel_rfl) rfl #[.pointer (some ⟨S,0,none⟩),.int .i64 4,.int .i64 r3.1,.int .i64 r8.1] (by rfl) rfl rfl (by (try simp only [List.map_toArray,List.map_cons,List.map_nil]);first | done | rfl) ?_
  refine (spec_l9Two.callsE k 4 r3.1 r8.1 r9 HS.out H9.out).mono ?_
  rintro e w8 ⟨rfl,hs,hk⟩
  refine ⟨_,rfl,?_⟩
  have n0_:=Z_ (blk_keepT BL.out hk (by decide) (by decide))
  have n1_:=Z_ (blk_keepT BK.out hk (by decide) (by decide))
  clear HS BL BK
  have HS:=Z_ hs;have BL:=n0_;have BK:=n1_
  clear n0_ n1_ hs hk
  refine hK.out _ _ ((blk_cell BL.out 0).trans rfl) (fun hHeld => ?_)
  clear hK K
  refine norm_ (a':=?_) ?_ ?_
  rotate_left
  · show Act.put _ (some 72) _ = _
    simp only [Act.put,lA_,lZ_,lS_,i64_w,i32_w]
    rfl
  refine pure_ (i:=9) (N:=some 73) (v:=?_) (a':=?_) spec_l9Keys.callsE.b10 rfl rfl (by kernel_rfl) (fun _ _ _ h => h) (Or.inl ⟨by rfl,?_⟩) ?_ ?_
  rotate_left
  · intro w'
    go_simp
    with_reducible rfl
  rotate_left
  · simp only [Act.put,lA_,lZ_,lS_,i64_w,i32_w]
    rfl
  refine last_ (i:=10) (N:=none) spec_l9Keys.callsE.b11 rfl rfl (by kernel_rfl) (by decide) (fun K hK => ?_)
  have y_ : w8.cell? ⟨gl,3,none⟩ = some (.int .i64 0):=(blk_cell BL.out 3).trans rfl
  have z_:=blk_frozen BL.out 3
  refine skip_ (w1:=?_) (by rfl) rfl ?_ ?_
  rotate_left
  · go_simp
    rfl
  refine hK.out _ _ ?_
  clear hK K
  refine done_ (by kernel_rfl) ?_
  have n0_:=Z_ (SE.far HS.out BL.out (by decide) (by decide) GL.out (Nat.le_trans HN.out GL.out) 3 (.int .i64 r9.1))
  have n1_ : Aside0 ((w8.setCell ⟨gl,3,none⟩ (.int .i64 r9.1)).heap[gl]? = some (.cells #[.int .i64 r3.1,.int .i64 r5.1,.int .i64 r7.1,.int .i64 r9.1] 28 (0,0))):=Z_ (blk_put BL.out 3 (.int .i64 r9.1) rfl)
  have n2_:=Z_ (bF_ BK.out (p:=⟨gl,3,none⟩) NE.out (.int .i64 r9.1))
  clear HS BL BK y_ z_ hHeld
  have HS:=n0_;have BL:=n1_;have BK:=n2_
  clear n0_ n1_ n2_
  generalize hw9 : w8.setCell ⟨gl,3,none⟩ (.int .i64 r9.1) = w9 at HS BL BK ⊢
  clear hw9
  have y0_ : w9.cell? ⟨gl,0,none⟩ = some (.int .i64 r3.1):=(blk_cell BL.out 0).trans rfl;have y1_ : w9.cell? ⟨gl,1,none⟩ = some (.int .i64 r5.1):=(blk_cell BL.out 1).trans rfl;have y2_ : w9.cell? ⟨gl,2,none⟩ = some (.int .i64 r7.1):=(blk_cell BL.out 2).trans rfl;have y3_ : w9.cell? ⟨gl,3,none⟩ = some (.int .i64 r9.1):=(blk_cell BL.out 3).trans rfl
  have x0_ : w9.cell? ⟨g14,0,none⟩ = some (.int .i64 0):=(blk_cell BK.out 0).trans rfl;have x1_ : w9.cell? ⟨g14,1,none⟩ = some (.int .i64 0):=(blk_cell BK.out 1).trans rfl;have x2_ : w9.cell? ⟨g14,2,none⟩ = some (.int .i64 0):=(blk_cell BK.out 2).trans rfl;have x3_ : w9.cell? ⟨g14,3,none⟩ = some (.int .i64 0):=(blk_cell BK.out 3).trans rfl
  have z0_:=blk_frozen BK.out 0;have z1_:=blk_frozen BK.out 1;have z2_:=blk_frozen BK.out 2;have z3_:=blk_frozen BK.out 3
  have ne1_:=NE.out
  have ne2_:=NE.out.symm
  go_wp2
  refine bodyPost_ret (results_cell_row rfl _ _ g14 28 #[.int .i64 r3.1,.int .i64 r5.1,.int .i64 r7.1,.int .i64 r9.1] (0,0) _ rfl (blk_put (blk_put (blk_put (blk_put BK.out 0 _ rfl) 1 _ rfl) 2 _ rfl) 3 _ rfl) Try.underlying28 rfl (by kernel_rfl)) rfl ?_
  exact ⟨rfl,(SE.far (SE.far (SE.far (SE.far HS.out BK.out (by decide) (by decide) GE.out (Nat.le_trans HN.out GE.out) 0 _) (blk_put BK.out 0 _ rfl) (by decide) (by decide) GE.out (Nat.le_trans HN.out GE.out) 1 _) (blk_put (blk_put BK.out 0 _ rfl) 1 _ rfl) (by decide) (by decide) GE.out (Nat.le_trans HN.out GE.out) 2 _) (blk_put (blk_put (blk_put BK.out 0 _ rfl) 1 _ rfl) 2 _ rfl) (by decide) (by decide) GE.out (Nat.le_trans HN.out GE.out) 3 _)⟩
def spec_MakeKeys.f (k : Nat) (l0 : List S36) (a1 a2 a3 a4 a5 a6 : Int) : Option (Int × Int × Int × Int × Int × List S36):=(spec_l9Asked.f k l0 [a1,a2,a3,a4]).bind fun c => (if c = 0 then ((spec_l9Word.f a5).bind fun u0 => (if u0 = true then ((spec_l9Word.f a6).bind fun u1 => (if u1 = true then (if (0 ≤ a3 ∧ a3 < (l0.length : Int)) ∧ (0 ≤ a4 ∧ a4 < (l0.length : Int)) then (if (rd_T36 l0 a3).f0 = 2 then (if (rd_T36 l0 a4).f0 = 6 then ((spec_l5Copy.f l0).bind fun lc => ((spec_l9Keys.f k lc 0 a1 a2 a3 a4 a5 a6).bind fun r => (if r.2.2.2.2.2 = 0 then (some (0,r.1,r.2.1,r.2.2.1,r.2.2.2.1,r.2.2.2.2.1)) else (some (r.2.2.2.2.2,0,0,0,0,[]))))) else (some (1,0,0,0,0,[]))) else (some (1,0,0,0,0,[]))) else none) else (some (3,0,0,0,0,[])))) else (some (3,0,0,0,0,[])))) else (some (c,0,0,0,0,[])))
set_option maxHeartbeats 8000000 in
set_option maxRecDepth 100000 in
theorem spec_MakeKeys.calls (k : Nat) (A0 : Option Addr) (c0 : Nat) (l0 : List (S36)) (a1 a2 a3 a4 a5 a6 r1 r2 r3 r4 r5 : Int) (r6 : List (S36)) (w : World) (hr0 : Kd.C k36 w A0 l0.length l0) (hc0 : l0.length ≤ c0) (h : spec_MakeKeys.f k l0 a1 a2 a3 a4 a5 a6 = some (r1,r2,r3,r4,r5,r6)) :
    Calls Try.prog 9 #[.slice A0 l0.length c0,.int .i64 a1,.int .i64 a2,.int .i64 a3,.int .i64 a4,.int .i64 a5,.int .i64 a6] w fun e w' => ∃ v5_ : Value,e = .returned (.agg #[.int .i64 r1,.int .i64 r2,.int .i64 r3,.int .i64 r4,.int .i64 r5,v5_]) ∧ Kd.R k36 36 w' w.heap.size (fun _ => True) v5_ r6 ∧ Below w.heap.size w w':=by
 unfold spec_MakeKeys.f at h
 obtain ⟨c,hf,h⟩:=Option.bind_eq_some_iff.mp h
 have HF:=Z_ hf
 clear hf
 have HR:=Z_ hr0
 have HC:=Z_ hc0
 have HB:=Z_ (Below.refl w.heap.size w)
 clear hr0 hc0
 by_cases hz : c = 0
 ·rw [if_pos hz] at h
  subst hz
  obtain ⟨u0,hu0,h⟩:=Option.bind_eq_some_iff.mp h
  have HU0:=Z_ hu0
  clear hu0
  cases u0 with
  | false =>
   rw [if_neg (by decide)] at h
   simp only [Option.some.injEq,Prod.mk.injEq] at h
   obtain ⟨rfl,rfl,rfl,rfl,rfl,rfl⟩:=h
   go_enter Try.func9,Try.ntmps9
   go_wp2_with (first | ((with_reducible refine gD_ 14 rfl ?_);refine bx_ zs5 30 ?_;intro g14 hg w2 hbox hb;have n0_:=Z_ (lP_ HB.out hb);have BK:=Z_ hbox;have GE:=Z_ (show w.heap.size ≤ g14 by rw [hg];exact below_size HB.out);clear HB;have HB:=n0_;clear n0_ hb hbox hg;(try clear q0_ q1_ q2_ q3_ q4_ q5_ f0_ f1_ f2_ f3_ f4_ f5_);have q0_ : w2.cell? ⟨g14,0,none⟩ = some (.int .i64 0):=(blk_cell BK.out 0).trans rfl;have q1_ : w2.cell? ⟨g14,1,none⟩ = some (.int .i64 0):=(blk_cell BK.out 1).trans rfl;have q2_ : w2.cell? ⟨g14,2,none⟩ = some (.int .i64 0):=(blk_cell BK.out 2).trans rfl;have q3_ : w2.cell? ⟨g14,3,none⟩ = some (.int .i64 0):=(blk_cell BK.out 3).trans rfl;have q4_ : w2.cell? ⟨g14,4,none⟩ = some (.int .i64 0):=(blk_cell BK.out 4).trans rfl;have q5_ : w2.cell? ⟨g14,5,none⟩ = some (.slice none 0 0):=(blk_cell BK.out 5).trans rfl;have f0_:=blk_frozen BK.out 0;have f1_:=blk_frozen BK.out 1;have f2_:=blk_frozen BK.out 2;have f3_:=blk_frozen BK.out 3;have f4_:=blk_frozen BK.out 4;have f5_:=blk_frozen BK.out 5) | ((with_reducible refine gD_ 23 rfl ?_);refine Kd.R_lit (Kd.int .i64) _ 2 ?hg (N:=23) ?hd (xs:=([a1,a2,a3,a4] : List Int)) (inner:=[.int .i64 a1,.int .i64 a2,.int .i64 a3,.int .i64 a4]) (ok:=fun _ => True) (okp:=fun _ => True) ?hr ?hp (fun _ hk => hk) trivial (Below.refl _ _) (Nat.le_refl _) (by simp) ?_;(case hd => rfl);(case hg => rfl);(case hr => first | (go_simp;done) | (go_simp;rfl));(case hp => exact reps_ints _);intro v1 w1 ho hb hg hn;clear hg hn;obtain ⟨AP,cP,eP⟩:=Kd.R_slice ho;subst eP;have HP:=Z_ ho;clear ho;replace HB:=Z_ (lP_ HB.out hb);replace BK:=Z_ (bB_ BK.out hb);clear hb;(try clear q0_ q1_ q2_ q3_ q4_ q5_ f0_ f1_ f2_ f3_ f4_ f5_);have q0_ : w1.cell? ⟨g14,0,none⟩ = some (.int .i64 0):=(blk_cell BK.out 0).trans rfl;have q1_ : w1.cell? ⟨g14,1,none⟩ = some (.int .i64 0):=(blk_cell BK.out 1).trans rfl;have q2_ : w1.cell? ⟨g14,2,none⟩ = some (.int .i64 0):=(blk_cell BK.out 2).trans rfl;have q3_ : w1.cell? ⟨g14,3,none⟩ = some (.int .i64 0):=(blk_cell BK.out 3).trans rfl;have q4_ : w1.cell? ⟨g14,4,none⟩ = some (.int .i64 0):=(blk_cell BK.out 4).trans rfl;have q5_ : w1.cell? ⟨g14,5,none⟩ = some (.slice none 0 0):=(blk_cell BK.out 5).trans rfl;have f0_:=blk_frozen BK.out 0;have f1_:=blk_frozen BK.out 1;have f2_:=blk_frozen BK.out 2;have f3_:=blk_frozen BK.out 3;have f4_:=blk_frozen BK.out 4;have f5_:=blk_frozen BK.out 5) | (go_at_call 44;refine (spec_l9Asked.calls k A0 c0 l0 AP cP [a1,a2,a3,a4] _ _ (Kd.C_below HR.out HB.out) HC.out (Kd.R_reads' HP.out).2.2 (Kd.R_reads' HP.out).2.1 HF.out).mono ?_;rintro e w4 ⟨rfl,hb⟩;replace HB:=Z_ (lP_ HB.out hb);replace BK:=Z_ (bB_ BK.out hb);replace HP:=Z_ (Kd.R_below HP.out hb);clear hb;(try clear q0_ q1_ q2_ q3_ q4_ q5_ f0_ f1_ f2_ f3_ f4_ f5_);have q0_ : w4.cell? ⟨g14,0,none⟩ = some (.int .i64 0):=(blk_cell BK.out 0).trans rfl;have q1_ : w4.cell? ⟨g14,1,none⟩ = some (.int .i64 0):=(blk_cell BK.out 1).trans rfl;have q2_ : w4.cell? ⟨g14,2,none⟩ = some (.int .i64 0):=(blk_cell BK.out 2).trans rfl;have q3_ : w4.cell? ⟨g14,3,none⟩ = some (.int .i64 0):=(blk_cell BK.out 3).trans rfl;have q4_ : w4.cell? ⟨g14,4,none⟩ = some (.int .i64 0):=(blk_cell BK.out 4).trans rfl;have q5_ : w4.cell? ⟨g14,5,none⟩ = some (.slice none 0 0):=(blk_cell BK.out 5).trans rfl;have f0_:=blk_frozen BK.out 0;have f1_:=blk_frozen BK.out 1;have f2_:=blk_frozen BK.out 2;have f3_:=blk_frozen BK.out 3;have f4_:=blk_frozen BK.out 4;have f5_:=blk_frozen BK.out 5) | (go_at_call 45;refine (spec_l9Word.calls a5 _ _ HU0.out).mono ?_;rintro e w4 ⟨rfl,hd⟩;have hb:=hd.below;clear hd;replace HB:=Z_ (lP_ HB.out hb);replace BK:=Z_ (bB_ BK.out hb);clear hb;(try clear q0_ q1_ q2_ q3_ q4_ q5_ f0_ f1_ f2_ f3_ f4_ f5_);have q0_ : w4.cell? ⟨g14,0,none⟩ = some (.int .i64 0):=(blk_cell BK.out 0).trans rfl;have q1_ : w4.cell? ⟨g14,1,none⟩ = some (.int .i64 0):=(blk_cell BK.out 1).trans rfl;have q2_ : w4.cell? ⟨g14,2,none⟩ = some (.int .i64 0):=(blk_cell BK.out 2).trans rfl;have q3_ : w4.cell? ⟨g14,3,none⟩ = some (.int .i64 0):=(blk_cell BK.out 3).trans rfl;have q4_ : w4.cell? ⟨g14,4,none⟩ = some (.int .i64 0):=(blk_cell BK.out 4).trans rfl;have q5_ : w4.cell? ⟨g14,5,none⟩ = some (.slice none 0 0):=(blk_cell BK.out 5).trans rfl;have f0_:=blk_frozen BK.out 0;have f1_:=blk_frozen BK.out 1;have f2_:=blk_frozen BK.out 2;have f3_:=blk_frozen BK.out 3;have f4_:=blk_frozen BK.out 4;have f5_:=blk_frozen BK.out 5))
   refine bodyPost_ret (results_cell_row rfl _ _ g14 30 #[.int .i64 3,.int .i64 0,.int .i64 0,.int .i64 0,.int .i64 0,.slice none 0 0] (0,0) _ rfl (blk_put (blk_put (blk_put (blk_put (blk_put (blk_put BK.out 0 _ rfl) 1 _ rfl) 2 _ rfl) 3 _ rfl) 4 _ rfl) 5 _ rfl) Try.underlying30 rfl (by kernel_rfl)) rfl ?_
   exact ⟨_,rfl,Kd.R_nil _ _ _ _ _,lS1_ (lS1_ (lS1_ (lS1_ (lS1_ (lS1_ HB.out GE.out) GE.out) GE.out) GE.out) GE.out) GE.out⟩
  | true =>
   rw [if_pos rfl] at h
   obtain ⟨u1,hu1,h⟩:=Option.bind_eq_some_iff.mp h
   have HU1:=Z_ hu1
   clear hu1
   cases u1 with
   | false =>
    rw [if_neg (by decide)] at h
    simp only [Option.some.injEq,Prod.mk.injEq] at h
    obtain ⟨rfl,rfl,rfl,rfl,rfl,rfl⟩:=h
    go_enter Try.func9,Try.ntmps9
    go_wp2_with (first | ((with_reducible refine gD_ 14 rfl ?_);refine bx_ zs5 30 ?_;intro g14 hg w2 hbox hb;have n0_:=Z_ (lP_ HB.out hb);have BK:=Z_ hbox;have GE:=Z_ (show w.heap.size ≤ g14 by rw [hg];exact below_size HB.out);clear HB;have HB:=n0_;clear n0_ hb hbox hg;(try clear q0_ q1_ q2_ q3_ q4_ q5_ f0_ f1_ f2_ f3_ f4_ f5_);have q0_ : w2.cell? ⟨g14,0,none⟩ = some (.int .i64 0):=(blk_cell BK.out 0).trans rfl;have q1_ : w2.cell? ⟨g14,1,none⟩ = some (.int .i64 0):=(blk_cell BK.out 1).trans rfl;have q2_ : w2.cell? ⟨g14,2,none⟩ = some (.int .i64 0):=(blk_cell BK.out 2).trans rfl;have q3_ : w2.cell? ⟨g14,3,none⟩ = some (.int .i64 0):=(blk_cell BK.out 3).trans rfl;have q4_ : w2.cell? ⟨g14,4,none⟩ = some (.int .i64 0):=(blk_cell BK.out 4).trans rfl;have q5_ : w2.cell? ⟨g14,5,none⟩ = some (.slice none 0 0):=(blk_cell BK.out 5).trans rfl;have f0_:=blk_frozen BK.out 0;have f1_:=blk_frozen BK.out 1;have f2_:=blk_frozen BK.out 2;have f3_:=blk_frozen BK.out 3;have f4_:=blk_frozen BK.out 4;have f5_:=blk_frozen BK.out 5) | ((with_reducible refine gD_ 23 rfl ?_);refine Kd.R_lit (Kd.int .i64) _ 2 ?hg (N:=23) ?hd (xs:=([a1,a2,a3,a4] : List Int)) (inner:=[.int .i64 a1,.int .i64 a2,.int .i64 a3,.int .i64 a4]) (ok:=fun _ => True) (okp:=fun _ => True) ?hr ?hp (fun _ hk => hk) trivial (Below.refl _ _) (Nat.le_refl _) (by simp) ?_;(case hd => rfl);(case hg => rfl);(case hr => first | (go_simp;done) | (go_simp;rfl));(case hp => exact reps_ints _);intro v1 w1 ho hb hg hn;clear hg hn;obtain ⟨AP,cP,eP⟩:=Kd.R_slice ho;subst eP;have HP:=Z_ ho;clear ho;replace HB:=Z_ (lP_ HB.out hb);replace BK:=Z_ (bB_ BK.out hb);clear hb;(try clear q0_ q1_ q2_ q3_ q4_ q5_ f0_ f1_ f2_ f3_ f4_ f5_);have q0_ : w1.cell? ⟨g14,0,none⟩ = some (.int .i64 0):=(blk_cell BK.out 0).trans rfl;have q1_ : w1.cell? ⟨g14,1,none⟩ = some (.int .i64 0):=(blk_cell BK.out 1).trans rfl;have q2_ : w1.cell? ⟨g14,2,none⟩ = some (.int .i64 0):=(blk_cell BK.out 2).trans rfl;have q3_ : w1.cell? ⟨g14,3,none⟩ = some (.int .i64 0):=(blk_cell BK.out 3).trans rfl;have q4_ : w1.cell? ⟨g14,4,none⟩ = some (.int .i64 0):=(blk_cell BK.out 4).trans rfl;have q5_ : w1.cell? ⟨g14,5,none⟩ = some (.slice none 0 0):=(blk_cell BK.out 5).trans rfl;have f0_:=blk_frozen BK.out 0;have f1_:=blk_frozen BK.out 1;have f2_:=blk_frozen BK.out 2;have f3_:=blk_frozen BK.out 3;have f4_:=blk_frozen BK.out 4;have f5_:=blk_frozen BK.out 5) | (go_at_call 44;refine (spec_l9Asked.calls k A0 c0 l0 AP cP [a1,a2,a3,a4] _ _ (Kd.C_below HR.out HB.out) HC.out (Kd.R_reads' HP.out).2.2 (Kd.R_reads' HP.out).2.1 HF.out).mono ?_;rintro e w4 ⟨rfl,hb⟩;replace HB:=Z_ (lP_ HB.out hb);replace BK:=Z_ (bB_ BK.out hb);replace HP:=Z_ (Kd.R_below HP.out hb);clear hb;(try clear q0_ q1_ q2_ q3_ q4_ q5_ f0_ f1_ f2_ f3_ f4_ f5_);have q0_ : w4.cell? ⟨g14,0,none⟩ = some (.int .i64 0):=(blk_cell BK.out 0).trans rfl;have q1_ : w4.cell? ⟨g14,1,none⟩ = some (.int .i64 0):=(blk_cell BK.out 1).trans rfl;have q2_ : w4.cell? ⟨g14,2,none⟩ = some (.int .i64 0):=(blk_cell BK.out 2).trans rfl;have q3_ : w4.cell? ⟨g14,3,none⟩ = some (.int .i64 0):=(blk_cell BK.out 3).trans rfl;have q4_ : w4.cell? ⟨g14,4,none⟩ = some (.int .i64 0):=(blk_cell BK.out 4).trans rfl;have q5_ : w4.cell? ⟨g14,5,none⟩ = some (.slice none 0 0):=(blk_cell BK.out 5).trans rfl;have f0_:=blk_frozen BK.out 0;have f1_:=blk_frozen BK.out 1;have f2_:=blk_frozen BK.out 2;have f3_:=blk_frozen BK.out 3;have f4_:=blk_frozen BK.out 4;have f5_:=blk_frozen BK.out 5) | (go_at_call 45;refine (spec_l9Word.calls a5 _ _ HU0.out).mono ?_;rintro e w4 ⟨rfl,hd⟩;have hb:=hd.below;clear hd;replace HB:=Z_ (lP_ HB.out hb);replace BK:=Z_ (bB_ BK.out hb);clear hb;(try clear q0_ q1_ q2_ q3_ q4_ q5_ f0_ f1_ f2_ f3_ f4_ f5_);have q0_ : w4.cell? ⟨g14,0,none⟩ = some (.int .i64 0):=(blk_cell BK.out 0).trans rfl;have q1_ : w4.cell? ⟨g14,1,none⟩ = some (.int .i64 0):=(blk_cell BK.out 1).trans rfl;have q2_ : w4.cell? ⟨g14,2,none⟩ = some (.int .i64 0):=(blk_cell BK.out 2).trans rfl;have q3_ : w4.cell? ⟨g14,3,none⟩ = some (.int .i64 0):=(blk_cell BK.out 3).trans rfl;have q4_ : w4.cell? ⟨g14,4,none⟩ = some (.int .i64 0):=(blk_cell BK.out 4).trans rfl;have q5_ : w4.cell? ⟨g14,5,none⟩ = some (.slice none 0 0):=(blk_cell BK.out 5).trans rfl;have f0_:=blk_frozen BK.out 0;have f1_:=blk_frozen BK.out 1;have f2_:=blk_frozen BK.out 2;have f3_:=blk_frozen BK.out 3;have f4_:=blk_frozen BK.out 4;have f5_:=blk_frozen BK.out 5) | (go_at_call 45;refine (spec_l9Word.calls a6 _ _ HU1.out).mono ?_;rintro e w4 ⟨rfl,hd⟩;have hb:=hd.below;clear hd;replace HB:=Z_ (lP_ HB.out hb);replace BK:=Z_ (bB_ BK.out hb);clear hb;(try clear q0_ q1_ q2_ q3_ q4_ q5_ f0_ f1_ f2_ f3_ f4_ f5_);have q0_ : w4.cell? ⟨g14,0,none⟩ = some (.int .i64 0):=(blk_cell BK.out 0).trans rfl;have q1_ : w4.cell? ⟨g14,1,none⟩ = some (.int .i64 0):=(blk_cell BK.out 1).trans rfl;have q2_ : w4.cell? ⟨g14,2,none⟩ = some (.int .i64 0):=(blk_cell BK.out 2).trans rfl;have q3_ : w4.cell? ⟨g14,3,none⟩ = some (.int .i64 0):=(blk_cell BK.out 3).trans rfl;have q4_ : w4.cell? ⟨g14,4,none⟩ = some (.int .i64 0):=(blk_cell BK.out 4).trans rfl;have q5_ : w4.cell? ⟨g14,5,none⟩ = some (.slice none 0 0):=(blk_cell BK.out 5).trans rfl;have f0_:=blk_frozen BK.out 0;have f1_:=blk_frozen BK.out 1;have f2_:=blk_frozen BK.out 2;have f3_:=blk_frozen BK.out 3;have f4_:=blk_frozen BK.out 4;have f5_:=blk_frozen BK.out 5))
    refine bodyPost_ret (results_cell_row rfl _ _ g14 30 #[.int .i64 3,.int .i64 0,.int .i64 0,.int .i64 0,.int .i64 0,.slice none 0 0] (0,0) _ rfl (blk_put (blk_put (blk_put (blk_put (blk_put (blk_put BK.out 0 _ rfl) 1 _ rfl) 2 _ rfl) 3 _ rfl) 4 _ rfl) 5 _ rfl) Try.underlying30 rfl (by kernel_rfl)) rfl ?_
    exact ⟨_,rfl,Kd.R_nil _ _ _ _ _,lS1_ (lS1_ (lS1_ (lS1_ (lS1_ (lS1_ HB.out GE.out) GE.out) GE.out) GE.out) GE.out) GE.out⟩
   | true =>
    rw [if_pos rfl] at h
    by_cases hg : ((0 ≤ a3 ∧ a3 < (l0.length : Int)) ∧ (0 ≤ a4 ∧ a4 < (l0.length : Int)))
    rotate_left
    ·rw [if_neg hg] at h;cases h
    rw [if_pos hg] at h
    obtain ⟨hg3,hg4⟩:=hg
    obtain ⟨adT,e,o0,o1,o2,o3⟩:=at_T36 HR.out a3 hg3.1 hg3.2
    obtain ⟨adU,e2,u0,u1,u2,u3⟩:=at_T36 HR.out a4 hg4.1 hg4.2
    subst e
    obtain rfl : adT = adU:=by injection e2
    have HXO:=Z_ o0
    have HXH:=Z_ u0
    have p1:=eq_true hg3.1;have p2:=eq_true hg3.2;have p3:=eq_true hg4.1;have p4:=eq_true hg4.2
    clear o0 o1 o2 o3 u0 u1 u2 u3 e2 hg3 hg4
    generalize (rd_T36 l0 a3).f0 = oa at HXO h
    generalize (rd_T36 l0 a4).f0 = ob at HXH h
    by_cases h2 : oa = 2
    rotate_left
    ·rw [if_neg h2] at h
     have b0 : (oa == 2) = false:=by simpa using h2
     have b1 : (oa != 2) = true:=by simpa using h2
     simp only [Option.some.injEq,Prod.mk.injEq] at h
     obtain ⟨rfl,rfl,rfl,rfl,rfl,rfl⟩:=h
     go_enter Try.func9,Try.ntmps9
     go_wp2_with (first | ((with_reducible refine gD_ 14 rfl ?_);refine bx_ zs5 30 ?_;intro g14 hg w2 hbox hb;have n0_:=Z_ (lP_ HB.out hb);have BK:=Z_ hbox;have GE:=Z_ (show w.heap.size ≤ g14 by rw [hg];exact below_size HB.out);clear HB;have HB:=n0_;clear n0_ hb hbox hg;(try clear q0_ q1_ q2_ q3_ q4_ q5_ f0_ f1_ f2_ f3_ f4_ f5_);have q0_ : w2.cell? ⟨g14,0,none⟩ = some (.int .i64 0):=(blk_cell BK.out 0).trans rfl;have q1_ : w2.cell? ⟨g14,1,none⟩ = some (.int .i64 0):=(blk_cell BK.out 1).trans rfl;have q2_ : w2.cell? ⟨g14,2,none⟩ = some (.int .i64 0):=(blk_cell BK.out 2).trans rfl;have q3_ : w2.cell? ⟨g14,3,none⟩ = some (.int .i64 0):=(blk_cell BK.out 3).trans rfl;have q4_ : w2.cell? ⟨g14,4,none⟩ = some (.int .i64 0):=(blk_cell BK.out 4).trans rfl;have q5_ : w2.cell? ⟨g14,5,none⟩ = some (.slice none 0 0):=(blk_cell BK.out 5).trans rfl;have f0_:=blk_frozen BK.out 0;have f1_:=blk_frozen BK.out 1;have f2_:=blk_frozen BK.out 2;have f3_:=blk_frozen BK.out 3;have f4_:=blk_frozen BK.out 4;have f5_:=blk_frozen BK.out 5) | ((with_reducible refine gD_ 23 rfl ?_);refine Kd.R_lit (Kd.int .i64) _ 2 ?hg (N:=23) ?hd (xs:=([a1,a2,a3,a4] : List Int)) (inner:=[.int .i64 a1,.int .i64 a2,.int .i64 a3,.int .i64 a4]) (ok:=fun _ => True) (okp:=fun _ => True) ?hr ?hp (fun _ hk => hk) trivial (Below.refl _ _) (Nat.le_refl _) (by simp) ?_;(case hd => rfl);(case hg => rfl);(case hr => first | (go_simp;done) | (go_simp;rfl));(case hp => exact reps_ints _);intro v1 w1 ho hb hg hn;clear hg hn;obtain ⟨AP,cP,eP⟩:=Kd.R_slice ho;subst eP;have HP:=Z_ ho;clear ho;replace HB:=Z_ (lP_ HB.out hb);replace BK:=Z_ (bB_ BK.out hb);clear hb;(try clear q0_ q1_ q2_ q3_ q4_ q5_ f0_ f1_ f2_ f3_ f4_ f5_);have q0_ : w1.cell? ⟨g14,0,none⟩ = some (.int .i64 0):=(blk_cell BK.out 0).trans rfl;have q1_ : w1.cell? ⟨g14,1,none⟩ = some (.int .i64 0):=(blk_cell BK.out 1).trans rfl;have q2_ : w1.cell? ⟨g14,2,none⟩ = some (.int .i64 0):=(blk_cell BK.out 2).trans rfl;have q3_ : w1.cell? ⟨g14,3,none⟩ = some (.int .i64 0):=(blk_cell BK.out 3).trans rfl;have q4_ : w1.cell? ⟨g14,4,none⟩ = some (.int .i64 0):=(blk_cell BK.out 4).trans rfl;have q5_ : w1.cell? ⟨g14,5,none⟩ = some (.slice none 0 0):=(blk_cell BK.out 5).trans rfl;have f0_:=blk_frozen BK.out 0;have f1_:=blk_frozen BK.out 1;have f2_:=blk_frozen BK.out 2;have f3_:=blk_frozen BK.out 3;have f4_:=blk_frozen BK.out 4;have f5_:=blk_frozen BK.out 5) | (go_at_call 44;refine (spec_l9Asked.calls k (some adT) c0 l0 AP cP [a1,a2,a3,a4] _ _ (Kd.C_below HR.out HB.out) HC.out (Kd.R_reads' HP.out).2.2 (Kd.R_reads' HP.out).2.1 HF.out).mono ?_;rintro e w4 ⟨rfl,hb⟩;replace HB:=Z_ (lP_ HB.out hb);replace BK:=Z_ (bB_ BK.out hb);replace HP:=Z_ (Kd.R_below HP.out hb);clear hb;(try clear q0_ q1_ q2_ q3_ q4_ q5_ f0_ f1_ f2_ f3_ f4_ f5_);have q0_ : w4.cell? ⟨g14,0,none⟩ = some (.int .i64 0):=(blk_cell BK.out 0).trans rfl;have q1_ : w4.cell? ⟨g14,1,none⟩ = some (.int .i64 0):=(blk_cell BK.out 1).trans rfl;have q2_ : w4.cell? ⟨g14,2,none⟩ = some (.int .i64 0):=(blk_cell BK.out 2).trans rfl;have q3_ : w4.cell? ⟨g14,3,none⟩ = some (.int .i64 0):=(blk_cell BK.out 3).trans rfl;have q4_ : w4.cell? ⟨g14,4,none⟩ = some (.int .i64 0):=(blk_cell BK.out 4).trans rfl;have q5_ : w4.cell? ⟨g14,5,none⟩ = some (.slice none 0 0):=(blk_cell BK.out 5).trans rfl;have f0_:=blk_frozen BK.out 0;have f1_:=blk_frozen BK.out 1;have f2_:=blk_frozen BK.out 2;have f3_:=blk_frozen BK.out 3;have f4_:=blk_frozen BK.out 4;have f5_:=blk_frozen BK.out 5) | (go_at_call 45;refine (spec_l9Word.calls a5 _ _ HU0.out).mono ?_;rintro e w4 ⟨rfl,hd⟩;have hb:=hd.below;clear hd;replace HB:=Z_ (lP_ HB.out hb);replace BK:=Z_ (bB_ BK.out hb);clear hb;(try clear q0_ q1_ q2_ q3_ q4_ q5_ f0_ f1_ f2_ f3_ f4_ f5_);have q0_ : w4.cell? ⟨g14,0,none⟩ = some (.int .i64 0):=(blk_cell BK.out 0).trans rfl;have q1_ : w4.cell? ⟨g14,1,none⟩ = some (.int .i64 0):=(blk_cell BK.out 1).trans rfl;have q2_ : w4.cell? ⟨g14,2,none⟩ = some (.int .i64 0):=(blk_cell BK.out 2).trans rfl;have q3_ : w4.cell? ⟨g14,3,none⟩ = some (.int .i64 0):=(blk_cell BK.out 3).trans rfl;have q4_ : w4.cell? ⟨g14,4,none⟩ = some (.int .i64 0):=(blk_cell BK.out 4).trans rfl;have q5_ : w4.cell? ⟨g14,5,none⟩ = some (.slice none 0 0):=(blk_cell BK.out 5).trans rfl;have f0_:=blk_frozen BK.out 0;have f1_:=blk_frozen BK.out 1;have f2_:=blk_frozen BK.out 2;have f3_:=blk_frozen BK.out 3;have f4_:=blk_frozen BK.out 4;have f5_:=blk_frozen BK.out 5) | (go_at_call 45;refine (spec_l9Word.calls a6 _ _ HU1.out).mono ?_;rintro e w4 ⟨rfl,hd⟩;have hb:=hd.below;clear hd;replace HB:=Z_ (lP_ HB.out hb);replace BK:=Z_ (bB_ BK.out hb);clear hb;(try clear q0_ q1_ q2_ q3_ q4_ q5_ f0_ f1_ f2_ f3_ f4_ f5_);have q0_ : w4.cell? ⟨g14,0,none⟩ = some (.int .i64 0):=(blk_cell BK.out 0).trans rfl;have q1_ : w4.cell? ⟨g14,1,none⟩ = some (.int .i64 0):=(blk_cell BK.out 1).trans rfl;have q2_ : w4.cell? ⟨g14,2,none⟩ = some (.int .i64 0):=(blk_cell BK.out 2).trans rfl;have q3_ : w4.cell? ⟨g14,3,none⟩ = some (.int .i64 0):=(blk_cell BK.out 3).trans rfl;have q4_ : w4.cell? ⟨g14,4,none⟩ = some (.int .i64 0):=(blk_cell BK.out 4).trans rfl;have q5_ : w4.cell? ⟨g14,5,none⟩ = some (.slice none 0 0):=(blk_cell BK.out 5).trans rfl;have f0_:=blk_frozen BK.out 0;have f1_:=blk_frozen BK.out 1;have f2_:=blk_frozen BK.out 2;have f3_:=blk_frozen BK.out 3;have f4_:=blk_frozen BK.out 4;have f5_:=blk_frozen BK.out 5;have ho_:=pw_cell_below HB.out HXO.out;have hh_:=pw_cell_below HB.out HXH.out))
     refine bodyPost_ret (results_cell_row rfl _ _ g14 30 #[.int .i64 1,.int .i64 0,.int .i64 0,.int .i64 0,.int .i64 0,.slice none 0 0] (0,0) _ rfl (blk_put (blk_put (blk_put (blk_put (blk_put (blk_put BK.out 0 _ rfl) 1 _ rfl) 2 _ rfl) 3 _ rfl) 4 _ rfl) 5 _ rfl) Try.underlying30 rfl (by kernel_rfl)) rfl ?_
     exact ⟨_,rfl,Kd.R_nil _ _ _ _ _,lS1_ (lS1_ (lS1_ (lS1_ (lS1_ (lS1_ HB.out GE.out) GE.out) GE.out) GE.out) GE.out) GE.out⟩
    rw [if_pos h2] at h
    subst h2
    by_cases h6 : ob = 6
    rotate_left
    ·rw [if_neg h6] at h
     have b0 : (ob == 6) = false:=by simpa using h6
     have b1 : (ob != 6) = true:=by simpa using h6
     simp only [Option.some.injEq,Prod.mk.injEq] at h
     obtain ⟨rfl,rfl,rfl,rfl,rfl,rfl⟩:=h
     go_enter Try.func9,Try.ntmps9
     go_wp2_with (first | ((with_reducible refine gD_ 14 rfl ?_);refine bx_ zs5 30 ?_;intro g14 hg w2 hbox hb;have n0_:=Z_ (lP_ HB.out hb);have BK:=Z_ hbox;have GE:=Z_ (show w.heap.size ≤ g14 by rw [hg];exact below_size HB.out);clear HB;have HB:=n0_;clear n0_ hb hbox hg;(try clear q0_ q1_ q2_ q3_ q4_ q5_ f0_ f1_ f2_ f3_ f4_ f5_);have q0_ : w2.cell? ⟨g14,0,none⟩ = some (.int .i64 0):=(blk_cell BK.out 0).trans rfl;have q1_ : w2.cell? ⟨g14,1,none⟩ = some (.int .i64 0):=(blk_cell BK.out 1).trans rfl;have q2_ : w2.cell? ⟨g14,2,none⟩ = some (.int .i64 0):=(blk_cell BK.out 2).trans rfl;have q3_ : w2.cell? ⟨g14,3,none⟩ = some (.int .i64 0):=(blk_cell BK.out 3).trans rfl;have q4_ : w2.cell? ⟨g14,4,none⟩ = some (.int .i64 0):=(blk_cell BK.out 4).trans rfl;have q5_ : w2.cell? ⟨g14,5,none⟩ = some (.slice none 0 0):=(blk_cell BK.out 5).trans rfl;have f0_:=blk_frozen BK.out 0;have f1_:=blk_frozen BK.out 1;have f2_:=blk_frozen BK.out 2;have f3_:=blk_frozen BK.out 3;have f4_:=blk_frozen BK.out 4;have f5_:=blk_frozen BK.out 5) | ((with_reducible refine gD_ 23 rfl ?_);refine Kd.R_lit (Kd.int .i64) _ 2 ?hg (N:=23) ?hd (xs:=([a1,a2,a3,a4] : List Int)) (inner:=[.int .i64 a1,.int .i64 a2,.int .i64 a3,.int .i64 a4]) (ok:=fun _ => True) (okp:=fun _ => True) ?hr ?hp (fun _ hk => hk) trivial (Below.refl _ _) (Nat.le_refl _) (by simp) ?_;(case hd => rfl);(case hg => rfl);(case hr => first | (go_simp;done) | (go_simp;rfl));(case hp => exact reps_ints _);intro v1 w1 ho hb hg hn;clear hg hn;obtain ⟨AP,cP,eP⟩:=Kd.R_slice ho;subst eP;have HP:=Z_ ho;clear ho;replace HB:=Z_ (lP_ HB.out hb);replace BK:=Z_ (bB_ BK.out hb);clear hb;(try clear q0_ q1_ q2_ q3_ q4_ q5_ f0_ f1_ f2_ f3_ f4_ f5_);have q0_ : w1.cell? ⟨g14,0,none⟩ = some (.int .i64 0):=(blk_cell BK.out 0).trans rfl;have q1_ : w1.cell? ⟨g14,1,none⟩ = some (.int .i64 0):=(blk_cell BK.out 1).trans rfl;have q2_ : w1.cell? ⟨g14,2,none⟩ = some (.int .i64 0):=(blk_cell BK.out 2).trans rfl;have q3_ : w1.cell? ⟨g14,3,none⟩ = some (.int .i64 0):=(blk_cell BK.out 3).trans rfl;have q4_ : w1.cell? ⟨g14,4,none⟩ = some (.int .i64 0):=(blk_cell BK.out 4).trans rfl;have q5_ : w1.cell? ⟨g14,5,none⟩ = some (.slice none 0 0):=(blk_cell BK.out 5).trans rfl;have f0_:=blk_frozen BK.out 0;have f1_:=blk_frozen BK.out 1;have f2_:=blk_frozen BK.out 2;have f3_:=blk_frozen BK.out 3;have f4_:=blk_frozen BK.out 4;have f5_:=blk_frozen BK.out 5) | (go_at_call 44;refine (spec_l9Asked.calls k (some adT) c0 l0 AP cP [a1,a2,a3,a4] _ _ (Kd.C_below HR.out HB.out) HC.out (Kd.R_reads' HP.out).2.2 (Kd.R_reads' HP.out).2.1 HF.out).mono ?_;rintro e w4 ⟨rfl,hb⟩;replace HB:=Z_ (lP_ HB.out hb);replace BK:=Z_ (bB_ BK.out hb);replace HP:=Z_ (Kd.R_below HP.out hb);clear hb;(try clear q0_ q1_ q2_ q3_ q4_ q5_ f0_ f1_ f2_ f3_ f4_ f5_);have q0_ : w4.cell? ⟨g14,0,none⟩ = some (.int .i64 0):=(blk_cell BK.out 0).trans rfl;have q1_ : w4.cell? ⟨g14,1,none⟩ = some (.int .i64 0):=(blk_cell BK.out 1).trans rfl;have q2_ : w4.cell? ⟨g14,2,none⟩ = some (.int .i64 0):=(blk_cell BK.out 2).trans rfl;have q3_ : w4.cell? ⟨g14,3,none⟩ = some (.int .i64 0):=(blk_cell BK.out 3).trans rfl;have q4_ : w4.cell? ⟨g14,4,none⟩ = some (.int .i64 0):=(blk_cell BK.out 4).trans rfl;have q5_ : w4.cell? ⟨g14,5,none⟩ = some (.slice none 0 0):=(blk_cell BK.out 5).trans rfl;have f0_:=blk_frozen BK.out 0;have f1_:=blk_frozen BK.out 1;have f2_:=blk_frozen BK.out 2;have f3_:=blk_frozen BK.out 3;have f4_:=blk_frozen BK.out 4;have f5_:=blk_frozen BK.out 5) | (go_at_call 45;refine (spec_l9Word.calls a5 _ _ HU0.out).mono ?_;rintro e w4 ⟨rfl,hd⟩;have hb:=hd.below;clear hd;replace HB:=Z_ (lP_ HB.out hb);replace BK:=Z_ (bB_ BK.out hb);clear hb;(try clear q0_ q1_ q2_ q3_ q4_ q5_ f0_ f1_ f2_ f3_ f4_ f5_);have q0_ : w4.cell? ⟨g14,0,none⟩ = some (.int .i64 0):=(blk_cell BK.out 0).trans rfl;have q1_ : w4.cell? ⟨g14,1,none⟩ = some (.int .i64 0):=(blk_cell BK.out 1).trans rfl;have q2_ : w4.cell? ⟨g14,2,none⟩ = some (.int .i64 0):=(blk_cell BK.out 2).trans rfl;have q3_ : w4.cell? ⟨g14,3,none⟩ = some (.int .i64 0):=(blk_cell BK.out 3).trans rfl;have q4_ : w4.cell? ⟨g14,4,none⟩ = some (.int .i64 0):=(blk_cell BK.out 4).trans rfl;have q5_ : w4.cell? ⟨g14,5,none⟩ = some (.slice none 0 0):=(blk_cell BK.out 5).trans rfl;have f0_:=blk_frozen BK.out 0;have f1_:=blk_frozen BK.out 1;have f2_:=blk_frozen BK.out 2;have f3_:=blk_frozen BK.out 3;have f4_:=blk_frozen BK.out 4;have f5_:=blk_frozen BK.out 5) | (go_at_call 45;refine (spec_l9Word.calls a6 _ _ HU1.out).mono ?_;rintro e w4 ⟨rfl,hd⟩;have hb:=hd.below;clear hd;replace HB:=Z_ (lP_ HB.out hb);replace BK:=Z_ (bB_ BK.out hb);clear hb;(try clear q0_ q1_ q2_ q3_ q4_ q5_ f0_ f1_ f2_ f3_ f4_ f5_);have q0_ : w4.cell? ⟨g14,0,none⟩ = some (.int .i64 0):=(blk_cell BK.out 0).trans rfl;have q1_ : w4.cell? ⟨g14,1,none⟩ = some (.int .i64 0):=(blk_cell BK.out 1).trans rfl;have q2_ : w4.cell? ⟨g14,2,none⟩ = some (.int .i64 0):=(blk_cell BK.out 2).trans rfl;have q3_ : w4.cell? ⟨g14,3,none⟩ = some (.int .i64 0):=(blk_cell BK.out 3).trans rfl;have q4_ : w4.cell? ⟨g14,4,none⟩ = some (.int .i64 0):=(blk_cell BK.out 4).trans rfl;have q5_ : w4.cell? ⟨g14,5,none⟩ = some (.slice none 0 0):=(blk_cell BK.out 5).trans rfl;have f0_:=blk_frozen BK.out 0;have f1_:=blk_frozen BK.out 1;have f2_:=blk_frozen BK.out 2;have f3_:=blk_frozen BK.out 3;have f4_:=blk_frozen BK.out 4;have f5_:=blk_frozen BK.out 5;have ho_:=pw_cell_below HB.out HXO.out;have hh_:=pw_cell_below HB.out HXH.out))
     refine bodyPost_ret (results_cell_row rfl _ _ g14 30 #[.int .i64 1,.int .i64 0,.int .i64 0,.int .i64 0,.int .i64 0,.slice none 0 0] (0,0) _ rfl (blk_put (blk_put (blk_put (blk_put (blk_put (blk_put BK.out 0 _ rfl) 1 _ rfl) 2 _ rfl) 3 _ rfl) 4 _ rfl) 5 _ rfl) Try.underlying30 rfl (by kernel_rfl)) rfl ?_
     exact ⟨_,rfl,Kd.R_nil _ _ _ _ _,lS1_ (lS1_ (lS1_ (lS1_ (lS1_ (lS1_ HB.out GE.out) GE.out) GE.out) GE.out) GE.out) GE.out⟩
    rw [if_pos h6] at h
    subst h6
    obtain ⟨lc,hcp,h⟩:=Option.bind_eq_some_iff.mp h
    have HCP:=Z_ hcp
    obtain ⟨r,hk,h⟩:=Option.bind_eq_some_iff.mp h
    obtain ⟨k1,k2,k3,k4,lt,fl⟩:=r
    have HKK:=Z_ hk
    clear hk hcp
    dsimp only at h
    by_cases hc : fl = 0
    rotate_left
    ·rw [if_neg hc] at h
     have hc0 : (fl == 0) = false:=by simpa using hc
     have hc1 : (fl != 0) = true:=by simpa using hc
     simp only [Option.some.injEq,Prod.mk.injEq] at h
     obtain ⟨rfl,rfl,rfl,rfl,rfl,rfl⟩:=h
     go_enter Try.func9,Try.ntmps9
     go_wp2_with (first | ((with_reducible refine gD_ 14 rfl ?_);refine bx_ zs5 30 ?_;intro g14 hg w2 hbox hb;have n0_:=Z_ (lP_ HB.out hb);have BK:=Z_ hbox;have GE:=Z_ (show w.heap.size ≤ g14 by rw [hg];exact below_size HB.out);clear HB;have HB:=n0_;clear n0_ hb hbox hg;(try clear q0_ q1_ q2_ q3_ q4_ q5_ f0_ f1_ f2_ f3_ f4_ f5_);have q0_ : w2.cell? ⟨g14,0,none⟩ = some (.int .i64 0):=(blk_cell BK.out 0).trans rfl;have q1_ : w2.cell? ⟨g14,1,none⟩ = some (.int .i64 0):=(blk_cell BK.out 1).trans rfl;have q2_ : w2.cell? ⟨g14,2,none⟩ = some (.int .i64 0):=(blk_cell BK.out 2).trans rfl;have q3_ : w2.cell? ⟨g14,3,none⟩ = some (.int .i64 0):=(blk_cell BK.out 3).trans rfl;have q4_ : w2.cell? ⟨g14,4,none⟩ = some (.int .i64 0):=(blk_cell BK.out 4).trans rfl;have q5_ : w2.cell? ⟨g14,5,none⟩ = some (.slice none 0 0):=(blk_cell BK.out 5).trans rfl;have f0_:=blk_frozen BK.out 0;have f1_:=blk_frozen BK.out 1;have f2_:=blk_frozen BK.out 2;have f3_:=blk_frozen BK.out 3;have f4_:=blk_frozen BK.out 4;have f5_:=blk_frozen BK.out 5) | ((with_reducible refine gD_ 23 rfl ?_);refine Kd.R_lit (Kd.int .i64) _ 2 ?hg (N:=23) ?hd (xs:=([a1,a2,a3,a4] : List Int)) (inner:=[.int .i64 a1,.int .i64 a2,.int .i64 a3,.int .i64 a4]) (ok:=fun _ => True) (okp:=fun _ => True) ?hr ?hp (fun _ hk => hk) trivial (Below.refl _ _) (Nat.le_refl _) (by simp) ?_;(case hd => rfl);(case hg => rfl);(case hr => first | (go_simp;done) | (go_simp;rfl));(case hp => exact reps_ints _);intro v1 w1 ho hb hg hn;clear hg hn;obtain ⟨AP,cP,eP⟩:=Kd.R_slice ho;subst eP;have HP:=Z_ ho;clear ho;replace HB:=Z_ (lP_ HB.out hb);replace BK:=Z_ (bB_ BK.out hb);clear hb;(try clear q0_ q1_ q2_ q3_ q4_ q5_ f0_ f1_ f2_ f3_ f4_ f5_);have q0_ : w1.cell? ⟨g14,0,none⟩ = some (.int .i64 0):=(blk_cell BK.out 0).trans rfl;have q1_ : w1.cell? ⟨g14,1,none⟩ = some (.int .i64 0):=(blk_cell BK.out 1).trans rfl;have q2_ : w1.cell? ⟨g14,2,none⟩ = some (.int .i64 0):=(blk_cell BK.out 2).trans rfl;have q3_ : w1.cell? ⟨g14,3,none⟩ = some (.int .i64 0):=(blk_cell BK.out 3).trans rfl;have q4_ : w1.cell? ⟨g14,4,none⟩ = some (.int .i64 0):=(blk_cell BK.out 4).trans rfl;have q5_ : w1.cell? ⟨g14,5,none⟩ = some (.slice none 0 0):=(blk_cell BK.out 5).trans rfl;have f0_:=blk_frozen BK.out 0;have f1_:=blk_frozen BK.out 1;have f2_:=blk_frozen BK.out 2;have f3_:=blk_frozen BK.out 3;have f4_:=blk_frozen BK.out 4;have f5_:=blk_frozen BK.out 5) | (go_at_call 44;refine (spec_l9Asked.calls k (some adT) c0 l0 AP cP [a1,a2,a3,a4] _ _ (Kd.C_below HR.out HB.out) HC.out (Kd.R_reads' HP.out).2.2 (Kd.R_reads' HP.out).2.1 HF.out).mono ?_;rintro e w4 ⟨rfl,hb⟩;replace HB:=Z_ (lP_ HB.out hb);replace BK:=Z_ (bB_ BK.out hb);replace HP:=Z_ (Kd.R_below HP.out hb);clear hb;(try clear q0_ q1_ q2_ q3_ q4_ q5_ f0_ f1_ f2_ f3_ f4_ f5_);have q0_ : w4.cell? ⟨g14,0,none⟩ = some (.int .i64 0):=(blk_cell BK.out 0).trans rfl;have q1_ : w4.cell? ⟨g14,1,none⟩ = some (.int .i64 0):=(blk_cell BK.out 1).trans rfl;have q2_ : w4.cell? ⟨g14,2,none⟩ = some (.int .i64 0):=(blk_cell BK.out 2).trans rfl;have q3_ : w4.cell? ⟨g14,3,none⟩ = some (.int .i64 0):=(blk_cell BK.out 3).trans rfl;have q4_ : w4.cell? ⟨g14,4,none⟩ = some (.int .i64 0):=(blk_cell BK.out 4).trans rfl;have q5_ : w4.cell? ⟨g14,5,none⟩ = some (.slice none 0 0):=(blk_cell BK.out 5).trans rfl;have f0_:=blk_frozen BK.out 0;have f1_:=blk_frozen BK.out 1;have f2_:=blk_frozen BK.out 2;have f3_:=blk_frozen BK.out 3;have f4_:=blk_frozen BK.out 4;have f5_:=blk_frozen BK.out 5) | (go_at_call 45;refine (spec_l9Word.calls a5 _ _ HU0.out).mono ?_;rintro e w4 ⟨rfl,hd⟩;have hb:=hd.below;clear hd;replace HB:=Z_ (lP_ HB.out hb);replace BK:=Z_ (bB_ BK.out hb);clear hb;(try clear q0_ q1_ q2_ q3_ q4_ q5_ f0_ f1_ f2_ f3_ f4_ f5_);have q0_ : w4.cell? ⟨g14,0,none⟩ = some (.int .i64 0):=(blk_cell BK.out 0).trans rfl;have q1_ : w4.cell? ⟨g14,1,none⟩ = some (.int .i64 0):=(blk_cell BK.out 1).trans rfl;have q2_ : w4.cell? ⟨g14,2,none⟩ = some (.int .i64 0):=(blk_cell BK.out 2).trans rfl;have q3_ : w4.cell? ⟨g14,3,none⟩ = some (.int .i64 0):=(blk_cell BK.out 3).trans rfl;have q4_ : w4.cell? ⟨g14,4,none⟩ = some (.int .i64 0):=(blk_cell BK.out 4).trans rfl;have q5_ : w4.cell? ⟨g14,5,none⟩ = some (.slice none 0 0):=(blk_cell BK.out 5).trans rfl;have f0_:=blk_frozen BK.out 0;have f1_:=blk_frozen BK.out 1;have f2_:=blk_frozen BK.out 2;have f3_:=blk_frozen BK.out 3;have f4_:=blk_frozen BK.out 4;have f5_:=blk_frozen BK.out 5) | (go_at_call 45;refine (spec_l9Word.calls a6 _ _ HU1.out).mono ?_;rintro e w4 ⟨rfl,hd⟩;have hb:=hd.below;clear hd;replace HB:=Z_ (lP_ HB.out hb);replace BK:=Z_ (bB_ BK.out hb);clear hb;(try clear q0_ q1_ q2_ q3_ q4_ q5_ f0_ f1_ f2_ f3_ f4_ f5_);have q0_ : w4.cell? ⟨g14,0,none⟩ = some (.int .i64 0):=(blk_cell BK.out 0).trans rfl;have q1_ : w4.cell? ⟨g14,1,none⟩ = some (.int .i64 0):=(blk_cell BK.out 1).trans rfl;have q2_ : w4.cell? ⟨g14,2,none⟩ = some (.int .i64 0):=(blk_cell BK.out 2).trans rfl;have q3_ : w4.cell? ⟨g14,3,none⟩ = some (.int .i64 0):=(blk_cell BK.out 3).trans rfl;have q4_ : w4.cell? ⟨g14,4,none⟩ = some (.int .i64 0):=(blk_cell BK.out 4).trans rfl;have q5_ : w4.cell? ⟨g14,5,none⟩ = some (.slice none 0 0):=(blk_cell BK.out 5).trans rfl;have f0_:=blk_frozen BK.out 0;have f1_:=blk_frozen BK.out 1;have f2_:=blk_frozen BK.out 2;have f3_:=blk_frozen BK.out 3;have f4_:=blk_frozen BK.out 4;have f5_:=blk_frozen BK.out 5;have ho_:=pw_cell_below HB.out HXO.out;have hh_:=pw_cell_below HB.out HXH.out) | (go_at_call 46;refine (spec_l5Copy.calls (some adT) c0 l0 lc _ (Kd.C_below HR.out HB.out) HC.out HCP.out).mono ?_;rintro e w4 ⟨v5,rfl,ho,hb⟩;obtain ⟨A5,c5,e5⟩:=Kd.R_slice ho;subst e5;have HO:=Z_ (Kd.R_lower ho (below_size HB.out));clear ho;replace HB:=Z_ (lP_ HB.out hb);replace BK:=Z_ (bB_ BK.out hb);clear hb;(try clear q0_ q1_ q2_ q3_ q4_ q5_ f0_ f1_ f2_ f3_ f4_ f5_);have q0_ : w4.cell? ⟨g14,0,none⟩ = some (.int .i64 0):=(blk_cell BK.out 0).trans rfl;have q1_ : w4.cell? ⟨g14,1,none⟩ = some (.int .i64 0):=(blk_cell BK.out 1).trans rfl;have q2_ : w4.cell? ⟨g14,2,none⟩ = some (.int .i64 0):=(blk_cell BK.out 2).trans rfl;have q3_ : w4.cell? ⟨g14,3,none⟩ = some (.int .i64 0):=(blk_cell BK.out 3).trans rfl;have q4_ : w4.cell? ⟨g14,4,none⟩ = some (.int .i64 0):=(blk_cell BK.out 4).trans rfl;have q5_ : w4.cell? ⟨g14,5,none⟩ = some (.slice none 0 0):=(blk_cell BK.out 5).trans rfl;have f0_:=blk_frozen BK.out 0;have f1_:=blk_frozen BK.out 1;have f2_:=blk_frozen BK.out 2;have f3_:=blk_frozen BK.out 3;have f4_:=blk_frozen BK.out 4;have f5_:=blk_frozen BK.out 5) | ((with_reducible refine gD_ 16 rfl ?_);refine bx_ #[.slice none 0 0,.int .i64 0] 84 ?_;intro gm hg w3 hbox hb;have BM:=Z_ hbox;have GM:=Z_ (show w.heap.size ≤ gm by rw [hg];exact below_size HB.out);have NEM:=Z_ (show g14 ≠ gm by rw [hg];exact Nat.ne_of_lt (blk_lt BK.out));have NEM1:=NEM.out;have NEM2:=NEM.out.symm;replace HO:=Z_ (R_below_ne HO.out hb (Nat.le_of_eq hg.symm));replace HB:=Z_ (lP_ HB.out hb);replace BK:=Z_ (bB_ BK.out hb);clear hb hbox hg;have m0_ : w3.cell? ⟨gm,0,none⟩ = some (.slice none 0 0):=(blk_cell BM.out 0).trans rfl;have m1_ : w3.cell? ⟨gm,1,none⟩ = some (.int .i64 0):=(blk_cell BM.out 1).trans rfl;have mf0_:=blk_frozen BM.out 0;have mf1_:=blk_frozen BM.out 1;(try clear q0_ q1_ q2_ q3_ q4_ q5_ f0_ f1_ f2_ f3_ f4_ f5_);have q0_ : w3.cell? ⟨g14,0,none⟩ = some (.int .i64 0):=(blk_cell BK.out 0).trans rfl;have q1_ : w3.cell? ⟨g14,1,none⟩ = some (.int .i64 0):=(blk_cell BK.out 1).trans rfl;have q2_ : w3.cell? ⟨g14,2,none⟩ = some (.int .i64 0):=(blk_cell BK.out 2).trans rfl;have q3_ : w3.cell? ⟨g14,3,none⟩ = some (.int .i64 0):=(blk_cell BK.out 3).trans rfl;have q4_ : w3.cell? ⟨g14,4,none⟩ = some (.int .i64 0):=(blk_cell BK.out 4).trans rfl;have q5_ : w3.cell? ⟨g14,5,none⟩ = some (.slice none 0 0):=(blk_cell BK.out 5).trans rfl;have f0_:=blk_frozen BK.out 0;have f1_:=blk_frozen BK.out 1;have f2_:=blk_frozen BK.out 2;have f3_:=blk_frozen BK.out 3;have f4_:=blk_frozen BK.out 4;have f5_:=blk_frozen BK.out 5) | (go_at_call 47;refine (spec_l9Keys.callsE k a1 a2 a3 a4 a5 a6 _ (SE.start (st_new BM.out GM.out HO.out)) HKK.out).mono ?_;rintro e w9 ⟨rfl,hs,hk⟩;clear hk;obtain ⟨⟨v9,hv⟩,hk,hB⟩:=hs;obtain ⟨A9,c9,e9⟩:=Kd.R_slice hv.2.2;subst e9;have HV:=Z_ hv;have BW:=Z_ (blk_keepT (bF_ (bF_ BK.out (p:=⟨gm,0,none⟩) NEM.out _) (p:=⟨gm,1,none⟩) NEM.out _) hk (by decide) (by decide));have n0_:=Z_ ((lS1_ (j:=1) (v:=.int .i64 0) (lS1_ (j:=0) (v:=.slice A5 lc.length c5) HB.out GM.out) GM.out).trans hB);clear HB BK HO BM hk hB hv;have HB:=n0_;have BK:=BW;clear n0_ BW;(try clear m0_ m1_ mf0_ mf1_);have m0_ : w9.cell? ⟨gm,0,none⟩ = some _:=(blk_cell HV.out.1 0).trans rfl;have m1_ : w9.cell? ⟨gm,1,none⟩ = some (.int .i64 fl):=(blk_cell HV.out.1 1).trans rfl;(try clear q0_ q1_ q2_ q3_ q4_ q5_ f0_ f1_ f2_ f3_ f4_ f5_);have q0_ : w9.cell? ⟨g14,0,none⟩ = some (.int .i64 0):=(blk_cell BK.out 0).trans rfl;have q1_ : w9.cell? ⟨g14,1,none⟩ = some (.int .i64 0):=(blk_cell BK.out 1).trans rfl;have q2_ : w9.cell? ⟨g14,2,none⟩ = some (.int .i64 0):=(blk_cell BK.out 2).trans rfl;have q3_ : w9.cell? ⟨g14,3,none⟩ = some (.int .i64 0):=(blk_cell BK.out 3).trans rfl;have q4_ : w9.cell? ⟨g14,4,none⟩ = some (.int .i64 0):=(blk_cell BK.out 4).trans rfl;have q5_ : w9.cell? ⟨g14,5,none⟩ = some (.slice none 0 0):=(blk_cell BK.out 5).trans rfl;have f0_:=blk_frozen BK.out 0;have f1_:=blk_frozen BK.out 1;have f2_:=blk_frozen BK.out 2;have f3_:=blk_frozen BK.out 3;have f4_:=blk_frozen BK.out 4;have f5_:=blk_frozen BK.out 5) | ((with_reducible refine gD_ 17 rfl ?_);refine bx_ #[.int .i64 0,.int .i64 0,.int .i64 0,.int .i64 0] 28 ?_;intro gl hg w11 hbox hb;have BL:=Z_ hbox;have GL:=Z_ (show w.heap.size ≤ gl by rw [hg];exact below_size HB.out);have NE:=Z_ (show g14 ≠ gl by rw [hg];exact Nat.ne_of_lt (blk_lt BK.out));have NES:=Z_ (show gm ≠ gl by rw [hg];exact Nat.ne_of_lt (blk_lt HV.out.1));have ne1_:=NE.out;have ne2_:=NE.out.symm;have ne3_:=NES.out;have ne4_:=NES.out.symm;replace HV:=Z_ (st_below HV.out hb);replace HB:=Z_ (lP_ HB.out hb);replace BK:=Z_ (bB_ BK.out hb);clear hb hbox hg;have y0_ : w11.cell? ⟨gl,0,none⟩ = some (.int .i64 0):=(blk_cell BL.out 0).trans rfl;have y1_ : w11.cell? ⟨gl,1,none⟩ = some (.int .i64 0):=(blk_cell BL.out 1).trans rfl;have y2_ : w11.cell? ⟨gl,2,none⟩ = some (.int .i64 0):=(blk_cell BL.out 2).trans rfl;have y3_ : w11.cell? ⟨gl,3,none⟩ = some (.int .i64 0):=(blk_cell BL.out 3).trans rfl;have z0_:=blk_frozen BL.out 0;have z1_:=blk_frozen BL.out 1;have z2_:=blk_frozen BL.out 2;have z3_:=blk_frozen BL.out 3;(try clear m0_ m1_);have m0_ : w11.cell? ⟨gm,0,none⟩ = some _:=(blk_cell HV.out.1 0).trans rfl;have m1_ : w11.cell? ⟨gm,1,none⟩ = some _:=(blk_cell HV.out.1 1).trans rfl;(try clear q0_ q1_ q2_ q3_ q4_ q5_ f0_ f1_ f2_ f3_ f4_ f5_);have q0_ : w11.cell? ⟨g14,0,none⟩ = some (.int .i64 0):=(blk_cell BK.out 0).trans rfl;have q1_ : w11.cell? ⟨g14,1,none⟩ = some (.int .i64 0):=(blk_cell BK.out 1).trans rfl;have q2_ : w11.cell? ⟨g14,2,none⟩ = some (.int .i64 0):=(blk_cell BK.out 2).trans rfl;have q3_ : w11.cell? ⟨g14,3,none⟩ = some (.int .i64 0):=(blk_cell BK.out 3).trans rfl;have q4_ : w11.cell? ⟨g14,4,none⟩ = some (.int .i64 0):=(blk_cell BK.out 4).trans rfl;have q5_ : w11.cell? ⟨g14,5,none⟩ = some (.slice none 0 0):=(blk_cell BK.out 5).trans rfl;have f0_:=blk_frozen BK.out 0;have f1_:=blk_frozen BK.out 1;have f2_:=blk_frozen BK.out 2;have f3_:=blk_frozen BK.out 3;have f4_:=blk_frozen BK.out 4;have f5_:=blk_frozen BK.out 5))
     have n0_:=Z_ (lS1_ (j:=3) (v:=.int .i64 k4) (lS1_ (j:=2) (v:=.int .i64 k3) (lS1_ (j:=1) (v:=.int .i64 k2) (lS1_ (j:=0) (v:=.int .i64 k1) HB.out GL.out) GL.out) GL.out) GL.out)
     have n1_:=Z_ (bF_ (bF_ (bF_ (bF_ BK.out (p:=⟨gl,0,none⟩) NE.out (.int .i64 k1)) (p:=⟨gl,1,none⟩) NE.out (.int .i64 k2)) (p:=⟨gl,2,none⟩) NE.out (.int .i64 k3)) (p:=⟨gl,3,none⟩) NE.out (.int .i64 k4))
     have n2_:=Z_ (st_far (st_far (st_far (st_far HV.out BL.out (by decide) (by decide) 0 (.int .i64 k1)) (blk_put BL.out 0 (.int .i64 k1) rfl) (by decide) (by decide) 1 (.int .i64 k2)) (blk_put (blk_put BL.out 0 (.int .i64 k1) rfl) 1 (.int .i64 k2) rfl) (by decide) (by decide) 2 (.int .i64 k3)) (blk_put (blk_put (blk_put BL.out 0 (.int .i64 k1) rfl) 1 (.int .i64 k2) rfl) 2 (.int .i64 k3) rfl) (by decide) (by decide) 3 (.int .i64 k4))
     have n3_ : Aside0 (((((w11.setCell ⟨gl,0,none⟩ (.int .i64 k1)).setCell ⟨gl,1,none⟩ (.int .i64 k2)).setCell ⟨gl,2,none⟩ (.int .i64 k3)).setCell ⟨gl,3,none⟩ (.int .i64 k4)).heap[gl]? = some (.cells #[.int .i64 k1,.int .i64 k2,.int .i64 k3,.int .i64 k4] 28 (0,0))):=Z_ (blk_put (blk_put (blk_put (blk_put BL.out 0 (.int .i64 k1) rfl) 1 (.int .i64 k2) rfl) 2 (.int .i64 k3) rfl) 3 (.int .i64 k4) rfl)
     clear HB BK HV BL
     have HB:=n0_;have BK:=n1_;have HV:=n2_;have BL:=n3_
     clear n0_ n1_ n2_ n3_
     refine bodyPost_ret (results_cell_row rfl _ _ g14 30 #[.int .i64 fl,.int .i64 0,.int .i64 0,.int .i64 0,.int .i64 0,.slice none 0 0] (0,0) _ rfl (blk_put (blk_put (blk_put (blk_put (blk_put (blk_put BK.out 0 _ rfl) 1 _ rfl) 2 _ rfl) 3 _ rfl) 4 _ rfl) 5 _ rfl) Try.underlying30 rfl (by kernel_rfl)) rfl ?_
     exact ⟨_,rfl,Kd.R_nil _ _ _ _ _,lS1_ (lS1_ (lS1_ (lS1_ (lS1_ (lS1_ HB.out GE.out) GE.out) GE.out) GE.out) GE.out) GE.out⟩
    ·rw [if_pos hc] at h
     have hc0 : (fl == 0) = true:=by simpa using hc
     have hc1 : (fl != 0) = false:=by simpa using hc
     simp only [Option.some.injEq,Prod.mk.injEq] at h
     obtain ⟨rfl,rfl,rfl,rfl,rfl,rfl⟩:=h
     go_enter Try.func9,Try.ntmps9
     go_wp2_with (first | ((with_reducible refine gD_ 14 rfl ?_);refine bx_ zs5 30 ?_;intro g14 hg w2 hbox hb;have n0_:=Z_ (lP_ HB.out hb);have BK:=Z_ hbox;have GE:=Z_ (show w.heap.size ≤ g14 by rw [hg];exact below_size HB.out);clear HB;have HB:=n0_;clear n0_ hb hbox hg;(try clear q0_ q1_ q2_ q3_ q4_ q5_ f0_ f1_ f2_ f3_ f4_ f5_);have q0_ : w2.cell? ⟨g14,0,none⟩ = some (.int .i64 0):=(blk_cell BK.out 0).trans rfl;have q1_ : w2.cell? ⟨g14,1,none⟩ = some (.int .i64 0):=(blk_cell BK.out 1).trans rfl;have q2_ : w2.cell? ⟨g14,2,none⟩ = some (.int .i64 0):=(blk_cell BK.out 2).trans rfl;have q3_ : w2.cell? ⟨g14,3,none⟩ = some (.int .i64 0):=(blk_cell BK.out 3).trans rfl;have q4_ : w2.cell? ⟨g14,4,none⟩ = some (.int .i64 0):=(blk_cell BK.out 4).trans rfl;have q5_ : w2.cell? ⟨g14,5,none⟩ = some (.slice none 0 0):=(blk_cell BK.out 5).trans rfl;have f0_:=blk_frozen BK.out 0;have f1_:=blk_frozen BK.out 1;have f2_:=blk_frozen BK.out 2;have f3_:=blk_frozen BK.out 3;have f4_:=blk_frozen BK.out 4;have f5_:=blk_frozen BK.out 5) | ((with_reducible refine gD_ 23 rfl ?_);refine Kd.R_lit (Kd.int .i64) _ 2 ?hg (N:=23) ?hd (xs:=([a1,a2,a3,a4] : List Int)) (inner:=[.int .i64 a1,.int .i64 a2,.int .i64 a3,.int .i64 a4]) (ok:=fun _ => True) (okp:=fun _ => True) ?hr ?hp (fun _ hk => hk) trivial (Below.refl _ _) (Nat.le_refl _) (by simp) ?_;(case hd => rfl);(case hg => rfl);(case hr => first | (go_simp;done) | (go_simp;rfl));(case hp => exact reps_ints _);intro v1 w1 ho hb hg hn;clear hg hn;obtain ⟨AP,cP,eP⟩:=Kd.R_slice ho;subst eP;have HP:=Z_ ho;clear ho;replace HB:=Z_ (lP_ HB.out hb);replace BK:=Z_ (bB_ BK.out hb);clear hb;(try clear q0_ q1_ q2_ q3_ q4_ q5_ f0_ f1_ f2_ f3_ f4_ f5_);have q0_ : w1.cell? ⟨g14,0,none⟩ = some (.int .i64 0):=(blk_cell BK.out 0).trans rfl;have q1_ : w1.cell? ⟨g14,1,none⟩ = some (.int .i64 0):=(blk_cell BK.out 1).trans rfl;have q2_ : w1.cell? ⟨g14,2,none⟩ = some (.int .i64 0):=(blk_cell BK.out 2).trans rfl;have q3_ : w1.cell? ⟨g14,3,none⟩ = some (.int .i64 0):=(blk_cell BK.out 3).trans rfl;have q4_ : w1.cell? ⟨g14,4,none⟩ = some (.int .i64 0):=(blk_cell BK.out 4).trans rfl;have q5_ : w1.cell? ⟨g14,5,none⟩ = some (.slice none 0 0):=(blk_cell BK.out 5).trans rfl;have f0_:=blk_frozen BK.out 0;have f1_:=blk_frozen BK.out 1;have f2_:=blk_frozen BK.out 2;have f3_:=blk_frozen BK.out 3;have f4_:=blk_frozen BK.out 4;have f5_:=blk_frozen BK.out 5) | (go_at_call 44;refine (spec_l9Asked.calls k (some adT) c0 l0 AP cP [a1,a2,a3,a4] _ _ (Kd.C_below HR.out HB.out) HC.out (Kd.R_reads' HP.out).2.2 (Kd.R_reads' HP.out).2.1 HF.out).mono ?_;rintro e w4 ⟨rfl,hb⟩;replace HB:=Z_ (lP_ HB.out hb);replace BK:=Z_ (bB_ BK.out hb);replace HP:=Z_ (Kd.R_below HP.out hb);clear hb;(try clear q0_ q1_ q2_ q3_ q4_ q5_ f0_ f1_ f2_ f3_ f4_ f5_);have q0_ : w4.cell? ⟨g14,0,none⟩ = some (.int .i64 0):=(blk_cell BK.out 0).trans rfl;have q1_ : w4.cell? ⟨g14,1,none⟩ = some (.int .i64 0):=(blk_cell BK.out 1).trans rfl;have q2_ : w4.cell? ⟨g14,2,none⟩ = some (.int .i64 0):=(blk_cell BK.out 2).trans rfl;have q3_ : w4.cell? ⟨g14,3,none⟩ = some (.int .i64 0):=(blk_cell BK.out 3).trans rfl;have q4_ : w4.cell? ⟨g14,4,none⟩ = some (.int .i64 0):=(blk_cell BK.out 4).trans rfl;have q5_ : w4.cell? ⟨g14,5,none⟩ = some (.slice none 0 0):=(blk_cell BK.out 5).trans rfl;have f0_:=blk_frozen BK.out 0;have f1_:=blk_frozen BK.out 1;have f2_:=blk_frozen BK.out 2;have f3_:=blk_frozen BK.out 3;have f4_:=blk_frozen BK.out 4;have f5_:=blk_frozen BK.out 5) | (go_at_call 45;refine (spec_l9Word.calls a5 _ _ HU0.out).mono ?_;rintro e w4 ⟨rfl,hd⟩;have hb:=hd.below;clear hd;replace HB:=Z_ (lP_ HB.out hb);replace BK:=Z_ (bB_ BK.out hb);clear hb;(try clear q0_ q1_ q2_ q3_ q4_ q5_ f0_ f1_ f2_ f3_ f4_ f5_);have q0_ : w4.cell? ⟨g14,0,none⟩ = some (.int .i64 0):=(blk_cell BK.out 0).trans rfl;have q1_ : w4.cell? ⟨g14,1,none⟩ = some (.int .i64 0):=(blk_cell BK.out 1).trans rfl;have q2_ : w4.cell? ⟨g14,2,none⟩ = some (.int .i64 0):=(blk_cell BK.out 2).trans rfl;have q3_ : w4.cell? ⟨g14,3,none⟩ = some (.int .i64 0):=(blk_cell BK.out 3).trans rfl;have q4_ : w4.cell? ⟨g14,4,none⟩ = some (.int .i64 0):=(blk_cell BK.out 4).trans rfl;have q5_ : w4.cell? ⟨g14,5,none⟩ = some (.slice none 0 0):=(blk_cell BK.out 5).trans rfl;have f0_:=blk_frozen BK.out 0;have f1_:=blk_frozen BK.out 1;have f2_:=blk_frozen BK.out 2;have f3_:=blk_frozen BK.out 3;have f4_:=blk_frozen BK.out 4;have f5_:=blk_frozen BK.out 5) | (go_at_call 45;refine (spec_l9Word.calls a6 _ _ HU1.out).mono ?_;rintro e w4 ⟨rfl,hd⟩;have hb:=hd.below;clear hd;replace HB:=Z_ (lP_ HB.out hb);replace BK:=Z_ (bB_ BK.out hb);clear hb;(try clear q0_ q1_ q2_ q3_ q4_ q5_ f0_ f1_ f2_ f3_ f4_ f5_);have q0_ : w4.cell? ⟨g14,0,none⟩ = some (.int .i64 0):=(blk_cell BK.out 0).trans rfl;have q1_ : w4.cell? ⟨g14,1,none⟩ = some (.int .i64 0):=(blk_cell BK.out 1).trans rfl;have q2_ : w4.cell? ⟨g14,2,none⟩ = some (.int .i64 0):=(blk_cell BK.out 2).trans rfl;have q3_ : w4.cell? ⟨g14,3,none⟩ = some (.int .i64 0):=(blk_cell BK.out 3).trans rfl;have q4_ : w4.cell? ⟨g14,4,none⟩ = some (.int .i64 0):=(blk_cell BK.out 4).trans rfl;have q5_ : w4.cell? ⟨g14,5,none⟩ = some (.slice none 0 0):=(blk_cell BK.out 5).trans rfl;have f0_:=blk_frozen BK.out 0;have f1_:=blk_frozen BK.out 1;have f2_:=blk_frozen BK.out 2;have f3_:=blk_frozen BK.out 3;have f4_:=blk_frozen BK.out 4;have f5_:=blk_frozen BK.out 5;have ho_:=pw_cell_below HB.out HXO.out;have hh_:=pw_cell_below HB.out HXH.out) | (go_at_call 46;refine (spec_l5Copy.calls (some adT) c0 l0 lc _ (Kd.C_below HR.out HB.out) HC.out HCP.out).mono ?_;rintro e w4 ⟨v5,rfl,ho,hb⟩;obtain ⟨A5,c5,e5⟩:=Kd.R_slice ho;subst e5;have HO:=Z_ (Kd.R_lower ho (below_size HB.out));clear ho;replace HB:=Z_ (lP_ HB.out hb);replace BK:=Z_ (bB_ BK.out hb);clear hb;(try clear q0_ q1_ q2_ q3_ q4_ q5_ f0_ f1_ f2_ f3_ f4_ f5_);have q0_ : w4.cell? ⟨g14,0,none⟩ = some (.int .i64 0):=(blk_cell BK.out 0).trans rfl;have q1_ : w4.cell? ⟨g14,1,none⟩ = some (.int .i64 0):=(blk_cell BK.out 1).trans rfl;have q2_ : w4.cell? ⟨g14,2,none⟩ = some (.int .i64 0):=(blk_cell BK.out 2).trans rfl;have q3_ : w4.cell? ⟨g14,3,none⟩ = some (.int .i64 0):=(blk_cell BK.out 3).trans rfl;have q4_ : w4.cell? ⟨g14,4,none⟩ = some (.int .i64 0):=(blk_cell BK.out 4).trans rfl;have q5_ : w4.cell? ⟨g14,5,none⟩ = some (.slice none 0 0):=(blk_cell BK.out 5).trans rfl;have f0_:=blk_frozen BK.out 0;have f1_:=blk_frozen BK.out 1;have f2_:=blk_frozen BK.out 2;have f3_:=blk_frozen BK.out 3;have f4_:=blk_frozen BK.out 4;have f5_:=blk_frozen BK.out 5) | ((with_reducible refine gD_ 16 rfl ?_);refine bx_ #[.slice none 0 0,.int .i64 0] 84 ?_;intro gm hg w3 hbox hb;have BM:=Z_ hbox;have GM:=Z_ (show w.heap.size ≤ gm by rw [hg];exact below_size HB.out);have NEM:=Z_ (show g14 ≠ gm by rw [hg];exact Nat.ne_of_lt (blk_lt BK.out));have NEM1:=NEM.out;have NEM2:=NEM.out.symm;replace HO:=Z_ (R_below_ne HO.out hb (Nat.le_of_eq hg.symm));replace HB:=Z_ (lP_ HB.out hb);replace BK:=Z_ (bB_ BK.out hb);clear hb hbox hg;have m0_ : w3.cell? ⟨gm,0,none⟩ = some (.slice none 0 0):=(blk_cell BM.out 0).trans rfl;have m1_ : w3.cell? ⟨gm,1,none⟩ = some (.int .i64 0):=(blk_cell BM.out 1).trans rfl;have mf0_:=blk_frozen BM.out 0;have mf1_:=blk_frozen BM.out 1;(try clear q0_ q1_ q2_ q3_ q4_ q5_ f0_ f1_ f2_ f3_ f4_ f5_);have q0_ : w3.cell? ⟨g14,0,none⟩ = some (.int .i64 0):=(blk_cell BK.out 0).trans rfl;have q1_ : w3.cell? ⟨g14,1,none⟩ = some (.int .i64 0):=(blk_cell BK.out 1).trans rfl;have q2_ : w3.cell? ⟨g14,2,none⟩ = some (.int .i64 0):=(blk_cell BK.out 2).trans rfl;have q3_ : w3.cell? ⟨g14,3,none⟩ = some (.int .i64 0):=(blk_cell BK.out 3).trans rfl;have q4_ : w3.cell? ⟨g14,4,none⟩ = some (.int .i64 0):=(blk_cell BK.out 4).trans rfl;have q5_ : w3.cell? ⟨g14,5,none⟩ = some (.slice none 0 0):=(blk_cell BK.out 5).trans rfl;have f0_:=blk_frozen BK.out 0;have f1_:=blk_frozen BK.out 1;have f2_:=blk_frozen BK.out 2;have f3_:=blk_frozen BK.out 3;have f4_:=blk_frozen BK.out 4;have f5_:=blk_frozen BK.out 5) | (go_at_call 47;refine (spec_l9Keys.callsE k a1 a2 a3 a4 a5 a6 _ (SE.start (st_new BM.out GM.out HO.out)) HKK.out).mono ?_;rintro e w9 ⟨rfl,hs,hk⟩;clear hk;obtain ⟨⟨v9,hv⟩,hk,hB⟩:=hs;obtain ⟨A9,c9,e9⟩:=Kd.R_slice hv.2.2;subst e9;have HV:=Z_ hv;have BW:=Z_ (blk_keepT (bF_ (bF_ BK.out (p:=⟨gm,0,none⟩) NEM.out _) (p:=⟨gm,1,none⟩) NEM.out _) hk (by decide) (by decide));have n0_:=Z_ ((lS1_ (j:=1) (v:=.int .i64 0) (lS1_ (j:=0) (v:=.slice A5 lc.length c5) HB.out GM.out) GM.out).trans hB);clear HB BK HO BM hk hB hv;have HB:=n0_;have BK:=BW;clear n0_ BW;(try clear m0_ m1_ mf0_ mf1_);have m0_ : w9.cell? ⟨gm,0,none⟩ = some _:=(blk_cell HV.out.1 0).trans rfl;have m1_ : w9.cell? ⟨gm,1,none⟩ = some (.int .i64 fl):=(blk_cell HV.out.1 1).trans rfl;(try clear q0_ q1_ q2_ q3_ q4_ q5_ f0_ f1_ f2_ f3_ f4_ f5_);have q0_ : w9.cell? ⟨g14,0,none⟩ = some (.int .i64 0):=(blk_cell BK.out 0).trans rfl;have q1_ : w9.cell? ⟨g14,1,none⟩ = some (.int .i64 0):=(blk_cell BK.out 1).trans rfl;have q2_ : w9.cell? ⟨g14,2,none⟩ = some (.int .i64 0):=(blk_cell BK.out 2).trans rfl;have q3_ : w9.cell? ⟨g14,3,none⟩ = some (.int .i64 0):=(blk_cell BK.out 3).trans rfl;have q4_ : w9.cell? ⟨g14,4,none⟩ = some (.int .i64 0):=(blk_cell BK.out 4).trans rfl;have q5_ : w9.cell? ⟨g14,5,none⟩ = some (.slice none 0 0):=(blk_cell BK.out 5).trans rfl;have f0_:=blk_frozen BK.out 0;have f1_:=blk_frozen BK.out 1;have f2_:=blk_frozen BK.out 2;have f3_:=blk_frozen BK.out 3;have f4_:=blk_frozen BK.out 4;have f5_:=blk_frozen BK.out 5) | ((with_reducible refine gD_ 17 rfl ?_);refine bx_ #[.int .i64 0,.int .i64 0,.int .i64 0,.int .i64 0] 28 ?_;intro gl hg w11 hbox hb;have BL:=Z_ hbox;have GL:=Z_ (show w.heap.size ≤ gl by rw [hg];exact below_size HB.out);have NE:=Z_ (show g14 ≠ gl by rw [hg];exact Nat.ne_of_lt (blk_lt BK.out));have NES:=Z_ (show gm ≠ gl by rw [hg];exact Nat.ne_of_lt (blk_lt HV.out.1));have ne1_:=NE.out;have ne2_:=NE.out.symm;have ne3_:=NES.out;have ne4_:=NES.out.symm;replace HV:=Z_ (st_below HV.out hb);replace HB:=Z_ (lP_ HB.out hb);replace BK:=Z_ (bB_ BK.out hb);clear hb hbox hg;have y0_ : w11.cell? ⟨gl,0,none⟩ = some (.int .i64 0):=(blk_cell BL.out 0).trans rfl;have y1_ : w11.cell? ⟨gl,1,none⟩ = some (.int .i64 0):=(blk_cell BL.out 1).trans rfl;have y2_ : w11.cell? ⟨gl,2,none⟩ = some (.int .i64 0):=(blk_cell BL.out 2).trans rfl;have y3_ : w11.cell? ⟨gl,3,none⟩ = some (.int .i64 0):=(blk_cell BL.out 3).trans rfl;have z0_:=blk_frozen BL.out 0;have z1_:=blk_frozen BL.out 1;have z2_:=blk_frozen BL.out 2;have z3_:=blk_frozen BL.out 3;(try clear m0_ m1_);have m0_ : w11.cell? ⟨gm,0,none⟩ = some _:=(blk_cell HV.out.1 0).trans rfl;have m1_ : w11.cell? ⟨gm,1,none⟩ = some _:=(blk_cell HV.out.1 1).trans rfl;(try clear q0_ q1_ q2_ q3_ q4_ q5_ f0_ f1_ f2_ f3_ f4_ f5_);have q0_ : w11.cell? ⟨g14,0,none⟩ = some (.int .i64 0):=(blk_cell BK.out 0).trans rfl;have q1_ : w11.cell? ⟨g14,1,none⟩ = some (.int .i64 0):=(blk_cell BK.out 1).trans rfl;have q2_ : w11.cell? ⟨g14,2,none⟩ = some (.int .i64 0):=(blk_cell BK.out 2).trans rfl;have q3_ : w11.cell? ⟨g14,3,none⟩ = some (.int .i64 0):=(blk_cell BK.out 3).trans rfl;have q4_ : w11.cell? ⟨g14,4,none⟩ = some (.int .i64 0):=(blk_cell BK.out 4).trans rfl;have q5_ : w11.cell? ⟨g14,5,none⟩ = some (.slice none 0 0):=(blk_cell BK.out 5).trans rfl;have f0_:=blk_frozen BK.out 0;have f1_:=blk_frozen BK.out 1;have f2_:=blk_frozen BK.out 2;have f3_:=blk_frozen BK.out 3;have f4_:=blk_frozen BK.out 4;have f5_:=blk_frozen BK.out 5))
     have n0_:=Z_ (lS1_ (j:=3) (v:=.int .i64 k4) (lS1_ (j:=2) (v:=.int .i64 k3) (lS1_ (j:=1) (v:=.int .i64 k2) (lS1_ (j:=0) (v:=.int .i64 k1) HB.out GL.out) GL.out) GL.out) GL.out)
     have n1_:=Z_ (bF_ (bF_ (bF_ (bF_ BK.out (p:=⟨gl,0,none⟩) NE.out (.int .i64 k1)) (p:=⟨gl,1,none⟩) NE.out (.int .i64 k2)) (p:=⟨gl,2,none⟩) NE.out (.int .i64 k3)) (p:=⟨gl,3,none⟩) NE.out (.int .i64 k4))
     have n2_:=Z_ (st_far (st_far (st_far (st_far HV.out BL.out (by decide) (by decide) 0 (.int .i64 k1)) (blk_put BL.out 0 (.int .i64 k1) rfl) (by decide) (by decide) 1 (.int .i64 k2)) (blk_put (blk_put BL.out 0 (.int .i64 k1) rfl) 1 (.int .i64 k2) rfl) (by decide) (by decide) 2 (.int .i64 k3)) (blk_put (blk_put (blk_put BL.out 0 (.int .i64 k1) rfl) 1 (.int .i64 k2) rfl) 2 (.int .i64 k3) rfl) (by decide) (by decide) 3 (.int .i64 k4))
     have n3_ : Aside0 (((((w11.setCell ⟨gl,0,none⟩ (.int .i64 k1)).setCell ⟨gl,1,none⟩ (.int .i64 k2)).setCell ⟨gl,2,none⟩ (.int .i64 k3)).setCell ⟨gl,3,none⟩ (.int .i64 k4)).heap[gl]? = some (.cells #[.int .i64 k1,.int .i64 k2,.int .i64 k3,.int .i64 k4] 28 (0,0))):=Z_ (blk_put (blk_put (blk_put (blk_put BL.out 0 (.int .i64 k1) rfl) 1 (.int .i64 k2) rfl) 2 (.int .i64 k3) rfl) 3 (.int .i64 k4) rfl)
     clear HB BK HV BL
     have HB:=n0_;have BK:=n1_;have HV:=n2_;have BL:=n3_
     clear n0_ n1_ n2_ n3_
     have HOA:=Z_ (show ∀ k,(.slice A9 lt.length c9 : Value).ownBlock = some k → k ≠ g14 from fun k hk e => (Kd.R_ne HV.out.2.2 BK.out (by decide)) (by rw [← e];exact hk.symm))
     refine bodyPost_ret (results_cell_row rfl _ _ g14 30 #[.int .i64 0,.int .i64 k1,.int .i64 k2,.int .i64 k3,.int .i64 k4,.slice A9 lt.length c9] (0,0) _ rfl (blk_put (blk_put (blk_put (blk_put (blk_put (blk_put BK.out 0 _ rfl) 1 _ rfl) 2 _ rfl) 3 _ rfl) 4 _ rfl) 5 _ rfl) Try.underlying30 rfl (by kernel_rfl)) rfl ?_
     exact ⟨_,rfl,Kd.R_mono (Kd.R_far (Kd.R_far (Kd.R_far (Kd.R_far (Kd.R_far (Kd.R_far (R_not HV.out.2.2 HOA.out) (p:=⟨g14,0,none⟩) (fun k hk => hk) _) (p:=⟨g14,1,none⟩) (fun k hk => hk) _) (p:=⟨g14,2,none⟩) (fun k hk => hk) _) (p:=⟨g14,3,none⟩) (fun k hk => hk) _) (p:=⟨g14,4,none⟩) (fun k hk => hk) _) (p:=⟨g14,5,none⟩) (fun k hk => hk) _) (fun _ _ => trivial),lS1_ (lS1_ (lS1_ (lS1_ (lS1_ (lS1_ HB.out GE.out) GE.out) GE.out) GE.out) GE.out) GE.out⟩
 ·rw [if_neg hz] at h
  have hz0 : (c == 0) = false:=by simpa using hz
  have hz1 : (c != 0) = true:=by simpa using hz
  simp only [Option.some.injEq,Prod.mk.injEq] at h
  obtain ⟨rfl,rfl,rfl,rfl,rfl,rfl⟩:=h
  go_enter Try.func9,Try.ntmps9
  go_wp2_with (first | ((with_reducible refine gD_ 14 rfl ?_);refine bx_ zs5 30 ?_;intro g14 hg w2 hbox hb;have n0_:=Z_ (lP_ HB.out hb);have BK:=Z_ hbox;have GE:=Z_ (show w.heap.size ≤ g14 by rw [hg];exact below_size HB.out);clear HB;have HB:=n0_;clear n0_ hb hbox hg;(try clear q0_ q1_ q2_ q3_ q4_ q5_ f0_ f1_ f2_ f3_ f4_ f5_);have q0_ : w2.cell? ⟨g14,0,none⟩ = some (.int .i64 0):=(blk_cell BK.out 0).trans rfl;have q1_ : w2.cell? ⟨g14,1,none⟩ = some (.int .i64 0):=(blk_cell BK.out 1).trans rfl;have q2_ : w2.cell? ⟨g14,2,none⟩ = some (.int .i64 0):=(blk_cell BK.out 2).trans rfl;have q3_ : w2.cell? ⟨g14,3,none⟩ = some (.int .i64 0):=(blk_cell BK.out 3).trans rfl;have q4_ : w2.cell? ⟨g14,4,none⟩ = some (.int .i64 0):=(blk_cell BK.out 4).trans rfl;have q5_ : w2.cell? ⟨g14,5,none⟩ = some (.slice none 0 0):=(blk_cell BK.out 5).trans rfl;have f0_:=blk_frozen BK.out 0;have f1_:=blk_frozen BK.out 1;have f2_:=blk_frozen BK.out 2;have f3_:=blk_frozen BK.out 3;have f4_:=blk_frozen BK.out 4;have f5_:=blk_frozen BK.out 5) | ((with_reducible refine gD_ 23 rfl ?_);refine Kd.R_lit (Kd.int .i64) _ 2 ?hg (N:=23) ?hd (xs:=([a1,a2,a3,a4] : List Int)) (inner:=[.int .i64 a1,.int .i64 a2,.int .i64 a3,.int .i64 a4]) (ok:=fun _ => True) (okp:=fun _ => True) ?hr ?hp (fun _ hk => hk) trivial (Below.refl _ _) (Nat.le_refl _) (by simp) ?_;(case hd => rfl);(case hg => rfl);(case hr => first | (go_simp;done) | (go_simp;rfl));(case hp => exact reps_ints _);intro v1 w1 ho hb hg hn;clear hg hn;obtain ⟨AP,cP,eP⟩:=Kd.R_slice ho;subst eP;have HP:=Z_ ho;clear ho;replace HB:=Z_ (lP_ HB.out hb);replace BK:=Z_ (bB_ BK.out hb);clear hb;(try clear q0_ q1_ q2_ q3_ q4_ q5_ f0_ f1_ f2_ f3_ f4_ f5_);have q0_ : w1.cell? ⟨g14,0,none⟩ = some (.int .i64 0):=(blk_cell BK.out 0).trans rfl;have q1_ : w1.cell? ⟨g14,1,none⟩ = some (.int .i64 0):=(blk_cell BK.out 1).trans rfl;have q2_ : w1.cell? ⟨g14,2,none⟩ = some (.int .i64 0):=(blk_cell BK.out 2).trans rfl;have q3_ : w1.cell? ⟨g14,3,none⟩ = some (.int .i64 0):=(blk_cell BK.out 3).trans rfl;have q4_ : w1.cell? ⟨g14,4,none⟩ = some (.int .i64 0):=(blk_cell BK.out 4).trans rfl;have q5_ : w1.cell? ⟨g14,5,none⟩ = some (.slice none 0 0):=(blk_cell BK.out 5).trans rfl;have f0_:=blk_frozen BK.out 0;have f1_:=blk_frozen BK.out 1;have f2_:=blk_frozen BK.out 2;have f3_:=blk_frozen BK.out 3;have f4_:=blk_frozen BK.out 4;have f5_:=blk_frozen BK.out 5) | (go_at_call 44;refine (spec_l9Asked.calls k A0 c0 l0 AP cP [a1,a2,a3,a4] _ _ (Kd.C_below HR.out HB.out) HC.out (Kd.R_reads' HP.out).2.2 (Kd.R_reads' HP.out).2.1 HF.out).mono ?_;rintro e w4 ⟨rfl,hb⟩;replace HB:=Z_ (lP_ HB.out hb);replace BK:=Z_ (bB_ BK.out hb);replace HP:=Z_ (Kd.R_below HP.out hb);clear hb;(try clear q0_ q1_ q2_ q3_ q4_ q5_ f0_ f1_ f2_ f3_ f4_ f5_);have q0_ : w4.cell? ⟨g14,0,none⟩ = some (.int .i64 0):=(blk_cell BK.out 0).trans rfl;have q1_ : w4.cell? ⟨g14,1,none⟩ = some (.int .i64 0):=(blk_cell BK.out 1).trans rfl;have q2_ : w4.cell? ⟨g14,2,none⟩ = some (.int .i64 0):=(blk_cell BK.out 2).trans rfl;have q3_ : w4.cell? ⟨g14,3,none⟩ = some (.int .i64 0):=(blk_cell BK.out 3).trans rfl;have q4_ : w4.cell? ⟨g14,4,none⟩ = some (.int .i64 0):=(blk_cell BK.out 4).trans rfl;have q5_ : w4.cell? ⟨g14,5,none⟩ = some (.slice none 0 0):=(blk_cell BK.out 5).trans rfl;have f0_:=blk_frozen BK.out 0;have f1_:=blk_frozen BK.out 1;have f2_:=blk_frozen BK.out 2;have f3_:=blk_frozen BK.out 3;have f4_:=blk_frozen BK.out 4;have f5_:=blk_frozen BK.out 5))
  refine bodyPost_ret (results_cell_row rfl _ _ g14 30 #[.int .i64 c,.int .i64 0,.int .i64 0,.int .i64 0,.int .i64 0,.slice none 0 0] (0,0) _ rfl (blk_put (blk_put (blk_put (blk_put (blk_put (blk_put BK.out 0 _ rfl) 1 _ rfl) 2 _ rfl) 3 _ rfl) 4 _ rfl) 5 _ rfl) Try.underlying30 rfl (by kernel_rfl)) rfl ?_
  exact ⟨_,rfl,Kd.R_nil _ _ _ _ _,lS1_ (lS1_ (lS1_ (lS1_ (lS1_ (lS1_ HB.out GE.out) GE.out) GE.out) GE.out) GE.out) GE.out⟩
set_option maxHeartbeats 4000000 in
set_option maxRecDepth 100000 in
theorem impl_sheet_told.calls (S N : Nat) (l : List S36) (full : Bool) (at_ : Int) (w : World) (hS : Sheet w N S l full) (hN : N ≤ w.heap.size) :
    Calls Try.prog 49 #[.pointer (some ⟨S,0,none⟩),.int .i64 at_] w fun e w' => ∃ v,e = .returned (.agg #[.int .i64 (if full = true then 2 else 0),.int .i64 (if full = true then 0 else at_),v]) ∧ k36.R 36 w' N (fun _ => True) v (if full = true then [] else l) ∧ Below N w w':=by
 obtain ⟨v,hb,hns,hr⟩:=hS
 obtain ⟨A,c,rfl⟩:=Kd.R_slice hr
 have BS:=Z_ hb
 have HNS:=Z_ hns
 have HO:=Z_ hr
 have HN:=Z_ hN
 have HB:=Z_ (Below.refl N w)
 clear hb hns hr hN
 cases full with
 | true =>
  go_enter Try.func49,Try.ntmps49
  go_wp2_with (first | ((with_reducible refine gD_ 4 rfl ?_);refine bx_ #[.int .i64 0,.int .i64 0,.slice none 0 0] 33 ?_;intro g4 hg w2 hbox hb;have B4:=Z_ hbox;have NE4:=Z_ (show S ≠ g4 by rw [hg];exact Nat.ne_of_lt (blk_lt BS.out));replace BS:=Z_ (blk_below BS.out hb);have GE4:=Z_ (show N ≤ g4 by rw [hg];exact Nat.le_trans HN.out HB.out.size);replace HB:=Z_ (below_stepN HB.out (Nat.le_trans HN.out HB.out.size) hb);have OW4:=Z_ (show ∀ k,(.slice A l.length c : Value).ownBlock = some k → k ≠ g4 from fun k hk => by obtain ⟨_,hi⟩:=Kd.R_own HO.out;rw [hg];exact Nat.ne_of_lt (own_lt hi k hk));replace HO:=Z_ (Kd.R_below HO.out hb);clear hb hbox hg;have p0_ : w2.cell? ⟨S,0,none⟩ = some (.slice A l.length c):=(blk_cell BS.out 0).trans rfl;have p1_ : w2.cell? ⟨S,1,none⟩ = some (.bool true):=(blk_cell BS.out 1).trans rfl;have q0_ : w2.cell? ⟨g4,0,none⟩ = some (.int .i64 0):=(blk_cell B4.out 0).trans rfl;have q1_ : w2.cell? ⟨g4,1,none⟩ = some (.int .i64 0):=(blk_cell B4.out 1).trans rfl;have q2_ : w2.cell? ⟨g4,2,none⟩ = some (.slice none 0 0):=(blk_cell B4.out 2).trans rfl;have f0_:=blk_frozen B4.out 0;have f1_:=blk_frozen B4.out 1;have f2_:=blk_frozen B4.out 2;have hne_:=NE4.out;have hne2_:=NE4.out.symm))
  refine bodyPost_ret (results_cell_row rfl _ _ g4 33 #[.int .i64 2,.int .i64 0,.slice none 0 0] (0,0) _ rfl (blk_put (blk_put (blk_put B4.out 0 _ rfl) 1 _ rfl) 2 _ rfl) Try.underlying33 rfl (by kernel_rfl)) rfl ?_
  exact ⟨_,rfl,Kd.R_nil _ _ _ _ _,((HB.out.setCell (p:=⟨g4,0,none⟩) GE4.out _).setCell (p:=⟨g4,1,none⟩) GE4.out _).setCell (p:=⟨g4,2,none⟩) GE4.out _⟩
 | false =>
  go_enter Try.func49,Try.ntmps49
  go_wp2_with (first | ((with_reducible refine gD_ 4 rfl ?_);refine bx_ #[.int .i64 0,.int .i64 0,.slice none 0 0] 33 ?_;intro g4 hg w2 hbox hb;have B4:=Z_ hbox;have NE4:=Z_ (show S ≠ g4 by rw [hg];exact Nat.ne_of_lt (blk_lt BS.out));replace BS:=Z_ (blk_below BS.out hb);have GE4:=Z_ (show N ≤ g4 by rw [hg];exact Nat.le_trans HN.out HB.out.size);replace HB:=Z_ (below_stepN HB.out (Nat.le_trans HN.out HB.out.size) hb);have OW4:=Z_ (show ∀ k,(.slice A l.length c : Value).ownBlock = some k → k ≠ g4 from fun k hk => by obtain ⟨_,hi⟩:=Kd.R_own HO.out;rw [hg];exact Nat.ne_of_lt (own_lt hi k hk));replace HO:=Z_ (Kd.R_below HO.out hb);clear hb hbox hg;have p0_ : w2.cell? ⟨S,0,none⟩ = some (.slice A l.length c):=(blk_cell BS.out 0).trans rfl;have p1_ : w2.cell? ⟨S,1,none⟩ = some (.bool false):=(blk_cell BS.out 1).trans rfl;have q0_ : w2.cell? ⟨g4,0,none⟩ = some (.int .i64 0):=(blk_cell B4.out 0).trans rfl;have q1_ : w2.cell? ⟨g4,1,none⟩ = some (.int .i64 0):=(blk_cell B4.out 1).trans rfl;have q2_ : w2.cell? ⟨g4,2,none⟩ = some (.slice none 0 0):=(blk_cell B4.out 2).trans rfl;have f0_:=blk_frozen B4.out 0;have f1_:=blk_frozen B4.out 1;have f2_:=blk_frozen B4.out 2;have hne_:=NE4.out;have hne2_:=NE4.out.symm))
  refine bodyPost_ret (results_cell_row rfl _ _ g4 33 #[.int .i64 0,.int .i64 at_,.slice A l.length c] (0,0) _ rfl (blk_put (blk_put (blk_put B4.out 0 _ rfl) 1 _ rfl) 2 _ rfl) Try.underlying33 rfl (by kernel_rfl)) rfl ?_
  refine ⟨_,rfl,?_,((HB.out.setCell (p:=⟨g4,0,none⟩) GE4.out _).setCell (p:=⟨g4,1,none⟩) GE4.out _).setCell (p:=⟨g4,2,none⟩) GE4.out _⟩
  exact Kd.R_mono (Kd.R_far (Kd.R_far (Kd.R_far (R_not HO.out OW4.out) (p:=⟨g4,0,none⟩) (fun k hk => hk) _) (p:=⟨g4,1,none⟩) (fun k hk => hk) _) (p:=⟨g4,2,none⟩) (fun k hk => hk) _) (fun _ _ => trivial)
theorem termsFault_len {l : List S36} (h : impl_TermsFault.f l = some 0) : l.length ≤ 400:=by
  unfold impl_TermsFault.f at h
  split at h
  · injection h with h
    split at h
    · cases h
    · omega
  · cases h
def toldP (r : Int × List S36 × Bool) : Int × Int × List S36:=if r.2.2 = true then (2,0,[]) else (0,r.1,r.2.1)
theorem impl_sheet_told.calls' (S N : Nat) (l : List S36) (full : Bool) (at_ r1 r2 : Int) (r3 : List S36) (w : World) (hS : Sheet w N S l full) (hN : N ≤ w.heap.size) (h : toldP (at_,l,full) = (r1,r2,r3)) :
    Calls Try.prog 49 #[.pointer (some ⟨S,0,none⟩),.int .i64 at_] w fun e w' => ∃ v,e = .returned (.agg #[.int .i64 r1,.int .i64 r2,v]) ∧ k36.R 36 w' N (fun _ => True) v r3 ∧ Below N w w':=by
 refine (impl_sheet_told.calls S N l full at_ w hS hN).mono ?_
 rintro e w' ⟨v,he,ho,hb⟩
 unfold toldP at h
 cases full with
 | true =>
  simp only [if_true,Prod.mk.injEq] at h he ho
  obtain ⟨rfl,rfl,rfl⟩:=h
  exact ⟨v,he,ho,hb⟩
 | false =>
  simp only [Bool.false_eq_true,if_false,Prod.mk.injEq] at h he ho
  obtain ⟨rfl,rfl,rfl⟩:=h
  exact ⟨v,he,ho,hb⟩
def impl_PutTerm.f (k : Nat) (l0 : List S36) (a1_0 a1_1 a1_2 a1_3 : Int) : Option (Int × Int × List S36):=(impl_TermsFault.f l0).bind fun c => (if c = 0 then ((impl_Term_fault.f a1_0 a1_1 a1_2 a1_3 l0).bind fun d => (if d = 0 then ((impl_Term_94.f k l0 a1_0 a1_1 a1_2 a1_3).bind fun i => (some (toldP (putP l0 false ⟨a1_0,a1_1,a1_2,a1_3⟩ i)))) else (some (d,0,[])))) else (some (c,0,[])))
set_option maxHeartbeats 4000000 in
set_option maxRecDepth 100000 in
theorem impl_PutTerm.calls (k : Nat) (A0 : Option Addr) (c0 : Nat) (l0 : List (S36)) (a1_0 a1_1 a1_2 a1_3 r1 r2 : Int) (r3 : List (S36)) (w : World) (hr0 : Kd.C k36 w A0 l0.length l0) (hc0 : l0.length ≤ c0) (h : impl_PutTerm.f k l0 a1_0 a1_1 a1_2 a1_3 = some (r1,r2,r3)) :
    Calls Try.prog 10 #[.slice A0 l0.length c0,.agg #[.int .i64 a1_0,.int .i64 a1_1,.int .i64 a1_2,.int .i64 a1_3]] w fun e w' => ∃ v2_ : Value,e = .returned (.agg #[.int .i64 r1,.int .i64 r2,v2_]) ∧ Kd.R k36 36 w' w.heap.size (fun _ => True) v2_ r3 ∧ Below w.heap.size w w':=by
 unfold impl_PutTerm.f at h
 obtain ⟨c,ht,h⟩:=Option.bind_eq_some_iff.mp h
 have HR:=Z_ hr0
 have HC:=Z_ hc0
 have HT:=Z_ ht
 have HB:=Z_ (Below.refl w.heap.size w)
 clear hr0 hc0
 by_cases hz : c = 0
 ·rw [if_pos hz] at h
  subst hz
  have hlen:=termsFault_len ht
  clear ht
  obtain ⟨d,hf,h⟩:=Option.bind_eq_some_iff.mp h
  have HF:=Z_ hf
  clear hf
  by_cases hd : d = 0
  ·rw [if_pos hd] at h
   subst hd
   obtain ⟨i,hi,h⟩:=Option.bind_eq_some_iff.mp h
   have HI:=Z_ hi
   have HL:=Z_ (show l0.length * 32 ≤ 140737488355328 by omega)
   have HTP:=Z_ (Option.some.inj h)
   clear hi hlen h
   go_enter Try.func10,Try.ntmps10
   go_wp2_with (first | ((with_reducible refine gD_ 3 rfl ?_);refine bx_ #[.int .i64 a1_0,.int .i64 a1_1,.int .i64 a1_2,.int .i64 a1_3] 36 ?_;intro g3 hg w2 hbox hb;replace HB:=Z_ (lP_ HB.out hb);have a1:=Z_ hbox;clear hb hbox hg;skip) | ((with_reducible refine gD_ 4 rfl ?_);refine bx_ #[.int .i64 0,.int .i64 0,.slice none 0 0] 33 ?_;intro g4 hg w3 hbox hb;have n0_:=Z_ (lP_ HB.out hb);have n1_:=Z_ hbox;have n2_:=Z_ (show w.heap.size ≤ g4 by rw [hg];exact below_size HB.out);have m0_:=Z_ (bB_ a1.out hb);have k0_:=Z_ (show g3 ≠ g4 by rw [hg];exact Nat.ne_of_lt (blk_lt a1.out));clear HB a1;have HB:=n0_;have a0:=n1_;have a2:=n2_;have a1:=m0_;have NE4:=k0_;clear n0_ n1_ n2_ m0_ k0_ hb hbox hg;have p0_ : w3.cell? ⟨g3,0,none⟩ = some (.int .i64 a1_0):=(blk_cell a1.out 0).trans rfl;have p1_ : w3.cell? ⟨g3,1,none⟩ = some (.int .i64 a1_1):=(blk_cell a1.out 1).trans rfl;have p2_ : w3.cell? ⟨g3,2,none⟩ = some (.int .i64 a1_2):=(blk_cell a1.out 2).trans rfl;have p3_ : w3.cell? ⟨g3,3,none⟩ = some (.int .i64 a1_3):=(blk_cell a1.out 3).trans rfl;have q0_ : w3.cell? ⟨g4,0,none⟩ = some (.int .i64 0):=(blk_cell a0.out 0).trans rfl;have q1_ : w3.cell? ⟨g4,1,none⟩ = some (.int .i64 0):=(blk_cell a0.out 1).trans rfl;have q2_ : w3.cell? ⟨g4,2,none⟩ = some (.slice none 0 0):=(blk_cell a0.out 2).trans rfl;have f0_:=blk_frozen a0.out 0;have f1_:=blk_frozen a0.out 1;have f2_:=blk_frozen a0.out 2) | (go_at_call 13;with_reducible refine (impl_TermsFault.calls A0 c0 l0 _ _ (Kd.C_below HR.out HB.out) HC.out HT.out).mono ?_;rintro e w4 ⟨rfl,hb⟩;have n0_:=Z_ (lP_ HB.out hb);have m0_:=Z_ (bB_ a1.out hb);have m1_:=Z_ (bB_ a0.out hb);clear HB a1 a0 hb;have HB:=n0_;have a1:=m0_;have a0:=m1_;clear n0_ m0_ m1_;(try clear p0_ p1_ p2_ p3_);(try clear q0_ q1_ q2_ f0_ f1_ f2_);have p0_ : w4.cell? ⟨g3,0,none⟩ = some (.int .i64 a1_0):=(blk_cell a1.out 0).trans rfl;have p1_ : w4.cell? ⟨g3,1,none⟩ = some (.int .i64 a1_1):=(blk_cell a1.out 1).trans rfl;have p2_ : w4.cell? ⟨g3,2,none⟩ = some (.int .i64 a1_2):=(blk_cell a1.out 2).trans rfl;have p3_ : w4.cell? ⟨g3,3,none⟩ = some (.int .i64 a1_3):=(blk_cell a1.out 3).trans rfl;have q0_ : w4.cell? ⟨g4,0,none⟩ = some (.int .i64 0):=(blk_cell a0.out 0).trans rfl;have q1_ : w4.cell? ⟨g4,1,none⟩ = some (.int .i64 0):=(blk_cell a0.out 1).trans rfl;have q2_ : w4.cell? ⟨g4,2,none⟩ = some (.slice none 0 0):=(blk_cell a0.out 2).trans rfl;have f0_:=blk_frozen a0.out 0;have f1_:=blk_frozen a0.out 1;have f2_:=blk_frozen a0.out 2) | (go_at_call 48;with_reducible refine (impl_Term_fault.calls a1_0 a1_1 a1_2 a1_3 A0 c0 l0 _ _ (Kd.C_below HR.out HB.out) HC.out HF.out).mono ?_;rintro e w5 ⟨rfl,hb⟩;have n0_:=Z_ (lP_ HB.out hb);have m0_:=Z_ (bB_ a1.out hb);have m1_:=Z_ (bB_ a0.out hb);clear HB a1 a0 hb;have HB:=n0_;have a1:=m0_;have a0:=m1_;clear n0_ m0_ m1_;(try clear p0_ p1_ p2_ p3_);(try clear q0_ q1_ q2_ f0_ f1_ f2_);have p0_ : w5.cell? ⟨g3,0,none⟩ = some (.int .i64 a1_0):=(blk_cell a1.out 0).trans rfl;have p1_ : w5.cell? ⟨g3,1,none⟩ = some (.int .i64 a1_1):=(blk_cell a1.out 1).trans rfl;have p2_ : w5.cell? ⟨g3,2,none⟩ = some (.int .i64 a1_2):=(blk_cell a1.out 2).trans rfl;have p3_ : w5.cell? ⟨g3,3,none⟩ = some (.int .i64 a1_3):=(blk_cell a1.out 3).trans rfl;have q0_ : w5.cell? ⟨g4,0,none⟩ = some (.int .i64 0):=(blk_cell a0.out 0).trans rfl;have q1_ : w5.cell? ⟨g4,1,none⟩ = some (.int .i64 0):=(blk_cell a0.out 1).trans rfl;have q2_ : w5.cell? ⟨g4,2,none⟩ = some (.slice none 0 0):=(blk_cell a0.out 2).trans rfl;have f0_:=blk_frozen a0.out 0;have f1_:=blk_frozen a0.out 1;have f2_:=blk_frozen a0.out 2) | (go_at_call 42;with_reducible refine (impl_sheetOf.calls A0 c0 l0 _ (Kd.C_below HR.out HB.out) HC.out HL.out).mono ?_;rintro e w6 ⟨S,rfl,hs,hb⟩;have HS:=Z_ hs;have HN:=Z_ hb.size;have N3:=Z_ (blk_lt a1.out);have N4:=Z_ (blk_lt a0.out);have NW:=Z_ HB.out.size;have n0_:=Z_ (lP_ HB.out hb);have m0_:=Z_ (bB_ a1.out hb);have m1_:=Z_ (bB_ a0.out hb);clear HB a1 a0 hb hs;have HB:=n0_;have a1:=m0_;have a0:=m1_;clear n0_ m0_ m1_;(try clear p0_ p1_ p2_ p3_);(try clear q0_ q1_ q2_ f0_ f1_ f2_);have p0_ : w6.cell? ⟨g3,0,none⟩ = some (.int .i64 a1_0):=(blk_cell a1.out 0).trans rfl;have p1_ : w6.cell? ⟨g3,1,none⟩ = some (.int .i64 a1_1):=(blk_cell a1.out 1).trans rfl;have p2_ : w6.cell? ⟨g3,2,none⟩ = some (.int .i64 a1_2):=(blk_cell a1.out 2).trans rfl;have p3_ : w6.cell? ⟨g3,3,none⟩ = some (.int .i64 a1_3):=(blk_cell a1.out 3).trans rfl;have q0_ : w6.cell? ⟨g4,0,none⟩ = some (.int .i64 0):=(blk_cell a0.out 0).trans rfl;have q1_ : w6.cell? ⟨g4,1,none⟩ = some (.int .i64 0):=(blk_cell a0.out 1).trans rfl;have q2_ : w6.cell? ⟨g4,2,none⟩ = some (.slice none 0 0):=(blk_cell a0.out 2).trans rfl;have f0_:=blk_frozen a0.out 0;have f1_:=blk_frozen a0.out 1;have f2_:=blk_frozen a0.out 2) | (go_at_call 50;refine (impl_sheet_put.calls k S _ l0 false a1_0 a1_1 a1_2 a1_3 i _ HS.out HN.out HI.out).mono ?_;rintro e w7 ⟨rfl,hs,hb⟩;clear HS;have HS:=Z_ hs;clear hs;have n0_:=Z_ (HB.out.trans (hb.mono NW.out));have m0_ : Aside0 (w7.heap[g3]? = _):=Z_ ((hb.block g3 N3.out).trans a1.out);have m1_ : Aside0 (w7.heap[g4]? = _):=Z_ ((hb.block g4 N4.out).trans a0.out);have n1_:=Z_ (Nat.le_trans HN.out hb.size);clear HB a1 a0 hb HN;have HB:=n0_;have a1:=m0_;have a0:=m1_;have HN:=n1_;clear n0_ m0_ m1_ n1_;(try clear p0_ p1_ p2_ p3_);(try clear q0_ q1_ q2_ f0_ f1_ f2_);have p0_ : w7.cell? ⟨g3,0,none⟩ = some (.int .i64 a1_0):=(blk_cell a1.out 0).trans rfl;have p1_ : w7.cell? ⟨g3,1,none⟩ = some (.int .i64 a1_1):=(blk_cell a1.out 1).trans rfl;have p2_ : w7.cell? ⟨g3,2,none⟩ = some (.int .i64 a1_2):=(blk_cell a1.out 2).trans rfl;have p3_ : w7.cell? ⟨g3,3,none⟩ = some (.int .i64 a1_3):=(blk_cell a1.out 3).trans rfl;have q0_ : w7.cell? ⟨g4,0,none⟩ = some (.int .i64 0):=(blk_cell a0.out 0).trans rfl;have q1_ : w7.cell? ⟨g4,1,none⟩ = some (.int .i64 0):=(blk_cell a0.out 1).trans rfl;have q2_ : w7.cell? ⟨g4,2,none⟩ = some (.slice none 0 0):=(blk_cell a0.out 2).trans rfl;have f0_:=blk_frozen a0.out 0;have f1_:=blk_frozen a0.out 1;have f2_:=blk_frozen a0.out 2) | (go_at_call 49;refine (impl_sheet_told.calls' S _ _ _ _ r1 r2 r3 _ HS.out HN.out HTP.out).mono ?_;rintro e w8 ⟨v8,rfl,ho,hb⟩;have HO:=Z_ ho;clear ho HS;obtain ⟨A8,c8,e8⟩:=Kd.R_slice HO.out;subst e8;have n0_:=Z_ (HB.out.trans (hb.mono NW.out));have m0_ : Aside0 (w8.heap[g3]? = _):=Z_ ((hb.block g3 N3.out).trans a1.out);have m1_ : Aside0 (w8.heap[g4]? = _):=Z_ ((hb.block g4 N4.out).trans a0.out);have n1_:=Z_ (Nat.le_trans HN.out hb.size);clear HB a1 a0 hb HN;have HB:=n0_;have a1:=m0_;have a0:=m1_;have HN:=n1_;clear n0_ m0_ m1_ n1_;(try clear p0_ p1_ p2_ p3_);(try clear q0_ q1_ q2_ f0_ f1_ f2_);have p0_ : w8.cell? ⟨g3,0,none⟩ = some (.int .i64 a1_0):=(blk_cell a1.out 0).trans rfl;have p1_ : w8.cell? ⟨g3,1,none⟩ = some (.int .i64 a1_1):=(blk_cell a1.out 1).trans rfl;have p2_ : w8.cell? ⟨g3,2,none⟩ = some (.int .i64 a1_2):=(blk_cell a1.out 2).trans rfl;have p3_ : w8.cell? ⟨g3,3,none⟩ = some (.int .i64 a1_3):=(blk_cell a1.out 3).trans rfl;have q0_ : w8.cell? ⟨g4,0,none⟩ = some (.int .i64 0):=(blk_cell a0.out 0).trans rfl;have q1_ : w8.cell? ⟨g4,1,none⟩ = some (.int .i64 0):=(blk_cell a0.out 1).trans rfl;have q2_ : w8.cell? ⟨g4,2,none⟩ = some (.slice none 0 0):=(blk_cell a0.out 2).trans rfl;have f0_:=blk_frozen a0.out 0;have f1_:=blk_frozen a0.out 1;have f2_:=blk_frozen a0.out 2))
   have HOA:=Z_ (show ∀ k,(.slice A8 r3.length c8 : Value).ownBlock = some k → k ≠ g4 from fun k hk => Nat.ne_of_gt (Nat.lt_of_lt_of_le N4.out (Kd.R_base HO.out k hk)))
   refine bodyPost_ret (results_cell_row rfl _ _ g4 33 #[.int .i64 r1,.int .i64 r2,.slice A8 r3.length c8] (0,0) _ rfl (blk_put (blk_put (blk_put a0.out 0 _ rfl) 1 _ rfl) 2 _ rfl) Try.underlying33 rfl (by kernel_rfl)) rfl ?_
   refine ⟨_,rfl,?_,lS1_ (lS1_ (lS1_ HB.out a2.out) a2.out) a2.out⟩
   exact Kd.R_mono (Kd.R_lower (Kd.R_far (Kd.R_far (Kd.R_far (R_not HO.out HOA.out) (p:=⟨g4,0,none⟩) (fun k hk => hk) _) (p:=⟨g4,1,none⟩) (fun k hk => hk) _) (p:=⟨g4,2,none⟩) (fun k hk => hk) _) NW.out) (fun _ _ => trivial)
  ·rw [if_neg hd] at h
   have hd0 : (d == 0) = false:=by simpa using hd
   have hd1 : (d != 0) = true:=by simpa using hd
   simp only [Option.some.injEq,Prod.mk.injEq] at h
   obtain ⟨rfl,rfl,rfl⟩:=h
   go_enter Try.func10,Try.ntmps10
   go_wp2_with (first | ((with_reducible refine gD_ 3 rfl ?_);refine bx_ #[.int .i64 a1_0,.int .i64 a1_1,.int .i64 a1_2,.int .i64 a1_3] 36 ?_;intro g3 hg w2 hbox hb;replace HB:=Z_ (lP_ HB.out hb);have a1:=Z_ hbox;clear hb hbox hg;skip) | ((with_reducible refine gD_ 4 rfl ?_);refine bx_ #[.int .i64 0,.int .i64 0,.slice none 0 0] 33 ?_;intro g4 hg w3 hbox hb;have n0_:=Z_ (lP_ HB.out hb);have n1_:=Z_ hbox;have n2_:=Z_ (show w.heap.size ≤ g4 by rw [hg];exact below_size HB.out);have m0_:=Z_ (bB_ a1.out hb);have k0_:=Z_ (show g3 ≠ g4 by rw [hg];exact Nat.ne_of_lt (blk_lt a1.out));clear HB a1;have HB:=n0_;have a0:=n1_;have a2:=n2_;have a1:=m0_;have NE4:=k0_;clear n0_ n1_ n2_ m0_ k0_ hb hbox hg;have p0_ : w3.cell? ⟨g3,0,none⟩ = some (.int .i64 a1_0):=(blk_cell a1.out 0).trans rfl;have p1_ : w3.cell? ⟨g3,1,none⟩ = some (.int .i64 a1_1):=(blk_cell a1.out 1).trans rfl;have p2_ : w3.cell? ⟨g3,2,none⟩ = some (.int .i64 a1_2):=(blk_cell a1.out 2).trans rfl;have p3_ : w3.cell? ⟨g3,3,none⟩ = some (.int .i64 a1_3):=(blk_cell a1.out 3).trans rfl;have q0_ : w3.cell? ⟨g4,0,none⟩ = some (.int .i64 0):=(blk_cell a0.out 0).trans rfl;have q1_ : w3.cell? ⟨g4,1,none⟩ = some (.int .i64 0):=(blk_cell a0.out 1).trans rfl;have q2_ : w3.cell? ⟨g4,2,none⟩ = some (.slice none 0 0):=(blk_cell a0.out 2).trans rfl;have f0_:=blk_frozen a0.out 0;have f1_:=blk_frozen a0.out 1;have f2_:=blk_frozen a0.out 2) | (go_at_call 13;with_reducible refine (impl_TermsFault.calls A0 c0 l0 _ _ (Kd.C_below HR.out HB.out) HC.out HT.out).mono ?_;rintro e w4 ⟨rfl,hb⟩;have n0_:=Z_ (lP_ HB.out hb);have m0_:=Z_ (bB_ a1.out hb);have m1_:=Z_ (bB_ a0.out hb);clear HB a1 a0 hb;have HB:=n0_;have a1:=m0_;have a0:=m1_;clear n0_ m0_ m1_;(try clear p0_ p1_ p2_ p3_);(try clear q0_ q1_ q2_ f0_ f1_ f2_);have p0_ : w4.cell? ⟨g3,0,none⟩ = some (.int .i64 a1_0):=(blk_cell a1.out 0).trans rfl;have p1_ : w4.cell? ⟨g3,1,none⟩ = some (.int .i64 a1_1):=(blk_cell a1.out 1).trans rfl;have p2_ : w4.cell? ⟨g3,2,none⟩ = some (.int .i64 a1_2):=(blk_cell a1.out 2).trans rfl;have p3_ : w4.cell? ⟨g3,3,none⟩ = some (.int .i64 a1_3):=(blk_cell a1.out 3).trans rfl;have q0_ : w4.cell? ⟨g4,0,none⟩ = some (.int .i64 0):=(blk_cell a0.out 0).trans rfl;have q1_ : w4.cell? ⟨g4,1,none⟩ = some (.int .i64 0):=(blk_cell a0.out 1).trans rfl;have q2_ : w4.cell? ⟨g4,2,none⟩ = some (.slice none 0 0):=(blk_cell a0.out 2).trans rfl;have f0_:=blk_frozen a0.out 0;have f1_:=blk_frozen a0.out 1;have f2_:=blk_frozen a0.out 2) | (go_at_call 48;with_reducible refine (impl_Term_fault.calls a1_0 a1_1 a1_2 a1_3 A0 c0 l0 _ _ (Kd.C_below HR.out HB.out) HC.out HF.out).mono ?_;rintro e w5 ⟨rfl,hb⟩;have n0_:=Z_ (lP_ HB.out hb);have m0_:=Z_ (bB_ a1.out hb);have m1_:=Z_ (bB_ a0.out hb);clear HB a1 a0 hb;have HB:=n0_;have a1:=m0_;have a0:=m1_;clear n0_ m0_ m1_;(try clear p0_ p1_ p2_ p3_);(try clear q0_ q1_ q2_ f0_ f1_ f2_);have p0_ : w5.cell? ⟨g3,0,none⟩ = some (.int .i64 a1_0):=(blk_cell a1.out 0).trans rfl;have p1_ : w5.cell? ⟨g3,1,none⟩ = some (.int .i64 a1_1):=(blk_cell a1.out 1).trans rfl;have p2_ : w5.cell? ⟨g3,2,none⟩ = some (.int .i64 a1_2):=(blk_cell a1.out 2).trans rfl;have p3_ : w5.cell? ⟨g3,3,none⟩ = some (.int .i64 a1_3):=(blk_cell a1.out 3).trans rfl;have q0_ : w5.cell? ⟨g4,0,none⟩ = some (.int .i64 0):=(blk_cell a0.out 0).trans rfl;have q1_ : w5.cell? ⟨g4,1,none⟩ = some (.int .i64 0):=(blk_cell a0.out 1).trans rfl;have q2_ : w5.cell? ⟨g4,2,none⟩ = some (.slice none 0 0):=(blk_cell a0.out 2).trans rfl;have f0_:=blk_frozen a0.out 0;have f1_:=blk_frozen a0.out 1;have f2_:=blk_frozen a0.out 2))
   refine bodyPost_ret (results_cell_row rfl _ _ g4 33 #[.int .i64 d,.int .i64 0,.slice none 0 0] (0,0) _ rfl (blk_put (blk_put (blk_put a0.out 0 _ rfl) 1 _ rfl) 2 _ rfl) Try.underlying33 rfl (by kernel_rfl)) rfl ?_
   exact ⟨_,rfl,Kd.R_nil _ _ _ _ _,lS1_ (lS1_ (lS1_ HB.out a2.out) a2.out) a2.out⟩
 ·rw [if_neg hz] at h
  have hz0 : (c == 0) = false:=by simpa using hz
  have hz1 : (c != 0) = true:=by simpa using hz
  simp only [Option.some.injEq,Prod.mk.injEq] at h
  obtain ⟨rfl,rfl,rfl⟩:=h
  go_enter Try.func10,Try.ntmps10
  go_wp2_with (first | ((with_reducible refine gD_ 3 rfl ?_);refine bx_ #[.int .i64 a1_0,.int .i64 a1_1,.int .i64 a1_2,.int .i64 a1_3] 36 ?_;intro g3 hg w2 hbox hb;replace HB:=Z_ (lP_ HB.out hb);have a1:=Z_ hbox;clear hb hbox hg;skip) | ((with_reducible refine gD_ 4 rfl ?_);refine bx_ #[.int .i64 0,.int .i64 0,.slice none 0 0] 33 ?_;intro g4 hg w3 hbox hb;have n0_:=Z_ (lP_ HB.out hb);have n1_:=Z_ hbox;have n2_:=Z_ (show w.heap.size ≤ g4 by rw [hg];exact below_size HB.out);have m0_:=Z_ (bB_ a1.out hb);have k0_:=Z_ (show g3 ≠ g4 by rw [hg];exact Nat.ne_of_lt (blk_lt a1.out));clear HB a1;have HB:=n0_;have a0:=n1_;have a2:=n2_;have a1:=m0_;have NE4:=k0_;clear n0_ n1_ n2_ m0_ k0_ hb hbox hg;have p0_ : w3.cell? ⟨g3,0,none⟩ = some (.int .i64 a1_0):=(blk_cell a1.out 0).trans rfl;have p1_ : w3.cell? ⟨g3,1,none⟩ = some (.int .i64 a1_1):=(blk_cell a1.out 1).trans rfl;have p2_ : w3.cell? ⟨g3,2,none⟩ = some (.int .i64 a1_2):=(blk_cell a1.out 2).trans rfl;have p3_ : w3.cell? ⟨g3,3,none⟩ = some (.int .i64 a1_3):=(blk_cell a1.out 3).trans rfl;have q0_ : w3.cell? ⟨g4,0,none⟩ = some (.int .i64 0):=(blk_cell a0.out 0).trans rfl;have q1_ : w3.cell? ⟨g4,1,none⟩ = some (.int .i64 0):=(blk_cell a0.out 1).trans rfl;have q2_ : w3.cell? ⟨g4,2,none⟩ = some (.slice none 0 0):=(blk_cell a0.out 2).trans rfl;have f0_:=blk_frozen a0.out 0;have f1_:=blk_frozen a0.out 1;have f2_:=blk_frozen a0.out 2) | (go_at_call 13;with_reducible refine (impl_TermsFault.calls A0 c0 l0 _ _ (Kd.C_below HR.out HB.out) HC.out HT.out).mono ?_;rintro e w4 ⟨rfl,hb⟩;have n0_:=Z_ (lP_ HB.out hb);have m0_:=Z_ (bB_ a1.out hb);have m1_:=Z_ (bB_ a0.out hb);clear HB a1 a0 hb;have HB:=n0_;have a1:=m0_;have a0:=m1_;clear n0_ m0_ m1_;(try clear p0_ p1_ p2_ p3_);(try clear q0_ q1_ q2_ f0_ f1_ f2_);have p0_ : w4.cell? ⟨g3,0,none⟩ = some (.int .i64 a1_0):=(blk_cell a1.out 0).trans rfl;have p1_ : w4.cell? ⟨g3,1,none⟩ = some (.int .i64 a1_1):=(blk_cell a1.out 1).trans rfl;have p2_ : w4.cell? ⟨g3,2,none⟩ = some (.int .i64 a1_2):=(blk_cell a1.out 2).trans rfl;have p3_ : w4.cell? ⟨g3,3,none⟩ = some (.int .i64 a1_3):=(blk_cell a1.out 3).trans rfl;have q0_ : w4.cell? ⟨g4,0,none⟩ = some (.int .i64 0):=(blk_cell a0.out 0).trans rfl;have q1_ : w4.cell? ⟨g4,1,none⟩ = some (.int .i64 0):=(blk_cell a0.out 1).trans rfl;have q2_ : w4.cell? ⟨g4,2,none⟩ = some (.slice none 0 0):=(blk_cell a0.out 2).trans rfl;have f0_:=blk_frozen a0.out 0;have f1_:=blk_frozen a0.out 1;have f2_:=blk_frozen a0.out 2))
  refine bodyPost_ret (results_cell_row rfl _ _ g4 33 #[.int .i64 c,.int .i64 0,.slice none 0 0] (0,0) _ rfl (blk_put (blk_put (blk_put a0.out 0 _ rfl) 1 _ rfl) 2 _ rfl) Try.underlying33 rfl (by kernel_rfl)) rfl ?_
  exact ⟨_,rfl,Kd.R_nil _ _ _ _ _,lS1_ (lS1_ (lS1_ HB.out a2.out) a2.out) a2.out⟩
def spec_PutTerm.f (k : Nat) (l0 : List (S36)) (a1_0 a1_1 a1_2 a1_3 : Int) : Option (Int × Int × (List (S36))):=(spec_TermsFault.f k l0).bind fun t303 => (if t303 = 0 then ((spec_l5Put.f k l0 a1_0 a1_1 a1_2 a1_3).bind fun bt304 => (some (bt304.1,bt304.2.1,bt304.2.2))) else (some (t303,0,([] : List (S36)))))
set_option maxHeartbeats 8000000 in
set_option maxRecDepth 100000 in
theorem spec_PutTerm.calls (k : Nat) (A0 : Option Addr) (c0 : Nat) (l0 : List (S36)) (a1_0 a1_1 a1_2 a1_3 r1 r2 : Int) (r3 : List (S36)) (w : World) (hr0 : Kd.C k36 w A0 l0.length l0) (hc0 : l0.length ≤ c0) (h : spec_PutTerm.f k l0 a1_0 a1_1 a1_2 a1_3 = some (r1,r2,r3)) :
  Calls Try.prog 11 #[.slice A0 l0.length c0,.agg #[.int .i64 a1_0,.int .i64 a1_1,.int .i64 a1_2,.int .i64 a1_3]] w fun e w' => ∃ v2_ : Value,e = .returned (.agg #[.int .i64 r1,.int .i64 r2,v2_]) ∧ Kd.R k36 36 w' w.heap.size (fun _ => True) v2_ r3 ∧ Below w.heap.size w w':=by
 have hu36:=Try.underlying36
 have hu33:=Try.underlying33
 have a9:=Z_ hr0
 have aa:=Z_ hc0
 clear hr0 hc0
 have HB:=Z_ (Below.refl w.heap.size w)
 unfold spec_PutTerm.f at h
 have H:=h
 clear h
 replace H:=bS_ H
 obtain ⟨t303,A3,H⟩:=H
 replace H:=iE_ H
 obtain ⟨c4b0,c4b1,H⟩ | ⟨c4b0,c4b1,H⟩:=H
 rotate_left
 ·simp only [Option.some.injEq,Prod.mk.injEq] at H
  obtain ⟨rfl,rfl,rfl⟩:=H
  go_enter Try.func11,Try.ntmps11
  go_wp2_with (first | ((with_reducible refine gD_ 3 rfl ?_);refine bx_ #[.int .i64 a1_0,.int .i64 a1_1,.int .i64 a1_2,.int .i64 a1_3] 36 ?_;intro a5 hg w14 hbox hb;have a1:=Z_ hbox;have a6:=Z_ ((by rw [hg];exact (below_size Lb_) : w.heap.size ≤ a5));replace HB:=Z_ (lP_ Lb_ hb);clear hb hbox hg) | ((with_reducible refine gD_ 4 rfl ?_);refine bx_ #[.int .i64 0,.int .i64 0,.slice none 0 0] 33 ?_;intro a2 hg w15 hbox hb;have a0:=Z_ hbox;have a7:=Z_ ((by rw [hg];exact (below_size Lb_) : w.heap.size ≤ a2));replace HB:=Z_ (lP_ Lb_ hb);have a3:=Z_ ((by rw [hg];exact Nat.ne_of_lt (blk_lt (g:=a5) (o:=.cells #[.int .i64 a1_0,.int .i64 a1_1,.int .i64 a1_2,.int .i64 a1_3] 36 (0,0)) a1.out) : a5 ≠ a2));have a4:=Z_ a3.out.symm;clear hb hbox hg) | ((with_reducible refine gate_callee (f:=51) rfl ?_);refine goesA_ (some 7) rfl rfl Try.func51 (by kernel_rfl) rfl #[.slice A0 l0.length c0] rfl ?_;(with_reducible refine (spec_TermsFault.calls k _ _ l0 t303 _ ?side1 ?side2 A3.out).mono ?_);(case side1 => exact Cb_ a9);(case side2 => exact aa.out);rintro e w16 ⟨rfl,hb⟩;refine ⟨_,rfl,?_⟩;replace a0:=Z_ (bB_ a0.out hb);replace HB:=Z_ (lP_ HB.out hb);(try clear hb);have af:=a4.out;have ag:=a3.out;obtain ⟨_,_,_,_,_,_⟩:=bc3 a0.out))
  refine bodyPost_ret (results_cell_row rfl _ _ a2 33 #[.int .i64 t303,.int .i64 0,.slice none 0 0] (0,0) _ rfl (by (with_reducible repeat first | apply bN_ | apply bD_ | apply bA_);apply fill3;(with_reducible repeat first | apply bN_ | apply bD_ | apply bA_);exact a0.out) Try.underlying33 rfl (by kernel_rfl)) rfl ?_
  exact ⟨_,Er_,by first | exact Kd.R_nil _ _ _ _ _ | exact Kd.N_nil _ _ _ _ _ | exact Kd.V_nil _ _ _ _ _ | exact Kd.Q_nil _ _ _ _ _ | exact Kd.S_nil _ _ _ _ _,Lb_⟩
 rotate_right
 replace H:=bS_ H
 obtain ⟨⟨t304,t305,t306⟩,A5,H⟩:=H
 try dsimp only at H
 simp only [Option.some.injEq,Prod.mk.injEq] at H
 obtain ⟨rfl,rfl,rfl⟩:=H
 go_enter Try.func11,Try.ntmps11
 go_wp2_with (first | ((with_reducible refine gD_ 3 rfl ?_);refine bx_ #[.int .i64 a1_0,.int .i64 a1_1,.int .i64 a1_2,.int .i64 a1_3] 36 ?_;intro a5 hg w6 hbox hb;have a1:=Z_ hbox;have a6:=Z_ ((by rw [hg];exact (below_size HB.out) : w.heap.size ≤ a5));replace HB:=Z_ (lP_ HB.out hb);clear hb hbox hg) | ((with_reducible refine gD_ 4 rfl ?_);refine bx_ #[.int .i64 0,.int .i64 0,.slice none 0 0] 33 ?_;intro a2 hg w7 hbox hb;have a0:=Z_ hbox;have a7:=Z_ ((by rw [hg];exact (below_size HB.out) : w.heap.size ≤ a2));replace HB:=Z_ (lP_ HB.out hb);have a3:=Z_ ((by rw [hg];exact Nat.ne_of_lt (blk_lt a1.out) : a5 ≠ a2));replace a1:=Z_ (bB_ a1.out hb);have a4:=Z_ a3.out.symm;clear hb hbox hg) | ((with_reducible refine gate_callee (f:=51) rfl ?_);refine goesA_ (some 7) rfl rfl Try.func51 (by kernel_rfl) rfl #[.slice A0 l0.length c0] rfl ?_;(with_reducible refine (spec_TermsFault.calls k _ _ l0 t303 _ ?side1 ?side2 A3.out).mono ?_);(case side1 => exact Cb_ a9);(case side2 => exact aa.out);rintro e w8 ⟨rfl,hb⟩;refine ⟨_,rfl,?_⟩;replace a1:=Z_ (bB_ a1.out hb);replace a0:=Z_ (bB_ a0.out hb);replace HB:=Z_ (lP_ HB.out hb);(try clear hb);have ah:=a3.out;have ai:=a4.out;obtain ⟨_,_,_,_,_,_,_,_⟩:=bc4 a1.out) | ((with_reducible refine gate_callee (f:=52) rfl ?_);refine goesA_ (some 14) rfl rfl Try.func52 (by kernel_rfl) rfl #[.slice A0 l0.length c0,.agg #[.int .i64 a1_0,.int .i64 a1_1,.int .i64 a1_2,.int .i64 a1_3]] rfl ?_;(with_reducible refine (spec_l5Put.calls k _ _ l0 a1_0 a1_1 a1_2 a1_3 t304 t305 t306 _ ?side1 ?side2 A5.out).mono ?_);(case side1 => exact Cb_ a9);(case side2 => exact aa.out);rintro e w11 ⟨v307,rfl,ho0,hb⟩;refine ⟨_,rfl,?_⟩;have a8:=Z_ (Kd.R_lower (Kd.R_newB ho0 a1.out) (below_size HB.out));replace a0:=Z_ (bB_ a0.out hb);replace HB:=Z_ (lP_ HB.out hb);(try clear hb);(try clear ho0);obtain ⟨_,_,_,_,_,_⟩:=bc3 a0.out;obtain ⟨ad,ae,eo13⟩:=Kd.R_slice a8.out;subst eo13))
 refine bodyPost_ret (results_cell_row rfl _ _ a2 33 #[.int .i64 t304,.int .i64 t305,.slice ad t306.length ae] (0,0) _ rfl (by (with_reducible repeat first | apply bN_ | apply bD_ | apply bA_);apply fill3;(with_reducible repeat first | apply bN_ | apply bD_ | apply bA_);exact a0.out) Try.underlying33 rfl (by kernel_rfl)) rfl ?_
 exact ⟨_,Er_,by (with_reducible repeat first | apply rA_ | apply rN_ | apply rD_);exact Kd.R_mono (rfar3 (g:=a2) (Kd.R_types a8.out a0.out (by decide)) (fun _ hk => hk.2)) (fun _ hk => trivial),Lb_⟩
def impl_isPlace.f (l0 : List (S36)) (a1 : Int) : Option (Bool):=(impl_in.f a1 0 (wrap64 ((l0.length : Int) - 1))).bind fun t309 => (some t309)
set_option maxHeartbeats 8000000 in
set_option maxRecDepth 100000 in
theorem impl_isPlace.calls (A0 : Option Addr) (c0 : Nat) (l0 : List (S36)) (a1 : Int) (r : Bool) (w : World) (hr0 : Kd.C k36 w A0 l0.length l0) (hc0 : l0.length ≤ c0) (h : impl_isPlace.f l0 a1 = some r) :
  Calls Try.prog 54 #[.slice A0 l0.length c0,.int .i64 a1] w fun e w' => e = .returned (.bool r) ∧ Drawn0 w w':=by
 have HR0:=Z_ hr0
 have HC0:=Z_ hc0
 clear hr0 hc0
 unfold impl_isPlace.f at h
 have H:=h
 clear h
 replace H:=bS_ H
 obtain ⟨t309,A3,H⟩:=H
 obtain rfl:=Option.some.inj H
 go_enter Try.func54,Try.ntmps54
 go_wp2_with (first | ((with_reducible refine gate_callee (f:=88) rfl ?_);refine goesA_ (some 9) rfl rfl Try.func88 (by kernel_rfl) rfl #[.int .i64 a1,.int .i64 0,.int .i64 (wrap64 ((l0.length : Int) - 1))] rfl ?_;(with_reducible refine (impl_in.calls a1 0 (wrap64 ((l0.length : Int) - 1)) t309 _ A3.out).mono ?_);rintro e w' ⟨rfl,⟨nd,rfl⟩⟩;refine ⟨_,rfl,?_⟩))
 go_ret
 exact ⟨by first | rfl | (simp;done) | (simp [*];done),by repeat (first | exact Drawn0.refl _ | apply Drawn0.step)⟩
def impl_KnownFault.l0 : Nat → List (S36) → List Int → List Int → Int → Int → Option (Int)
 | 0,_,_,_,_,_ => none
 | k + 1,x0,x1,x16,x17,x18 => if x18 < x17 then (if 0 ≤ x18 then (if x18 < (x16.length : Int) then ((impl_isPlace.f x0 (rd x16 x18)).bind fun t312 => (if t312 = true then (if x18 > 0 then (if 0 ≤ (wrap64 (x18 - 1)) then (if (wrap64 (x18 - 1)) < (x1.length : Int) then (if (rd x1 (wrap64 (x18 - 1))) ≥ (rd x16 x18) then (some 1) else (impl_KnownFault.l0 k x0 x1 x16 x17 (wrap64 (x18 + 1)))) else (none)) else (none)) else (impl_KnownFault.l0 k x0 x1 x16 x17 (wrap64 (x18 + 1)))) else (some 3))) else (none)) else (none)) else (some 0)
def impl_KnownFault.f (k : Nat) (l0 : List (S36)) (l1 : List Int) : Option (Int):=(impl_TermsFault.f l0).bind fun t310 => (if t310 = 0 then (if (l1.length : Int) > 400 then (some 2) else (impl_KnownFault.l0 k l0 l1 l1 (l1.length : Int) 0)) else (some t310))
set_option maxHeartbeats 8000000 in
set_option maxRecDepth 100000 in
theorem impl_KnownFault.calls (k : Nat) (A0 : Option Addr) (c0 : Nat) (l0 : List (S36)) (A1 : Option Addr) (c1 : Nat) (l1 : List Int) (r : Int) (w : World) (hr0 : Kd.C k36 w A0 l0.length l0) (hc0 : l0.length ≤ c0) (hr1 : Kd.C (Kd.int .i64) w A1 l1.length l1) (hc1 : l1.length ≤ c1) (h : impl_KnownFault.f k l0 l1 = some r) :
  Calls Try.prog 53 #[.slice A0 l0.length c0,.slice A1 l1.length c1] w fun e w' => e = .returned (.int .i64 r) ∧ Below w.heap.size w w':=by
 have a0:=Z_ hr0
 have a1:=Z_ hc0
 clear hr0 hc0
 have a2:=Z_ hr1
 have a6:=Z_ hc1
 clear hr1 hc1
 have HB:=Z_ (Below.refl w.heap.size w)
 unfold impl_KnownFault.f at h
 have H:=h
 clear h
 replace H:=bS_ H
 obtain ⟨t310,A3,H⟩:=H
 replace H:=iC_ H
 obtain ⟨c4,H⟩ | ⟨c4,H⟩:=H
 rotate_left
 focus
  have c4b0 : (t310 == 0) = false:=beq_eq_false_iff_ne.mpr c4
  have c4b1 : (t310 != 0) = true:=bne_iff_ne.mpr c4
 rotate_right
 have c4b0 : (t310 == 0) = true:=beq_iff_eq.mpr c4
 have c4b1 : (t310 != 0) = false:=bne_eq_false_iff_eq.mpr c4
 clear c4
 replace H:=iC_ H
 obtain ⟨c5,H⟩ | ⟨c5,H⟩:=H
 focus
  have c5b0 : decide (400 < (l1.length : Int)) = true:=decide_eq_true c5
  have c5b1 : decide (400 < l1.length) = true:=decide_eq_true (by omega)
  clear c5
 rotate_left
 ·have c5b0 : decide (400 < (l1.length : Int)) = false:=decide_eq_false c5
  have c5b1 : decide (400 < l1.length) = false:=decide_eq_false (by omega)
  clear c5
  have H':=Z_ H
  clear H
  go_enter Try.func53,Try.ntmps53
  go_wp2_with (first | ((with_reducible refine gate_callee (f:=13) rfl ?_);refine goesA_ (some 9) rfl rfl Try.func13 (by kernel_rfl) rfl #[.slice A0 l0.length c0] rfl ?_;(with_reducible refine (impl_TermsFault.calls _ _ l0 t310 _ ?side1 ?side2 A3.out).mono ?_);(case side1 => repeat (first | exact a0.out | (with_reducible refine Kd.C_alloc ?_ _) | (with_reducible refine Kd.C_drewN ?_ _) | (with_reducible refine Kd.C_drew ?_)));(case side2 => exact a1.out);rintro e w7 ⟨rfl,hb⟩;refine ⟨_,rfl,?_⟩;replace HB:=Z_ (lP_ Lb_ hb);(try clear hb)))
  go_loopg [18] k (fun kq v18 w' => ∃ (x18_1 : Int),v18 = .int .i64 x18_1 ∧ Aside0 (impl_KnownFault.l0 kq l0 l1 l1 (l1.length : Int) x18_1 = some r) ∧ Aside0 (kq ≤ k) ∧ Aside0 (Below w.heap.size w w'))
  case atStart => exact ⟨(0),Sr_,H',⟨Nat.le_refl _⟩,⟨Lb_⟩⟩
  case round =>
   clear H'
   try clear c1
   try clear p2
   try clear c4
   try clear c4b0
   try clear c4b1
   try clear c5
   try clear c5b0
   try clear c5b1
   obtain ⟨x18_1,rfl,HA,HK1,HB⟩:=hrel
   cases gk with
   | zero => exact absurd HA.out (by simp [impl_KnownFault.l0])
   | succ k1 =>
    have H:=HA.out
    clear HA
    simp only [impl_KnownFault.l0] at H
    replace H:=iD_ H
    obtain ⟨c8b0,H⟩ | ⟨c8b0,H⟩:=H
    rotate_left
    ·obtain rfl:=Option.some.inj H
     go_wp2
     go_ret
     exact ⟨Er_,Lb_⟩
    rotate_right
    replace H:=iM_ H
    obtain ⟨c9b0,H⟩:=H
    replace H:=iM_ H
    obtain ⟨c10b0,H⟩:=H
    replace H:=bS_ H
    obtain ⟨t312,a3,H⟩:=H
    replace H:=iB_ H
    obtain ⟨rfl,H⟩ | ⟨rfl,H⟩:=H
    rotate_left
    ·obtain rfl:=Option.some.inj H
     have p311 : 0 ≤ (x18_1 : Int):=dA_
     have q311 : x18_1 < (l1.length : Int):=dA_
     obtain ⟨ad311,e311,hx311_0⟩:=Kd.at_int a2.out x18_1 p311 q311
     cases e311
     replace hx311_0:=cB_ HB hx311_0
     replace p311:=eq_true p311
     replace q311:=eq_true q311
     go_wp2_with (first | ((with_reducible refine gate_callee (f:=54) rfl ?_);refine goesA_ (some 26) rfl rfl Try.func54 (by kernel_rfl) rfl #[.slice A0 l0.length c0,.int .i64 (rd l1 x18_1)] rfl ?_;(with_reducible refine (impl_isPlace.calls _ _ l0 (rd l1 x18_1) false _ ?side1 ?side2 a3.out).mono ?_);(case side1 => exact Cb_ a0);(case side2 => exact a1.out);rintro e w' ⟨rfl,⟨nd,rfl⟩⟩;refine ⟨_,rfl,?_⟩))
     go_ret
     exact ⟨Er_,Lb_⟩
    rotate_right
    replace H:=iD_ H
    obtain ⟨c13b0,H⟩ | ⟨c13b0,H⟩:=H
    rotate_left
    focus replace c13b0 : decide (0 < x18_1) = false:=c13b0
    rotate_right
    replace c13b0 : decide (0 < x18_1) = true:=c13b0
    obtain ⟨ji14,hji14⟩ : ∃ j_ : Int,(wrap64 (x18_1 - 1)) = j_:=⟨_,rfl⟩
    replace H : (if 0 ≤ (ji14) then (if (ji14) < (l1.length : Int) then (if (rd l1 (ji14)) ≥ (rd l1 x18_1) then (some 1) else (impl_KnownFault.l0 k1 l0 l1 l1 (l1.length : Int) (wrap64 (x18_1 + 1)))) else (none)) else (none)) = some r:=by first | (rw [hji14] at H;exact H) | (simp only [hji14] at H ⊢;exact H)
    (try rw [hji14] at a3)
    have hji14w : (IntKind.i64.wrap (x18_1 - 1)) = ji14:=(i64_w _).trans hji14
    replace H:=iM_ H
    obtain ⟨c15b0,H⟩:=H
    replace H:=iM_ H
    obtain ⟨c16b0,H⟩:=H
    replace H:=iD_ H
    obtain ⟨c17b0,H⟩ | ⟨c17b0,H⟩:=H
    rotate_left
    focus replace c17b0 : decide ((rd l1 x18_1) ≤ (rd l1 (ji14))) = false:=c17b0
    rotate_right
    ·replace c17b0 : decide ((rd l1 x18_1) ≤ (rd l1 (ji14))) = true:=c17b0
     obtain rfl:=Option.some.inj H
     have p311 : 0 ≤ (x18_1 : Int):=dA_
     have q311 : x18_1 < (l1.length : Int):=dA_
     obtain ⟨ad311,e311,hx311_0⟩:=Kd.at_int a2.out x18_1 p311 q311
     cases e311
     replace hx311_0:=cB_ HB hx311_0
     replace p311:=eq_true p311
     replace q311:=eq_true q311
     go_wp2_with (first | ((with_reducible refine gate_callee (f:=54) rfl ?_);refine goesA_ (some 26) rfl rfl Try.func54 (by kernel_rfl) rfl #[.slice A0 l0.length c0,.int .i64 (rd l1 x18_1)] rfl ?_;(with_reducible refine (impl_isPlace.calls _ _ l0 (rd l1 x18_1) true _ ?side1 ?side2 a3.out).mono ?_);(case side1 => exact Cb_ a0);(case side2 => exact a1.out);rintro e w' ⟨rfl,⟨nd,rfl⟩⟩;refine ⟨_,rfl,?_⟩;have p313 : 0 ≤ ((ji14) : Int):=dA_;have q313 : (ji14) < (l1.length : Int):=dA_;obtain ⟨ad313,e313,hx313_0⟩:=Kd.at_int a2.out (ji14) p313 q313;obtain rfl : ad311 = ad313:=(by injection e313);replace hx313_0:=cB_ HB hx313_0;replace p313:=eq_true p313;replace q313:=eq_true q313))
     go_ret
     exact ⟨by first | rfl | (simp [errW_none,errW_some] <;> rfl) | (simp only [← hji14];first | rfl | (simp [errW_none,errW_some] <;> rfl)) | (simp [*,errW_none,errW_some] <;> rfl),Lb_⟩
    all_goals
     have H':=Z_ H
     clear H
     have p311 : 0 ≤ (x18_1 : Int):=dA_
     have q311 : x18_1 < (l1.length : Int):=dA_
     obtain ⟨ad311,e311,hx311_0⟩:=Kd.at_int a2.out x18_1 p311 q311
     cases e311
     replace hx311_0:=cB_ HB hx311_0
     replace p311:=eq_true p311
     replace q311:=eq_true q311
     go_wp2_with (first | ((with_reducible refine gate_callee (f:=54) rfl ?_);refine goesA_ (some 26) rfl rfl Try.func54 (by kernel_rfl) rfl #[.slice A0 l0.length c0,.int .i64 (rd l1 x18_1)] rfl ?_;(with_reducible refine (impl_isPlace.calls _ _ l0 (rd l1 x18_1) _ _ ?side1 ?side2 a3.out).mono ?_);(case side1 => exact Cb_ a0);(case side2 => exact a1.out);rintro e w' ⟨rfl,⟨nd,rfl⟩⟩;refine ⟨_,rfl,?_⟩;have p313 : 0 ≤ ((ji14) : Int):=dA_;have q313 : (ji14) < (l1.length : Int):=dA_;obtain ⟨ad313,e313,hx313_0⟩:=Kd.at_int a2.out (ji14) p313 q313;obtain rfl : ad311 = ad313:=(by injection e313);replace hx313_0:=cB_ HB hx313_0;replace p313:=eq_true p313;replace q313:=eq_true q313) | ((with_reducible refine gate_callee (f:=54) rfl ?_);refine goesA_ (some 26) rfl rfl Try.func54 (by kernel_rfl) rfl #[.slice A0 l0.length c0,.int .i64 (rd l1 x18_1)] rfl ?_;(with_reducible refine (impl_isPlace.calls _ _ l0 (rd l1 x18_1) _ _ ?side1 ?side2 a3.out).mono ?_);(case side1 => exact Cb_ a0);(case side2 => exact a1.out);rintro e w' ⟨rfl,⟨nd,rfl⟩⟩;refine ⟨_,rfl,?_⟩))
     go_roundg k1
     case measure => have:=HK1.out;omega
     case rel => exact ⟨_,Sr_,H',⟨by have:=HK1.out;omega⟩,⟨Lb_⟩⟩
 all_goals
  obtain rfl:=Option.some.inj H
  go_enter Try.func53,Try.ntmps53
  go_wp2_with (first | ((with_reducible refine gate_callee (f:=13) rfl ?_);refine goesA_ (some 9) rfl rfl Try.func13 (by kernel_rfl) rfl #[.slice A0 l0.length c0] rfl ?_;(with_reducible refine (impl_TermsFault.calls _ _ l0 t310 _ ?side1 ?side2 A3.out).mono ?_);(case side1 => repeat (first | exact a0.out | (with_reducible refine Kd.C_alloc ?_ _) | (with_reducible refine Kd.C_drewN ?_ _) | (with_reducible refine Kd.C_drew ?_)));(case side2 => exact a1.out);rintro e w18 ⟨rfl,hb⟩;refine ⟨_,rfl,?_⟩;replace HB:=Z_ (lP_ Lb_ hb);(try clear hb)))
  go_ret
  exact ⟨Er_,Lb_⟩
def impl_flags.l0 : Nat → List Bool → List Int → Int → Int → Option (List Bool)
 | 0,_,_,_,_ => none
 | k + 1,x5,x11,x12,x13 => if x13 < x12 then (if 0 ≤ x13 then (if x13 < (x11.length : Int) then (if 0 ≤ (rd x11 x13) then (if (rd x11 x13) < (x5.length : Int) then (impl_flags.l0 k (x5.set ((rd x11 x13) : Int).toNat true) x11 x12 (wrap64 (x13 + 1))) else (none)) else (none)) else (none)) else (none)) else (some x5)
def impl_flags.f (k : Nat) (l0 : List (S36)) (l1 : List Int) : Option (List Bool):=if 0 ≤ (l0.length : Int) then (if ((l0.length : Int) : Int).toNat ≤ 281474976710656 then (impl_flags.l0 k (List.replicate ((l0.length : Int) : Int).toNat false) l1 (l1.length : Int) 0) else (none)) else (none)
set_option maxHeartbeats 8000000 in
set_option maxRecDepth 100000 in
theorem impl_flags.calls (k : Nat) (A0 : Option Addr) (c0 : Nat) (l0 : List (S36)) (A1 : Option Addr) (c1 : Nat) (l1 : List Int) (r : List Bool) (w : World) (hr0 : Kd.C k36 w A0 l0.length l0) (hc0 : l0.length ≤ c0) (hr1 : Kd.C (Kd.int .i64) w A1 l1.length l1) (hc1 : l1.length ≤ c1) (h : impl_flags.f k l0 l1 = some r) :
  Calls Try.prog 97 #[.slice A0 l0.length c0,.slice A1 l1.length c1] w fun e w' => ∃ v0_ : Value,e = .returned (v0_) ∧ Kd.R Kd.bool 4 w' w.heap.size (fun _ => True) v0_ r ∧ Below w.heap.size w w':=by
 have a8:=Z_ hr0
 have a9:=Z_ hc0
 clear hr0 hc0
 have a7:=Z_ hr1
 have aa:=Z_ hc1
 clear hr1 hc1
 have HB:=Z_ (Below.refl w.heap.size w)
 unfold impl_flags.f at h
 have H:=h
 clear h
 replace H:=iN_ H
 obtain ⟨c3,H⟩:=H
 have c3b0:=eq_true c3
 have c3b1 : decide (0 ≤ (l0.length : Int)) = true:=decide_eq_true c3
 clear c3
 replace H:=iN_ H
 obtain ⟨c4,H⟩:=H
 have c4b0:=eq_true c4
 have c4b1 : decide (((l0.length : Int) : Int).toNat ≤ 281474976710656) = true:=decide_eq_true c4
 clear c4
 obtain ⟨y314,hy314⟩ : ∃ y_ : List Bool,y_ = (List.replicate ((l0.length : Int) : Int).toNat false):=⟨_,rfl⟩
 replace H : (impl_flags.l0 k y314 l1 (l1.length : Int) 0) = some r:=by first | (rw [hy314];with_reducible exact H) | (have H2_:=(Option.bind_some _ _).symm.trans H;rw [hy314];with_reducible exact H2_) | (have H2_:=(Option.bind_some _ _).symm.trans H;with_reducible exact H2_) | with_reducible exact H | (rw [hy314];exact H) | exact H
 have a1:=Z_ hy314
 clear hy314
 have H':=Z_ H
 clear H
 go_enter Try.func97,Try.ntmps97
 go_wp2_with (first | ((with_reducible refine gD_ 10 rfl ?_);refine Kd.R_make Kd.bool _ 4 rfl (N:=10) rfl 91 _ _ rfl (l0.length : Int) rfl rfl Try.underlying91 (.bool false) 1 info4 rfl (by decide) (by omega) false (ok:=fun _ => True) (okp:=fun _ => True) rfl (fun _ hk => hk) trivial (dA_) (Nat.le_trans (Nat.mul_le_mul_right _ (dA_ : (l0.length : Int).toNat ≤ 281474976710656)) (by omega)) (Below.refl _ _) (Nat.le_refl _) ?_;intro v315 w5 ho6 hb hg_ hnew_;clear hg_ hnew_;(first | rw [← a1.out] at ho6 | (simp only [Int.reduceToNat] at ho6;rw [← a1.out] at ho6));have a3:=Z_ (Kd.R_lower ho6 (below_size HB.out));replace HB:=Z_ (lP_ HB.out hb);clear hb ho6))
 go_loopg [13] k (fun kq v13 w' => ∃ (x5_1 : List Bool) (x13_1 : Int),v13 = .int .i64 x13_1 ∧ Aside0 (impl_flags.l0 kq x5_1 l1 (l1.length : Int) x13_1 = some r) ∧ Aside0 (kq ≤ k) ∧ Aside0 (Kd.R Kd.bool 4 w' w.heap.size (fun _ => True) v315 x5_1) ∧ Aside0 (Below w.heap.size w w'))
 case atStart => exact ⟨(y314),(0),Sr_,H',⟨Nat.le_refl _⟩,⟨Rk_ a3⟩,⟨Lb_⟩⟩
 case round =>
  clear H'
  try clear c1
  try clear p2
  try clear c3
  try clear c3b0
  try clear c3b1
  try clear c4
  try clear c4b0
  try clear c4b1
  obtain ⟨x5_1,x13_1,rfl,HA,HK1,a0,HB⟩:=hrel
  cases gk with
  | zero => exact absurd HA.out (by simp [impl_flags.l0])
  | succ k1 =>
   have H:=HA.out
   clear HA
   simp only [impl_flags.l0] at H
   replace H:=iD_ H
   obtain ⟨c7b0,H⟩ | ⟨c7b0,H⟩:=H
   rotate_left
   ·obtain rfl:=Option.some.inj H
    go_wp2
    go_ret
    exact ⟨_,Er_,Rk_ a0,Lb_⟩
   rotate_right
   replace H:=iM_ H
   obtain ⟨c8b0,H⟩:=H
   replace H:=iM_ H
   obtain ⟨c9b0,H⟩:=H
   replace H:=iM_ H
   obtain ⟨c10b0,H⟩:=H
   replace H:=iM_ H
   obtain ⟨c11b0,H⟩:=H
   obtain ⟨y318,hy318⟩ : ∃ y_ : List Bool,y_ = (x5_1.set ((rd l1 x13_1) : Int).toNat true):=⟨_,rfl⟩
   replace H : (impl_flags.l0 k1 y318 l1 (l1.length : Int) (wrap64 (x13_1 + 1))) = some r:=by first | (rw [hy318];with_reducible exact H) | (have H2_:=(Option.bind_some _ _).symm.trans H;rw [hy318];with_reducible exact H2_) | (have H2_:=(Option.bind_some _ _).symm.trans H;with_reducible exact H2_) | with_reducible exact H | (rw [hy318];exact H) | exact H
   have a4:=Z_ hy318
   clear hy318
   have H':=Z_ H
   clear H
   have p317 : 0 ≤ (x13_1 : Int):=dA_
   have q317 : x13_1 < (l1.length : Int):=dA_
   obtain ⟨ad317,e317,hx317_0⟩:=Kd.at_int a7.out x13_1 p317 q317
   cases e317
   replace hx317_0:=cB_ HB hx317_0
   replace p317:=eq_true p317
   replace q317:=eq_true q317
   have p12 : 0 ≤ ((rd l1 x13_1) : Int):=dA_
   have q12 : ((rd l1 x13_1) : Int) < ((x5_1.length : Int) : Int):=dA_
   obtain ⟨go12,a5,eo12,a2,gl12,cl12,HG12⟩:=Kd.R_form a0.out (by omega)
   (first | cases eo12 | (injection eo12 with ea_ en_ ec_;(first | subst ea_ | (injection ea_ with ea_;subst ea_));subst ec_;clear en_))
   have a6:=Z_ a2
   have GG12:=Z_ HG12
   clear a2 gl12 HG12
   obtain ⟨hx12_0,hf12_0⟩:=Kd.R_celln false a0.out ((rd l1 x13_1) : Int) p12 q12
   replace p12:=eq_true p12
   replace q12:=eq_true q12
   have HP13:=Kd.R_putg a0.out ((rd l1 x13_1) : Int) true
   go_wp2_with (first | ((with_reducible refine gate_store (t:=4) (p:=19) rfl ?_);refine store_event (t:=4) (p:=19) (v:=?vo_w14) (w1:=(wr.setCell ⟨go12,((rd l1 x13_1) : Int).toNat,none⟩ (.bool true))) ?hg ?ho ?hn ?hr ?_;(case ho => rfl);(case hg => rfl);(case hn => rfl);(case hr => first | (go_simp;done) | (go_simp;rfl));intro w14 hw;have hg : wr.grownBy w14 (some go12):=(by rw [hw];exact HP13.2);have hp_ : Kd.R Kd.bool 4 w14 w.heap.size (fun _ => True) (.slice (some ⟨go12,0,none⟩) x5_1.length a5) y318:=(by rw [hw,a4.out];exact HP13.1);clear HP13;replace a0:=Z_ (hp_);replace HB:=Z_ ((by rw [hw];exact lS1_ (HB.out) a6.out : Below w.heap.size w w14));clear hg hw hp_))
   go_roundg k1
   case measure => have:=HK1.out;omega
   case rel => exact ⟨(y318),(wrap64 (x13_1 + 1)),Sr_,H',⟨by have:=HK1.out;omega⟩,⟨Rk_ a0⟩,⟨Lb_⟩⟩
def slices_Clone_bool_bool.f (l0 : List (Bool)) : Option (List (Bool)):=if l0.length * 1 ≤ 140737488355328 then some l0 else none
set_option maxHeartbeats 4000000 in
set_option maxRecDepth 100000 in
theorem slices_Clone_bool_bool.calls (A0 : Option Addr) (c0 : Nat) (l0 r : List (Bool)) (w : World) (hr0 : Kd.C Kd.bool w A0 l0.length l0) (hc0 : l0.length ≤ c0) (h : slices_Clone_bool_bool.f l0 = some r) :
    Calls Try.prog 98 #[.slice A0 l0.length c0] w fun e w' => ∃ v0_ : Value,e = .returned (v0_) ∧ Kd.R Kd.bool 4 w' w.heap.size (fun _ => True) v0_ r ∧ Below w.heap.size w w':=by
 unfold slices_Clone_bool_bool.f at h
 by_cases hb : l0.length * 1 ≤ 140737488355328
 ·rw [if_pos hb] at h
  obtain rfl:=Option.some.inj h
  clear h
  have HL:=Z_ hb
  clear hb
  rcases A0 with _ | ad
  ·obtain rfl : l0 = []:=by
     rcases Nat.eq_zero_or_pos l0.length with h0 | h0
     · exact List.eq_nil_of_length_eq_zero h0
     · obtain ⟨_,h,_⟩:=hr0.2.2 h0
       cases h
   have hq:=fun (W : World) => Lib.run_eql_slice_nil (P:=Try.prog) W 91 4 none 0 c0 0 0 Try.underlying91
   clear hr0
   go_enter Try.func98,Try.ntmps98
   go_wp2
   go_ret
   exact ⟨_,rfl,Kd.R_nil _ _ _ _ _,Below.refl _ _⟩
  ·have HR:=Z_ hr0
   clear hr0
   have HB:=Z_ (Below.refl w.heap.size w)
   have hq:=fun (W : World) => Lib.run_eql_slice_nil (P:=Try.prog) W 91 4 (some ad) l0.length c0 0 0 Try.underlying91
   go_enter Try.func98,Try.ntmps98
   go_wp2_with (first | ((with_reducible refine gD_ 5 rfl ?_);refine Kd.R_lit Kd.bool _ 4 ?hg (N:=5) ?hd (xs:=([] : List (Bool))) (inner:=[]) (ok:=fun _ => True) (okp:=fun _ => True) ?hr ?hp (fun _ hk => hk) trivial (Below.refl _ _) (Nat.le_refl _) (by simp) ?_;(case hd => rfl);(case hg => rfl);(case hr => first | (go_simp;done) | (go_simp;rfl));(case hp => exact (Reps.none _ _));intro v103 w3 ho4 hb hg_ hnew_;clear hg_ hnew_;have HO104:=Z_ (Kd.R_lower ho4 (below_size HB.out));replace HR:=Z_ (Kd.C_below HR.out (by first | exact hb | exact lP_ HB.out hb));replace HB:=Z_ (lP_ HB.out hb);clear hb ho4) | ((with_reducible refine gate_builtin (b:=.append) (xs:=#[.tmp 5,.tmp 6]) rfl ?_);at_builtin;refine Kd.R_append_rows Kd.bool (Rr:=Kd.bool.K w3) (w0:=w) w.heap.size rfl (.tmp 5) (.tmp 6) 91 4 (.bool false) 1 rfl Try.underlying91 info4 rfl (by decide) (by omega) v103 [] l0 (some ad) l0.length c0 (fun _ => True) (fun _ => False) rfl rfl ?aO ?aR (fun _ _ h => h) (fun _ hk => hk.elim) (fun _ _ => trivial) ?aB ?aS ?aL ?_;(case aO => exact HO104.out);(case aR => exact HR.out);(case aB => exact HB.out);(case aS => exact below_size HB.out);(case aL => have:=HL.out;simp;omega);intro v106 w10 ho hb hg hat;replace HB:=Z_ (hb);have HO107:=Z_ (ho);clear HO104 ho hb hg hat))
   go_ret
   exact ⟨_,rfl,HO107.out,HB.out⟩
 ·rw [if_neg hb] at h;cases h
end Go.Proofs.Ytpabeajjbifjdaa.G
namespace Go.Proofs.Ytpabeajjbifjdaa.G
open Go.RowKit Go.Proofs.YtpabeajjbifjdaaW.PrintWords Go.Proofs.YtpabeajjbifjdaaW.PrintLast Go.Proofs.YtpabeajjbifjdaaW.PrintMore
attribute [local go_sem] max2_int min2_int max_two min_two max_three min_three max_four min_four   -- for this text's walks alone
set_option linter.unusedVariables false
set_option linter.unusedSimpArgs false
section
open Go.Shelf
attribute [local go_sem] Oper.semAt_some
theorem add_blockT_ (a : Addr) (j : Nat) : (a.add j).block = a.block:=by unfold Addr.add;split <;> rfl
theorem cell_blockT_ {A B : World} {p : Addr} (h : B.heap[p.block]? = A.heap[p.block]?) : B.cell? p = A.cell? p:=by simp only [World.cell?,h]
set_option maxRecDepth 100000 in
set_option maxHeartbeats 2000000 in
theorem backward1T_in (n : Nat) (hn : 1 ≤ n) (l Bs cap : Nat) (A : Option Addr) (ad : Addr) (zs : List S36) (hz : zs.length ≤ 9223372036854775807) (J Jx : List Nat → World → Prop)
    (hY : ∀ pre x W,J pre W → pre.length < zs.length → YieldAt Fence.wide (n - 1) Try.prog l #[.int .i64 ((zs.length - 1 - x : Nat) : Int),.agg #[.int .i64 (rd_T36 zs ((zs.length - 1 - x : Nat) : Int)).f0,.int .i64 (rd_T36 zs ((zs.length - 1 - x : Nat) : Int)).f1,.int .i64 (rd_T36 zs ((zs.length - 1 - x : Nat) : Int)).f2,.int .i64 (rd_T36 zs ((zs.length - 1 - x : Nat) : Int)).f3]] W fun e W' =>
      (e = .returned (.bool true) ∧ J (pre ++ [x]) W' ∧ (W'.heap[Bs]? = W.heap[Bs]? ∧ W'.heap[ad.block]? = W.heap[ad.block]?)) ∨ (e = .returned (.bool false) ∧ Jx (pre ++ [x]) W'))
    (W : World) (hA : 0 < zs.length → A = some ad) (hBs : W.cell? ⟨Bs,0,none⟩ = some (.slice A zs.length cap)) (hc : ∀ j,j < zs.length → (W.cell? (ad.add (j * 4)) = some (.int .i64 (rd_T36 zs ((j : Nat) : Int)).f0) ∧ W.cell? ⟨(ad.add (j * 4)).block,(ad.add (j * 4)).off + 1,none⟩ = some (.int .i64 (rd_T36 zs ((j : Nat) : Int)).f1) ∧ W.cell? ⟨(ad.add (j * 4)).block,(ad.add (j * 4)).off + 2,none⟩ = some (.int .i64 (rd_T36 zs ((j : Nat) : Int)).f2) ∧ W.cell? ⟨(ad.add (j * 4)).block,(ad.add (j * 4)).off + 3,none⟩ = some (.int .i64 (rd_T36 zs ((j : Nat) : Int)).f3))) (h0 : J [] W) :
    CallsIn Fence.wide n Try.prog 117 #[.func (.yield l) #[] #[],.pointer (some ⟨Bs,0,none⟩)] W fun e W' => (∃ v,e = .returned v) ∧
      ((∃ ys,ys = List.range zs.length ∧ J ys W') ∨ (∃ pre,True ∧ Jx pre W')):=by
  refine callsIn_of_wp Try.func117 rfl trivial ?_ rfl
  simp only [Try.ntmps117,List.size_toArray,List.length_cons,List.length_nil,Nat.reduceAdd,Nat.reduceSub,Array.replicate_succ,Array.replicate_zero,List.push_toArray,List.append_toArray,List.nil_append,List.cons_append]
  gi_wp2
  gi_loopw [3] (fun i wr => ∃ k : Nat,k ≤ zs.length ∧ i = .int .i64 ((zs.length : Int) - 1 - k) ∧ J (List.range k) wr ∧ (wr.heap[Bs]? = W.heap[Bs]? ∧ wr.heap[ad.block]? = W.heap[ad.block]?))
    (fun i _ => (intOf i + 1).toNat)
  case atStart => exact ⟨0,Nat.zero_le _,by first | (simp;done) | (congr 1;unfold wrap64;omega),h0,rfl,rfl⟩
  case round =>
    obtain ⟨k,hk,rfl,hJs,hnx1,hnx2⟩:=hrel
    have hBr : wr.cell? ⟨Bs,0,none⟩ = some (.slice A zs.length cap):=by rw [← hBs];simp only [World.cell?,hnx1]
    by_cases hlt : k < zs.length
    · obtain rfl:=hA (by omega)
      obtain ⟨fn,tmps,assign,body,hy,hR⟩:=hY _ k wr hJs (by rw [List.length_range];exact hlt)
      try dsimp only at hy
      obtain ⟨hd0,hd1,hd2,hd3⟩:=hc (zs.length - 1 - k) (by omega)
      replace hd0:=(cell_blockT_ (A:=W) (B:=wr) (p:=(ad.add ((zs.length - 1 - k) * 4))) (by first | (rw [add_blockT_];exact hnx2) | (show wr.heap[(ad.add ((zs.length - 1 - k) * 4)).block]? = W.heap[(ad.add ((zs.length - 1 - k) * 4)).block]?;rw [add_blockT_];exact hnx2))).trans hd0
      replace hd1:=(cell_blockT_ (A:=W) (B:=wr) (p:=⟨(ad.add ((zs.length - 1 - k) * 4)).block,(ad.add ((zs.length - 1 - k) * 4)).off + 1,none⟩) (by first | (rw [add_blockT_];exact hnx2) | (show wr.heap[(ad.add ((zs.length - 1 - k) * 4)).block]? = W.heap[(ad.add ((zs.length - 1 - k) * 4)).block]?;rw [add_blockT_];exact hnx2))).trans hd1
      replace hd2:=(cell_blockT_ (A:=W) (B:=wr) (p:=⟨(ad.add ((zs.length - 1 - k) * 4)).block,(ad.add ((zs.length - 1 - k) * 4)).off + 2,none⟩) (by first | (rw [add_blockT_];exact hnx2) | (show wr.heap[(ad.add ((zs.length - 1 - k) * 4)).block]? = W.heap[(ad.add ((zs.length - 1 - k) * 4)).block]?;rw [add_blockT_];exact hnx2))).trans hd2
      replace hd3:=(cell_blockT_ (A:=W) (B:=wr) (p:=⟨(ad.add ((zs.length - 1 - k) * 4)).block,(ad.add ((zs.length - 1 - k) * 4)).off + 3,none⟩) (by first | (rw [add_blockT_];exact hnx2) | (show wr.heap[(ad.add ((zs.length - 1 - k) * 4)).block]? = W.heap[(ad.add ((zs.length - 1 - k) * 4)).block]?;rw [add_blockT_];exact hnx2))).trans hd3
      generalize hxk : rd_T36 zs ((zs.length - 1 - k : Nat) : Int) = xk at hd0 hd1 hd2 hd3 hy hR
      have hi : (zs.length : Int) - 1 - k = ((zs.length - 1 - k : Nat) : Int):=by omega
      rw [hi]
      have hge : decide (((zs.length - 1 - k : Nat) : Int) ≥ 0) = true:=decide_eq_true (by omega)
      have hlt2 : ((zs.length - 1 - k : Nat) : Int) < (zs.length : Int):=by omega
      gi_wp2
      refine hR.mono ?_
      rintro e W3 (⟨rfl,hJ3,hk3,hk4⟩ | ⟨rfl,hJx3⟩)
      · gi_wp2
        go_roundw
        case rel => exact ⟨k + 1,by omega,by first | (congr 1;first | omega | (unfold wrap64;omega)) | (simp;omega),by rw [List.range_succ];exact hJ3,hk3.trans hnx1,hk4.trans hnx2⟩
        case measure => first | (simp [intOf];done) | (simp [intOf];omega)
      · gi_wp2
        refine bodyPost_ret (results_none rfl _ _ _) rfl ?_
        exact ⟨⟨_,rfl⟩,.inr ⟨_,trivial,hJx3⟩⟩
    · obtain rfl : k = zs.length:=by omega
      have hi : (zs.length : Int) - 1 - (zs.length : Int) = -1:=by omega
      rw [hi]
      gi_wp2
      go_end0
      exact ⟨⟨_,rfl⟩,.inl ⟨_,rfl,hJs⟩⟩
set_option maxHeartbeats 1000000 in
theorem backwardT_in (a : Option Addr) (len cap : Nat) (w : World) :
    Calls Try.prog 99 #[.slice a len cap] w fun e w' => e = .returned (.func (.func 117) #[] #[.pointer (some ⟨w.heap.size,0,none⟩)]) ∧ w' = w.alloc (.cells #[.slice a len cap] 24):=by
  have hmf : ∀ (fn : Fn) (first cap : Array Value) (w : World),(Instr.makeFunc fn first cap).run Try.prog w = .ok (.func fn first cap) w:=fun _ _ _ _ => rfl
  go_enter Try.func99,Try.ntmps99
  go_wp2
  go_ret
  exact ⟨rfl,rfl⟩
theorem backwardT_stops (n : Nat) (hn : 1 ≤ n) (Bs cap : Nat) (A : Option Addr) (ad : Addr) (zs : List S36) (hz : zs.length ≤ 9223372036854775807) (w : World) (hA : 0 < zs.length → A = some ad) (hBs : w.cell? ⟨Bs,0,none⟩ = some (.slice A zs.length cap)) (hb : ad.block < w.heap.size) (hc : ∀ j,j < zs.length → (w.cell? (ad.add (j * 4)) = some (.int .i64 (rd_T36 zs ((j : Nat) : Int)).f0) ∧ w.cell? ⟨(ad.add (j * 4)).block,(ad.add (j * 4)).off + 1,none⟩ = some (.int .i64 (rd_T36 zs ((j : Nat) : Int)).f1) ∧ w.cell? ⟨(ad.add (j * 4)).block,(ad.add (j * 4)).off + 2,none⟩ = some (.int .i64 (rd_T36 zs ((j : Nat) : Int)).f2) ∧ w.cell? ⟨(ad.add (j * 4)).block,(ad.add (j * 4)).off + 3,none⟩ = some (.int .i64 (rd_T36 zs ((j : Nat) : Int)).f3))) :
    SeqStopsK Fence.wide n Try.prog 117 #[.pointer (some ⟨Bs,0,none⟩)] (fun x : Nat => #[Value.int .i64 ((zs.length - 1 - x : Nat) : Int),.agg #[.int .i64 (rd_T36 zs ((zs.length - 1 - x : Nat) : Int)).f0,.int .i64 (rd_T36 zs ((zs.length - 1 - x : Nat) : Int)).f1,.int .i64 (rd_T36 zs ((zs.length - 1 - x : Nat) : Int)).f2,.int .i64 (rd_T36 zs ((zs.length - 1 - x : Nat) : Int)).f3]]) (fun A B => B.heap[Bs]? = A.heap[Bs]? ∧ B.heap[ad.block]? = A.heap[ad.block]?) (fun ys => ys = List.range zs.length) (fun _ => True) zs.length w:=fun l J Jx W hW _ _ hY h0 => by
  have hBs':=(hW.cell (p:=⟨Bs,0,none⟩) (World.block_lt_of_cell? w _ hBs)).trans hBs
  refine (backward1T_in n hn l Bs cap A ad zs hz J Jx hY W hA hBs' (fun j hj => ⟨(hW.cell (by rw [add_blockT_];exact hb)).trans (hc j hj).1,(hW.cell (by show (ad.add (j * 4)).block < _;rw [add_blockT_];exact hb)).trans (hc j hj).2.1,(hW.cell (by show (ad.add (j * 4)).block < _;rw [add_blockT_];exact hb)).trans (hc j hj).2.2.1,(hW.cell (by show (ad.add (j * 4)).block < _;rw [add_blockT_];exact hb)).trans (hc j hj).2.2.2⟩) h0).mono ?_
  rintro e W' ⟨he,⟨ys,rfl,hj⟩ | ⟨pre,_,hj⟩⟩
  · exact ⟨he,.inl ⟨_,rfl,hj⟩⟩
  · exact ⟨he,.inr ⟨_,trivial,hj⟩⟩
end
end Go.Proofs.Ytpabeajjbifjdaa.G
namespace Go.Proofs.Ytpabeajjbifjdaa.G
open Go.RowKit Go.Proofs.YtpabeajjbifjdaaW.PrintWords Go.Proofs.YtpabeajjbifjdaaW.PrintLast Go.Proofs.YtpabeajjbifjdaaW.PrintMore
attribute [local go_sem] max2_int min2_int max_two min_two max_three min_three max_four min_four   -- for this text's walks alone
set_option linter.unusedVariables false
set_option linter.unusedSimpArgs false
def slices_Equal_bool_bool.l0 : Nat → List Bool → List Bool → Int → Int → Option (Bool)
 | 0,_,_,_,_ => none
 | k + 1,x0,x1,x12,x13 => if x13 < x12 then (if 0 ≤ x13 then (if x13 < (x0.length : Int) then (if x13 < (x1.length : Int) then (if ((rdOf false x0 x13) != (rdOf false x1 x13)) = true then (some false) else (slices_Equal_bool_bool.l0 k x0 x1 x12 (wrap64 (x13 + 1)))) else (none)) else (none)) else (none)) else (some true)
def slices_Equal_bool_bool.f (k : Nat) (l0 : List Bool) (l1 : List Bool) : Option (Bool):=if (l0.length : Int) = (l1.length : Int) then (slices_Equal_bool_bool.l0 k l0 l1 (l0.length : Int) 0) else (some false)
set_option maxHeartbeats 8000000 in
set_option maxRecDepth 100000 in
theorem slices_Equal_bool_bool.calls (k : Nat) (A0 : Option Addr) (c0 : Nat) (l0 : List Bool) (A1 : Option Addr) (c1 : Nat) (l1 : List Bool) (r : Bool) (w : World) (hr0 : Kd.C Kd.bool w A0 l0.length l0) (hc0 : l0.length ≤ c0) (hr1 : Kd.C Kd.bool w A1 l1.length l1) (hc1 : l1.length ≤ c1) (h : slices_Equal_bool_bool.f k l0 l1 = some r) :
  Calls Try.prog 100 #[.slice A0 l0.length c0,.slice A1 l1.length c1] w fun e w' => e = .returned (.bool r) ∧ Drawn0 w w':=by
 have a0:=Z_ hr0
 have a2:=Z_ hc0
 clear hr0 hc0
 have a1:=Z_ hr1
 have a3:=Z_ hc1
 clear hr1 hc1
 unfold slices_Equal_bool_bool.f at h
 have H:=h
 clear h
 replace H:=iC_ H
 obtain ⟨c3,H⟩ | ⟨c3,H⟩:=H
 rotate_left
 ·have c3b0 : ((l0.length : Int) == (l1.length : Int)) = false:=beq_eq_false_iff_ne.mpr c3
  have c3b1 : ((l0.length : Int) != (l1.length : Int)) = true:=bne_iff_ne.mpr c3
  have c3b2 : (l0.length == l1.length) = false:=by first | simpa using c3 | (simp at c3 ⊢;omega)
  obtain rfl:=Option.some.inj H
  go_enter Try.func100,Try.ntmps100
  go_wp2
  repeat (go_quiet (fail);try go_wp2)
  go_ret
  exact ⟨by first | rfl | (simp;done) | (simp [*];done),by repeat (first | exact Drawn0.refl _ | apply Drawn0.step)⟩
 rotate_right
 have c3b0 : ((l0.length : Int) == (l1.length : Int)) = true:=beq_iff_eq.mpr c3
 have c3b1 : ((l0.length : Int) != (l1.length : Int)) = false:=bne_eq_false_iff_eq.mpr c3
 have c3b2 : (l0.length == l1.length) = true:=by first | simpa using c3 | (simp at c3 ⊢;omega)
 clear c3
 have H':=Z_ H
 clear H
 go_enter Try.func100,Try.ntmps100
 go_wp2
 repeat (go_quiet (fail);try go_wp2)
 go_loopg [13] k (fun kq v13 w' => ∃ (x13_1 : Int),v13 = .int .i64 x13_1 ∧ Aside0 (slices_Equal_bool_bool.l0 kq l0 l1 (l0.length : Int) x13_1 = some r) ∧ Aside0 (kq ≤ k) ∧ Drawn0 w w')
 case atStart => exact ⟨(0),Sr_,H',⟨Nat.le_refl _⟩,by repeat (first | exact Drawn0.refl _ | apply Drawn0.step)⟩
 case round =>
  clear H'
  try clear c1
  try clear p2
  try clear c3
  try clear c3b0
  try clear c3b1
  try clear c3b2
  obtain ⟨x13_1,rfl,HA,HK1,⟨m1,rfl⟩⟩:=hrel
  cases gk with
  | zero => exact absurd HA.out (by simp [slices_Equal_bool_bool.l0])
  | succ k1 =>
   have H:=HA.out
   clear HA
   simp only [slices_Equal_bool_bool.l0] at H
   replace H:=iD_ H
   obtain ⟨c4b0,H⟩ | ⟨c4b0,H⟩:=H
   rotate_left
   ·obtain rfl:=Option.some.inj H
    go_wp2
    repeat (go_quiet (fail);try go_wp2)
    go_ret
    exact ⟨by first | rfl | (simp;done) | (simp [*];done),by repeat (first | exact Drawn0.refl _ | apply Drawn0.step)⟩
   rotate_right
   replace H:=iM_ H
   obtain ⟨c5b0,H⟩:=H
   replace H:=iM_ H
   obtain ⟨c6b0,H⟩:=H
   replace H:=iM_ H
   obtain ⟨c7b0,H⟩:=H
   replace H:=iC_ H
   obtain ⟨c8,H⟩ | ⟨c8,H⟩:=H
   ·have c8b0 : ((rdOf false l0 x13_1) != (rdOf false l1 x13_1)) = true:=c8
    (try (have c8b1 : decide ((rdOf false l0 x13_1) = (rdOf false l1 x13_1)) = false:=by simpa using c8))
    (try (have c8b2 : ((rdOf false l0 x13_1) == (rdOf false l1 x13_1)) = false:=by simpa using c8))
    (try (have c8b3 : ¬ ((rdOf false l0 x13_1) = (rdOf false l1 x13_1)):=by simpa using c8))
    clear c8
    obtain rfl:=Option.some.inj H
    have p319 : 0 ≤ (x13_1 : Int):=dA_
    have q319 : x13_1 < (l0.length : Int):=dA_
    obtain ⟨ad319,e319,hx319_0⟩:=Kd.at_bool a0.out x13_1 p319 q319
    cases e319
    replace p319:=eq_true p319
    replace q319:=eq_true q319
    have p320 : 0 ≤ (x13_1 : Int):=dA_
    have q320 : x13_1 < (l1.length : Int):=dA_
    obtain ⟨ad320,e320,hx320_0⟩:=Kd.at_bool a1.out x13_1 p320 q320
    cases e320
    replace p320:=eq_true p320
    replace q320:=eq_true q320
    go_wp2
    repeat (go_quiet (fail);try go_wp2)
    go_ret
    exact ⟨by first | rfl | (simp;done) | (simp [*];done),by repeat (first | exact Drawn0.refl _ | apply Drawn0.step)⟩
   have c8b0 : ((rdOf false l0 x13_1) != (rdOf false l1 x13_1)) = false:=by simpa using c8
   (try (have c8b1 : decide ((rdOf false l0 x13_1) = (rdOf false l1 x13_1)) = true:=by simpa using c8))
   (try (have c8b2 : ((rdOf false l0 x13_1) == (rdOf false l1 x13_1)) = true:=by simpa using c8))
   clear c8
   have H':=Z_ H
   clear H
   have p319 : 0 ≤ (x13_1 : Int):=dA_
   have q319 : x13_1 < (l0.length : Int):=dA_
   obtain ⟨ad319,e319,hx319_0⟩:=Kd.at_bool a0.out x13_1 p319 q319
   cases e319
   replace p319:=eq_true p319
   replace q319:=eq_true q319
   have p320 : 0 ≤ (x13_1 : Int):=dA_
   have q320 : x13_1 < (l1.length : Int):=dA_
   obtain ⟨ad320,e320,hx320_0⟩:=Kd.at_bool a1.out x13_1 p320 q320
   cases e320
   replace p320:=eq_true p320
   replace q320:=eq_true q320
   go_wp2
   repeat (go_quiet (fail);try go_wp2)
   go_roundg k1
   case measure => have:=HK1.out;omega
   case rel => exact ⟨(wrap64 (x13_1 + 1)),Sr_,H',⟨by have:=HK1.out;omega⟩,by repeat (first | exact Drawn0.refl _ | apply Drawn0.step)⟩
end Go.Proofs.Ytpabeajjbifjdaa.G
namespace Go.Proofs.Ytpabeajjbifjdaa.G
open Go.RowKit Go.Proofs.YtpabeajjbifjdaaW.PrintWords Go.Proofs.YtpabeajjbifjdaaW.PrintLast Go.Proofs.YtpabeajjbifjdaaW.PrintMore
attribute [local go_sem] max2_int min2_int max_two min_two max_three min_three max_four min_four   -- for this text's walks alone
set_option linter.unusedVariables false
set_option linter.unusedSimpArgs false
section
variable {P : Program} {ops : Array Oper} {Q : Exit → Act → World → Prop} {md : Region.Mode}
theorem oper_inRound {o : Oper} {a : Act} {w : World} {K : Act → World → Prop} (l n : Nat) (hd : ∀ c,o.op ≠ .defer c) (h : o.wp P a w K Q) : o.wpIn (Fence.wide.inRound l) n P a w K Q:=by
  refine ⟨fun _ _ => trivial,?_⟩
  rw [show (Fence.wide.inRound l).round = some l from rfl,Oper.semAt_some l _ _ hd]
  unfold Oper.wp at h
  generalize (execOp a.eval o).run P w = r at h ⊢
  have hn : ((Fence.wide.inRound l).depth.isSome = true → 1 ≤ n):=fun h => by cases h
  cases r with
  | ok x w' =>
    cases x <;> simp only [Oper.upon,Oper.uponIn] at h ⊢ <;> first
      | exact h
      | exact ⟨hn,CallsIn.inRound l (callsIn_wide.2 h)⟩
      | exact ⟨hn,fun c cs _ => by obtain ⟨v,w2,r,s⟩:=h c cs;exact ⟨v,w2,r,stepsIn_wide.2 s⟩⟩
  | halt x w' => cases x <;> simp only [Oper.upon,Oper.uponIn] at h ⊢ <;> exact h
theorem any_inRound (l n : Nat) (hd : ∀ (i : Nat) (o : Oper) (c : Call),ops[i]? = some o → o.op ≠ .defer c) (hL : ¬ LetsOut Q) : ∀ (fuel : Nat) (listed : Array Bool) (a : Act) (w : World),wpAny P md ops Q fuel listed a w → wpAnyIn (Fence.wide.inRound l) n P md ops Q fuel listed a w
  | 0,_,_,_,h => h
  | fuel + 1,listed,a,w,h => ⟨h.1,fun i hi => by
    have h2:=h.2 i hi
    unfold wpOp at h2
    unfold wpOpIn
    cases ho : ops[i]? with
    | none => rw [ho] at h2;exact any_inRound l n hd hL fuel _ a w h2
    | some o =>
      rw [ho] at h2
      dsimp only at h2 ⊢
      split
      · rename_i hw
        rw [if_pos hw] at h2
        rcases h2 with h2 | ⟨_,h2⟩
        · exact Oper.wpIn_mono (fun a' w' h3 => any_inRound l n hd hL fuel _ a' w' h3) (oper_inRound l n (fun c => hd i o c ho) h2)
        · exact absurd h2 hL
      · rename_i hw
        rw [if_neg hw] at h2
        exact ⟨fun _ _ => trivial,any_inRound l n hd hL fuel _ _ w h2⟩⟩
def noDefer (ops : Array Oper) : Bool:=ops.all fun o => match o.op with | .defer _ => false | _ => true
theorem startR_ {S : World → Prop} {ds : List Nat} {id n r m : Nat} {a : Act} {w : World} (l : Array Bool) (hm : P.follows .mixedOrders = true) (hn : ops.size = n) (hl : Array.replicate n false = l) (hS : S w.drew) (hd : noDefer ops = true) (hL : ¬ LetsOut Q)
    (h : S w.drew → wpAnyLast P .any ops Q S ds n l a w.drew) : (Code.region id ops true).wpIn (Fence.wide.inRound r) m P Q a w:=by
  subst hn
  subst hl
  refine wpIn_region_any hm (any_inRound r m (fun i o c ho hc => ?_) hL _ _ _ _ (wpAny_of_last _ _ _ _ (h hS)))
  have:=(Array.all_eq_true.1 hd) i (Array.getElem?_eq_some_iff.1 ho).1
  rw [(Array.getElem?_eq_some_iff.1 ho).2,hc] at this
  cases this
end
section
open Go.Shelf
attribute [local go_sem] Oper.semAt_some
def opT (can out : List Bool) (i : Nat) (x : S36) : List Bool:=if out.getD i false = true then (if x.f0 = 3 then (out.set x.f1.toNat true).set x.f2.toNat true else if x.f0 = 5 ∧ ob can x.f1 = true then out.set x.f2.toNat true else out) else out
def opC (l : List S36) (out : List Bool) : List Bool:=mkO l out (mkHs l out l.length) l.length
def opS (l : List S36) (can out : List Bool) (j : Nat) : List Bool:=opT can out (l.length - 1 - j) (rd_T36 l ((l.length - 1 - j : Nat) : Int))
def opRnd (l : List S36) (out : List Bool) : List Bool:=(List.range l.length).foldl (opS l (opC l out)) out
def opL (l : List S36) : Nat → List Bool → Option (List Bool)
  | 0,_ => none
  | k + 1,out => if out = opRnd l out then some (opRnd l out) else opL l k (opRnd l out)
theorem opT_length (can out : List Bool) (i : Nat) (x : S36) : (opT can out i x).length = out.length:=by
  unfold opT
  split
  · split
    · simp
    · split <;> simp
  · rfl
theorem opF_length (l : List S36) (can : List Bool) : ∀ (xs : List Nat) (out : List Bool),(xs.foldl (opS l can) out).length = out.length
  | [],_ => rfl
  | x :: xs,out => by rw [List.foldl_cons,opF_length l can xs];exact opT_length _ _ _ _
theorem opC_length (l : List S36) (out : List Bool) : (opC l out).length = l.length:=mkO_length _ _ _ _
def impl_opened.f (k : Nat) (l0 : List S36) (l1 : List Int) : Option (List Bool) :=
  (impl_flags.f k l0 l1).bind fun is0 => if is0.length = l0.length ∧ mkOk l0 = true ∧ l0.length ≤ 400 then opL l0 k is0 else none
theorem bc1H {w : World} {g : Nat} {t : TypeId} {c0 : Value} (h : w.heap[g]? = some (.cells #[c0] t (0,0))) : w.cell? ⟨g,0,none⟩ = some c0 ∧ w.frozen? ⟨g,0,none⟩ = false:=⟨(blk_cell h 0).trans rfl,blk_frozen h 0⟩
theorem eqB_l (x y : List Bool) (he : x.length = y.length) (hx : x.length ≤ 400) : ∀ d i : Nat,x.length - i = d → i ≤ x.length → slices_Equal_bool_bool.l0 (d + 1) x y (x.length : Int) (i : Int) = some (decide (x.drop i = y.drop i))
  | 0,i,hd,hi => by
    obtain rfl : i = x.length:=by omega
    unfold slices_Equal_bool_bool.l0
    rw [if_neg (Int.lt_irrefl _)]
    simp [he]
  | d + 1,i,hd,hi => by
    have h1 : i < x.length:=by omega
    have h2 : i < y.length:=by omega
    unfold slices_Equal_bool_bool.l0
    rw [if_pos (show (i : Int) < (x.length : Int) by omega),if_pos (show (0 : Int) ≤ (i : Int) by omega),if_pos (show (i : Int) < (x.length : Int) by omega),if_pos (show (i : Int) < (y.length : Int) by omega)]
    rw [show wrap64 ((i : Int) + 1) = ((i + 1 : Nat) : Int) by unfold wrap64;omega,eqB_l x y he hx d (i + 1) (by omega) (by omega)]
    rw [List.drop_eq_getElem_cons h1,List.drop_eq_getElem_cons h2]
    have r1 : rdOf false x (i : Int) = x[i]:=by simp [rdOf,List.getD,h1]
    have r2 : rdOf false y (i : Int) = y[i]:=by simp [rdOf,List.getD,h2]
    rw [r1,r2]
    by_cases e : x[i] = y[i]
    · rw [if_neg (by simp [e])]
      exact congrArg some (decide_eq_decide.mpr ⟨fun h => by rw [e,h],fun h => (List.cons.inj h).2⟩)
    · rw [if_pos (by simpa using e)]
      exact congrArg some (decide_eq_false (fun h => e (List.cons.inj h).1)).symm
theorem eqB_f (x y : List Bool) (he : x.length = y.length) (hx : x.length ≤ 400) : slices_Equal_bool_bool.f (x.length + 1) x y = some (decide (x = y)):=by
  unfold slices_Equal_bool_bool.f
  rw [if_pos (by omega)]
  have:=eqB_l x y he hx x.length 0 (by omega) (by omega)
  simpa using this
def OpI (N g5 g7 N1 : Nat) (v5 v7 v6 : Value) (can bef : List Bool) (w : World) (out : List Bool) (W : World) : Prop:=W.heap[g5]? = some (.cells #[v5] 91 (0,0)) ∧ Kd.bool.R 4 W N (fun _ => True) v5 out ∧ W.heap[g7]? = some (.cells #[v7] 91 (0,0)) ∧ Kd.bool.R 4 W N1 (fun _ => True) v7 can ∧ Kd.bool.R 4 W N1 (fun _ => True) v6 bef ∧ Below N w W
theorem R_ownF {α : Type} {d : Kd α} {e base : Nat} {ok : Nat → Prop} {W W' : World} {v : Value} {xs : List α} {row : Option Nat} (h : d.R e W base ok v xs) (hg : W.grownBy W' row) (hr : ∀ r,row = some r → ∃ o : Obj,W.heap[r]? = some o ∧ o.isCells = false) : d.R e W' base ok v xs :=
  Kd.R_mono (Kd.R_grown (Kd.R_bound h) hg (fun k hk e' => by
    obtain ⟨_,_,_,q,_,cells,hc⟩:=hk
    obtain ⟨o,ho,h2⟩:=hr k e'.symm
    rw [hc] at ho
    cases ho
    cases h2)) (fun _ hk => hk.1)
theorem blk_ownF {W W' : World} {g t : Nat} {cs : Array Value} {row : Option Nat} (h : W.heap[g]? = some (.cells cs t (0,0))) (hg : W.grownBy W' row) (hr : ∀ r,row = some r → ∃ o : Obj,W.heap[r]? = some o ∧ o.isCells = false) : W'.heap[g]? = some (.cells cs t (0,0)) :=
  blk_grown h hg (fun e' => by
    obtain ⟨o,ho,h2⟩:=hr g e'.symm
    rw [h] at ho
    cases ho
    cases h2)
theorem opI_own {α : Type} {N g5 g7 N1 B : Nat} {v5 v7 v6 : Value} {can bef : List Bool} {w : World} (hN : N ≤ g5) (hB : N ≤ B) (f : α → List Bool) : OwnFrom B (fun s W => OpI N g5 g7 N1 v5 v7 v6 can bef w (f s) W):=by
  rintro s W W' row ⟨h1,h2,h3,h4,h5,h6⟩ hg hr
  have hr':=fun r e => (hr r e).2
  have:=blk_lt h1
  exact ⟨blk_ownF h1 hg hr',R_ownF h2 hg hr',blk_ownF h3 hg hr',R_ownF h4 hg hr',R_ownF h5 hg hr',pw_below_grown h6 row (by omega) hg (fun k e => by have:=(hr k e).1;omega)⟩
theorem opI_below {N g5 g7 N1 : Nat} {v5 v7 v6 : Value} {can bef out : List Bool} {w W W' : World} (h : OpI N g5 g7 N1 v5 v7 v6 can bef w out W) (hN : N ≤ g5) (hb : Below W.heap.size W W') : OpI N g5 g7 N1 v5 v7 v6 can bef w out W' :=
  ⟨bB_ h.1 hb,Kd.R_below h.2.1 hb,bB_ h.2.2.1 hb,Kd.R_below h.2.2.2.1 hb,Kd.R_below h.2.2.2.2.1 hb,h.2.2.2.2.2.trans (hb.mono (by have:=blk_lt h.1;omega))⟩
def mk_ (D : Nat) : Deferred:={ target:=.collected D,args:=#[] }
def opPost (P : Program) (fn : Func) (R : Ending → World → Prop) : Exit → Act → World → Prop
  | .ret,a,w => LeavesInM Fence.wide 6 P fn a.tmps R a.defers .returning w
  | _,_,_ => False
theorem wp_opPost {P : Program} {fn : Func} {R : Ending → World → Prop} {c : Code} {a : Act} {w : World} (h : c.wp P (opPost P fn R) a w) : c.wp P (bodyPostM Fence.wide 6 P fn R) a w:=wp_mono h (fun e a w q => by cases e <;> first | exact q | exact q.elim)
theorem leaves_marks {P : Program} {fn : Func} {tmps : Array Value} {R : Ending → World → Prop} {n : Nat} (Q : World → Prop) (N : Nat) (hQ : ∀ W D,Q W → N ≤ D → W.heap[D]? = some (.deferred (some [])) → Q (W.putObj D (.deferred none))) (hf : ∀ W',Q W' → ∃ v,(results fn tmps).run P W' = .ok v W' ∧ R (.returned v) W') : ∀ (Ds : List Nat) (W : World),Ds.Nodup → (∀ D ∈ Ds,N ≤ D ∧ W.heap[D]? = some (.deferred (some []))) → Q W → LeavesInM Fence.wide n P fn tmps R (Ds.map mk_) .returning W
  | [],W,_,_,h => hf W h
  | D :: Ds,W,hn,hm,h => by
    obtain ⟨hD,hmD⟩:=hm D (List.mem_cons_self ..)
    rw [List.nodup_cons] at hn
    refine ⟨by simp,.inl ⟨D,_,rfl,run_takeDeferred hmD,leaves_marks Q N hQ hf Ds _ hn.2 (fun D' h' => ?_) (hQ _ _ h hD hmD)⟩⟩
    obtain ⟨h1,h2⟩:=hm D' (List.mem_cons_of_mem _ h')
    exact ⟨h1,(World.putObj_heap_other (fun (e : D' = D) => hn.1 (by rw [← e];exact h'))).trans h2⟩
theorem opI_put {N g5 g7 N1 g n c : Nat} {v7 v6 : Value} {can bef out : List Bool} {w W : World} (h : OpI N g5 g7 N1 (.slice (some ⟨g,0,none⟩) n c) v7 v6 can bef w out W) (hg : g < N1) (hp : 0 < out.length) (i : Nat) : OpI N g5 g7 N1 (.slice (some ⟨g,0,none⟩) n c) v7 v6 can bef w (out.set i true) (W.setCell ⟨g,i,none⟩ (.bool true)):=by
  obtain ⟨h1,h2,h3,h4,h5,h6⟩:=h
  obtain ⟨g',_,e,hb,_,_⟩:=Kd.R_form h2 hp
  obtain rfl : g = g':=by injection e with e;injection e with e;injection e
  obtain ⟨k1,kg⟩:=rb_put h2 i rfl
  have n5:=Kd.R_ne h2 h1 (by decide)
  have n7:=Kd.R_ne h2 h3 (by decide)
  exact ⟨blk_grown h1 kg n5,k1,blk_grown h3 kg n7,Kd.R_mono (Kd.R_grown (Kd.R_bound h4) kg (fun k hk e' => by injection e' with e';have:=hk.2.1;omega)) (fun _ hk => hk.1),Kd.R_mono (Kd.R_grown (Kd.R_bound h5) kg (fun k hk e' => by injection e' with e';have:=hk.2.1;omega)) (fun _ hk => hk.1),h6.setCell (p:=⟨g,i,none⟩) hb _⟩
set_option maxHeartbeats 8000000 in
set_option maxRecDepth 100000 in
theorem impl_opened.calls (k : Nat) (A0 : Option Addr) (c0 : Nat) (l0 : List S36) (A1 : Option Addr) (c1 : Nat) (l1 : List Int) (r : List Bool) (w : World) (hr0 : Kd.C k36 w A0 l0.length l0) (hc0 : l0.length ≤ c0) (hr1 : Kd.C (Kd.int .i64) w A1 l1.length l1) (hc1 : l1.length ≤ c1) (h : impl_opened.f k l0 l1 = some r) :
    Calls Try.prog 56 #[.slice A0 l0.length c0,.slice A1 l1.length c1] w fun e w' => ∃ v : Value,e = .returned v ∧ Kd.bool.R 4 w' w.heap.size (fun _ => True) v r ∧ Below w.heap.size w w':=by
 unfold impl_opened.f at h
 replace h:=bS_ h
 obtain ⟨is0,HF,h⟩:=h
 replace h:=iN_ h
 obtain ⟨⟨hl0,hok,hl4⟩,h⟩:=h
 have H':=Z_ h
 have HL0:=Z_ hl0
 have HOK:=Z_ hok
 have HL4:=Z_ hl4
 have a2:=Z_ hr0
 have a5:=Z_ hc0
 have a7:=Z_ hr1
 have a8:=Z_ hc1
 have HB:=Z_ (Below.refl w.heap.size w)
 clear h hl0 hok hl4 hr0 hc0 hr1 hc1
 have hu1:=Try.underlying91
 have hu2:=Try.underlying24
 have hu3:=Try.underlying36
 refine (callsIn_wide (n:=6)).1 ?_
 refine callsIn_of_wp_marks Try.func56 rfl trivial ?_ rfl
 simp only [Try.ntmps56,List.size_toArray,List.length_cons,List.length_nil,Nat.reduceAdd,Nat.reduceSub,Array.replicate_succ,Array.replicate_zero,List.push_toArray,List.append_toArray,List.nil_append,List.cons_append]
 refine wpIn_wide.2 (wp_opPost ?_)
 go_wp2_with (first | (go_at_call 97;refine (impl_flags.calls k A0 c0 l0 A1 c1 l1 is0 _ (Kd.C_below a2.out Lb_) a5.out (Kd.C_below a7.out Lb_) a8.out HF.out).mono ?_;rintro e w12 ⟨v12,rfl,ho,hb⟩;have HO:=Z_ (Kd.R_lower ho (below_size HB.out));replace HB:=Z_ (lP_ HB.out hb);clear ho hb;obtain ⟨A5,c5,e5⟩:=Kd.R_slice HO.out;rw [HL0.out] at e5;subst e5) | ((with_reducible refine gD_ 5 rfl ?_);refine bx_ #[.slice none 0 0] 91 ?_;intro g5 hg w3 hbox hb;have a4:=Z_ (show w.heap.size ≤ g5 by rw [hg];exact below_size HB.out);replace HO:=Z_ (Kd.R_below HO.out hb);replace HB:=Z_ (lP_ HB.out hb);have B5:=Z_ hbox;clear hb hbox hg;obtain ⟨_,_⟩:=bc1H B5.out))
 replace HO:=Z_ (Kd.R_set HO.out B5.out (by decide) 0 (.slice A5 l0.length c5))
 replace HB:=Z_ (lS1_ (j:=0) (v:=.slice A5 l0.length c5) HB.out a4.out)
 replace B5:=Z_ (blk_put B5.out 0 (.slice A5 l0.length c5) rfl)
 generalize w3.setCell ⟨g5,0,none⟩ (.slice A5 l0.length c5) = w4 at HO HB B5 ⊢
 refine wp_loop_ghost_k (fun gg a' wr => ∃ (u4 u6 u7 u8 u9 u13 u14 u15 u16 u17 u18 u19 u22 u23 u24 u25 u26 u27 u28 u29 u30 u31 u32 u33 u34 u35 u36 u37 u38 u39 u40 u41 u42 u43 u44 u45 u46 u47 u48 u49 u50 u51 u52 u53 u54 u55 u56 u57 : Value) (out : List Bool) (Ds : List Nat),a' = { tmps:=#[.slice A0 l0.length c0,.slice A1 l1.length c1,undef,undef,u4,.pointer (some ⟨g5,0,none⟩),u6,u7,u8,u9,.slice A0 l0.length c0,.slice A1 l1.length c1,.slice A5 l0.length c5,u13,u14,u15,u16,u17,u18,u19,undef,undef,u22,u23,u24,u25,u26,u27,u28,u29,u30,u31,u32,u33,u34,u35,u36,u37,u38,u39,u40,u41,u42,u43,u44,u45,u46,u47,u48,u49,u50,u51,u52,u53,u54,u55,u56,u57],defers:=Ds.map mk_ } ∧ Aside0 (opL l0 gg out = some r) ∧ Aside0 (out.length = l0.length) ∧ Aside0 (wr.heap[g5]? = some (.cells #[.slice A5 l0.length c5] 91 (0,0))) ∧ Aside0 (Kd.bool.R 4 wr w.heap.size (fun _ => True) (.slice A5 l0.length c5) out) ∧ Aside0 (Below w.heap.size w wr) ∧ Aside0 (Ds.Nodup) ∧ Aside0 (∀ D ∈ Ds,w.heap.size ≤ D ∧ wr.heap[D]? = some (.deferred (some [])))) k ⟨_,_,_,_,_,_,_,_,_,_,_,_,_,_,_,_,_,_,_,_,_,_,_,_,_,_,_,_,_,_,_,_,_,_,_,_,_,_,_,_,_,_,_,_,_,_,_,_,is0,[],rfl,H',HL0,B5,HO,HB,⟨List.nodup_nil⟩,⟨fun _ h => by cases h⟩⟩ ?_
 intro gk a' wr hinv J K hJ hK
 clear HO HB B5
 obtain ⟨u4,u6,u7,u8,u9,u13,u14,u15,u16,u17,u18,u19,u22,u23,u24,u25,u26,u27,u28,u29,u30,u31,u32,u33,u34,u35,u36,u37,u38,u39,u40,u41,u42,u43,u44,u45,u46,u47,u48,u49,u50,u51,u52,u53,u54,u55,u56,u57,out,Ds,ha,H,HLO,B5,HO,HB,HDN,HDM⟩:=hinv
 subst ha
 try dsimp only
 ·clear H'
  cases gk with
  | zero => exact absurd H.out (by simp [opL])
  | succ k1 =>
   have hcl:=fun W (h1 : Kd.C Kd.bool W A5 out.length out) (h2 : out.length ≤ c5) => slices_Clone_bool_bool.calls A5 c5 out out W h1 h2 (by unfold slices_Clone_bool_bool.f;exact if_pos (by have:=HLO.out;have:=HL4.out;omega))
   rw [HLO.out] at hcl
   have hmk:=fun W (h0 : Kd.C k36 W A0 l0.length l0) (h1 : Kd.C Kd.bool W A5 out.length out) (h2 : out.length ≤ c5) => impl_makeable.calls A0 c0 l0 A5 c5 out (opC l0 out) W h0 a5.out h1 h2 (by unfold impl_makeable.f;exact if_pos ⟨HLO.out,HOK.out,HL4.out⟩)
   rw [HLO.out] at hmk
   have HCL:=Z_ hcl
   have HMK:=Z_ hmk
   clear hcl hmk
   have H':=Z_ (show (if out = opRnd l0 out then some (opRnd l0 out) else opL l0 k1 (opRnd l0 out)) = some r from H.out)
   clear H
   obtain ⟨can,hcan⟩ : ∃ can,can = opC l0 out:=⟨_,rfl⟩
   rw [← hcan] at HMK
   have HCAN:=Z_ hcan
   clear hcan
   have HLC:=Z_ (show can.length = l0.length by rw [HCAN.out];exact opC_length _ _)
   go_wp2
   replace B5:=Z_ (bD_ B5.out)
   replace HO:=Z_ (rD_ HO.out)
   replace HB:=Z_ (below_drew HB.out)
   refine start_ (n:=8) (S:=fun w' => w'.cell? ⟨g5,0,none⟩ = some (.slice A5 l0.length c5) ∧ True) (ds:=[7]) (Bt 8 0) (by kernel_rfl) rfl rfl ⟨(blk_cell B5.out 0).trans rfl,trivial⟩ (fun hHeld => ?_)
   have HDMN : Aside0 (∀ D ∈ Ds,w.heap.size ≤ D):=Z_ (fun D hD => (HDM.out D hD).1)
   replace HDM : Aside0 (∀ D ∈ Ds,wr.drew.heap[D]? = some (.deferred (some []))):=Z_ (fun D hD => bD_ (HDM.out D hD).2)
   generalize wr.drew = wD at B5 HO HB HDM hHeld ⊢
   have HG5:=Z_ (show ∀ k,Value.ownBlock (.slice A5 l0.length c5) = some k → k < wD.heap.size from fun k hk => by obtain ⟨_,hi⟩:=Kd.R_own HO.out;exact own_lt hi k hk)
   refine ta_ 0 (some 13) (Bt 8 1) (by kernel_rfl) hHeld ?_
   refine pu_ 2 (some 15) (Bt 8 5) (by kernel_rfl) ?_
   refine ta_ 3 (some 16) (Bt 8 13) (by kernel_rfl) hHeld ?_
   have HD:=Z_ (Below.refl wD.heap.size wD)
   refine join_ (σ:=Value × Value × Nat) 2 (Bt 8 63) (fun s_ => [(14,s_.1),(17,s_.2.1),(7,.pointer (some ⟨s_.2.2,0,none⟩))]) (fun s_ W => (W.cell? ⟨g5,0,none⟩ = some (.slice A5 l0.length c5) ∧ True) ∧ W.heap[g5]? = some (.cells #[.slice A5 l0.length c5] 91 (0,0)) ∧ Kd.bool.R 4 W w.heap.size (fun _ => True) (.slice A5 l0.length c5) out ∧ W.heap[s_.2.2]? = some (.cells #[.slice none 0 0] 91 (0,0)) ∧ Kd.bool.R 4 W wD.heap.size (fun _ => True) s_.2.1 can ∧ Kd.bool.R 4 W wD.heap.size (fun _ => True) s_.1 out ∧ Below w.heap.size w W ∧ Below wD.heap.size wD W ∧ wD.heap.size ≤ s_.2.2) ?_ ?_
   rotate_left
   ·intro hCont
    refine two_ (i:=1) (j:=5) (Ni:=some 14) (Nj:=some 7) (Bt 8 15) (Bt 8 45) rfl rfl rfl rfl (by kernel_rfl) (by decide) (by decide) (fun K hK => ?_) (fun K hK => ?_)
    ·skip
     refine goes_ Try.func98 (by kernel_rfl) rfl #[.slice A5 l0.length c5] (by rfl) rfl rfl (by (try simp only [List.map_toArray,List.map_cons,List.map_nil]);first | done | rfl) ?_
     refine (HCL.out _ (by have h_:=(Kd.R_reads' HO.out).2.2;rw [HLO.out] at h_;exact h_) (Kd.R_reads' HO.out).2.1).mono ?_
     rintro e w1_0 ⟨v14,rfl,ho_,hb_⟩
     refine ⟨_,rfl,?_⟩
     have RB_:=Z_ (Kd.R_lower ho_ (below_size HD.out))
     replace B5:=Z_ (bB_ B5.out hb_)
     replace HO:=Z_ (Kd.R_below HO.out hb_)
     replace HB:=Z_ (lP_ HB.out hb_)
     replace HD:=Z_ (lP_ HD.out hb_)
     have RB:=RB_
     clear RB_ ho_ hb_
     refine hK.out _ _ ⟨(blk_cell B5.out 0).trans rfl,trivial⟩ (fun hHeld => ?_)
     clear hK K
     refine norm_ (a':=?_) ?_ ?_
     rotate_left
     ·show Act.put _ (some 14) _ = _
      simp only [Act.put,lA_,lZ_,lS_,i64_w,i32_w]
      rfl
     refine two_ (i:=4) (j:=5) (Ni:=some 17) (Nj:=some 7) (Bt 8 31) (Bt 8 47) rfl rfl rfl rfl (by kernel_rfl) (by decide) (by decide) (fun K hK => ?_) (fun K hK => ?_)
     ·skip
      refine goes_ Try.func55 (by kernel_rfl) rfl #[.slice A0 l0.length c0,.slice A5 l0.length c5] (by rfl) rfl rfl (by (try simp only [List.map_toArray,List.map_cons,List.map_nil]);first | done | rfl) ?_
      refine (HMK.out _ (Kd.C_below a2.out HB.out) (by have h_:=(Kd.R_reads' HO.out).2.2;rw [HLO.out] at h_;exact h_) (Kd.R_reads' HO.out).2.1).mono ?_
      rintro e w4_1 ⟨v17,rfl,ho_,hb_⟩
      refine ⟨_,rfl,?_⟩
      have RC_:=Z_ (Kd.R_lower ho_ (below_size HD.out))
      replace B5:=Z_ (bB_ B5.out hb_)
      replace HO:=Z_ (Kd.R_below HO.out hb_)
      replace HB:=Z_ (lP_ HB.out hb_)
      replace HD:=Z_ (lP_ HD.out hb_)
      replace RB:=Z_ (Kd.R_below RB.out hb_)
      have RC:=RC_
      clear RC_ ho_ hb_
      refine hK.out _ _ ⟨(blk_cell B5.out 0).trans rfl,trivial⟩ (fun hHeld => ?_)
      clear hK K
      refine norm_ (a':=?_) ?_ ?_
      rotate_left
      ·show Act.put _ (some 17) _ = _
       simp only [Act.put,lA_,lZ_,lS_,i64_w,i32_w]
       rfl
      refine one_ (i:=5) (N:=some 7) (Bt 8 63) rfl rfl (by kernel_rfl) (by decide) (fun K hK => ?_)
      refine value_ (w1:=?_) (v:=?_) (by rfl) rfl ?_ ?_
      rotate_left 2
      ·go_simp
       first | rfl | (constructor <;> rfl)
      have B7_:=Z_ (blk_new w4_1 (.cells #[.slice none 0 0] 91))
      obtain ⟨g7,hg7⟩ : ∃ g7,g7 = w4_1.heap.size:=⟨_,rfl⟩
      have a1:=Z_ (show wD.heap.size ≤ g7 by rw [hg7];exact below_size HD.out)
      rw [← hg7] at B7_ ⊢
      replace B5:=Z_ (bB_ B5.out (lA1_ (Below.refl _ _) (.cells #[.slice none 0 0] 91)))
      replace HO:=Z_ (Kd.R_below HO.out (lA1_ (Below.refl _ _) (.cells #[.slice none 0 0] 91)))
      replace HB:=Z_ (lP_ HB.out (lA1_ (Below.refl _ _) (.cells #[.slice none 0 0] 91)))
      replace HD:=Z_ (lP_ HD.out (lA1_ (Below.refl _ _) (.cells #[.slice none 0 0] 91)))
      replace RB:=Z_ (Kd.R_below RB.out (lA1_ (Below.refl _ _) (.cells #[.slice none 0 0] 91)))
      replace RC:=Z_ (Kd.R_below RC.out (lA1_ (Below.refl _ _) (.cells #[.slice none 0 0] 91)))
      have B7:=B7_
      clear B7_ hg7
      generalize (World.alloc w4_1 (.cells #[.slice none 0 0] 91)) = w5_2 at B5 HO HB HD B7 RB RC ⊢
      refine hK.out _ _ ⟨(blk_cell B5.out 0).trans rfl,trivial⟩ (fun hHeld => ?_)
      clear hK K
      refine norm_ (a':=?_) ?_ ?_
      rotate_left
      ·show Act.put _ (some 7) _ = _
       simp only [Act.put,lA_,lZ_,lS_,i64_w,i32_w]
       rfl
      exact norm_ (by simp only [putAll,Act.put,lA_,lZ_,lS_]) (hCont (v14,v17,g7) _ ⟨hHeld,B5.out,HO.out,B7.out,RC.out,RB.out,HB.out,HD.out,a1.out⟩)
     ·skip
      refine value_ (w1:=?_) (v:=?_) (by rfl) rfl ?_ ?_
      rotate_left 2
      ·go_simp
       first | rfl | (constructor <;> rfl)
      have B7_:=Z_ (blk_new w1_0 (.cells #[.slice none 0 0] 91))
      obtain ⟨g7,hg7⟩ : ∃ g7,g7 = w1_0.heap.size:=⟨_,rfl⟩
      have a1:=Z_ (show wD.heap.size ≤ g7 by rw [hg7];exact below_size HD.out)
      rw [← hg7] at B7_ ⊢
      replace B5:=Z_ (bB_ B5.out (lA1_ (Below.refl _ _) (.cells #[.slice none 0 0] 91)))
      replace HO:=Z_ (Kd.R_below HO.out (lA1_ (Below.refl _ _) (.cells #[.slice none 0 0] 91)))
      replace HB:=Z_ (lP_ HB.out (lA1_ (Below.refl _ _) (.cells #[.slice none 0 0] 91)))
      replace HD:=Z_ (lP_ HD.out (lA1_ (Below.refl _ _) (.cells #[.slice none 0 0] 91)))
      replace RB:=Z_ (Kd.R_below RB.out (lA1_ (Below.refl _ _) (.cells #[.slice none 0 0] 91)))
      have B7:=B7_
      clear B7_ hg7
      generalize (World.alloc w1_0 (.cells #[.slice none 0 0] 91)) = w5_1 at B5 HO HB HD B7 RB ⊢
      refine hK.out _ _ ⟨(blk_cell B5.out 0).trans rfl,trivial⟩ (fun hHeld => ?_)
      clear hK K
      refine norm_ (a':=?_) ?_ ?_
      rotate_left
      ·show Act.put _ (some 7) _ = _
       simp only [Act.put,lA_,lZ_,lS_,i64_w,i32_w]
       rfl
      refine one_ (i:=4) (N:=some 17) (Bt 8 63) rfl rfl (by kernel_rfl) (by decide) (fun K hK => ?_)
      refine goes_ Try.func55 (by kernel_rfl) rfl #[.slice A0 l0.length c0,.slice A5 l0.length c5] (by rfl) rfl rfl (by (try simp only [List.map_toArray,List.map_cons,List.map_nil]);first | done | rfl) ?_
      refine (HMK.out _ (Kd.C_below a2.out HB.out) (by have h_:=(Kd.R_reads' HO.out).2.2;rw [HLO.out] at h_;exact h_) (Kd.R_reads' HO.out).2.1).mono ?_
      rintro e w4_2 ⟨v17,rfl,ho_,hb_⟩
      refine ⟨_,rfl,?_⟩
      have RC_:=Z_ (Kd.R_lower ho_ (below_size HD.out))
      replace B5:=Z_ (bB_ B5.out hb_)
      replace HO:=Z_ (Kd.R_below HO.out hb_)
      replace HB:=Z_ (lP_ HB.out hb_)
      replace HD:=Z_ (lP_ HD.out hb_)
      replace RB:=Z_ (Kd.R_below RB.out hb_)
      replace B7:=Z_ (bB_ B7.out hb_)
      have RC:=RC_
      clear RC_ ho_ hb_
      refine hK.out _ _ ⟨(blk_cell B5.out 0).trans rfl,trivial⟩ (fun hHeld => ?_)
      clear hK K
      refine norm_ (a':=?_) ?_ ?_
      rotate_left
      ·show Act.put _ (some 17) _ = _
       simp only [Act.put,lA_,lZ_,lS_,i64_w,i32_w]
       rfl
      exact norm_ (by simp only [putAll,Act.put,lA_,lZ_,lS_]) (hCont (v14,v17,g7) _ ⟨hHeld,B5.out,HO.out,B7.out,RC.out,RB.out,HB.out,HD.out,a1.out⟩)
    ·skip
     refine value_ (w1:=?_) (v:=?_) (by rfl) rfl ?_ ?_
     rotate_left 2
     ·go_simp
      first | rfl | (constructor <;> rfl)
     have B7_:=Z_ (blk_new wD (.cells #[.slice none 0 0] 91))
     obtain ⟨g7,hg7⟩ : ∃ g7,g7 = wD.heap.size:=⟨_,rfl⟩
     have a1:=Z_ (show wD.heap.size ≤ g7 by rw [hg7];exact below_size HD.out)
     rw [← hg7] at B7_ ⊢
     replace B5:=Z_ (bB_ B5.out (lA1_ (Below.refl _ _) (.cells #[.slice none 0 0] 91)))
     replace HO:=Z_ (Kd.R_below HO.out (lA1_ (Below.refl _ _) (.cells #[.slice none 0 0] 91)))
     replace HB:=Z_ (lP_ HB.out (lA1_ (Below.refl _ _) (.cells #[.slice none 0 0] 91)))
     replace HD:=Z_ (lP_ HD.out (lA1_ (Below.refl _ _) (.cells #[.slice none 0 0] 91)))
     have B7:=B7_
     clear B7_ hg7
     generalize (World.alloc wD (.cells #[.slice none 0 0] 91)) = w5_0 at B5 HO HB HD B7  ⊢
     refine hK.out _ _ ⟨(blk_cell B5.out 0).trans rfl,trivial⟩ (fun hHeld => ?_)
     clear hK K
     refine norm_ (a':=?_) ?_ ?_
     rotate_left
     ·show Act.put _ (some 7) _ = _
      simp only [Act.put,lA_,lZ_,lS_,i64_w,i32_w]
      rfl
     refine one_ (i:=1) (N:=some 14) (Bt 8 47) rfl rfl (by kernel_rfl) (by decide) (fun K hK => ?_)
     refine goes_ Try.func98 (by kernel_rfl) rfl #[.slice A5 l0.length c5] (by rfl) rfl rfl (by (try simp only [List.map_toArray,List.map_cons,List.map_nil]);first | done | rfl) ?_
     refine (HCL.out _ (by have h_:=(Kd.R_reads' HO.out).2.2;rw [HLO.out] at h_;exact h_) (Kd.R_reads' HO.out).2.1).mono ?_
     rintro e w1_1 ⟨v14,rfl,ho_,hb_⟩
     refine ⟨_,rfl,?_⟩
     have RB_:=Z_ (Kd.R_lower ho_ (below_size HD.out))
     replace B5:=Z_ (bB_ B5.out hb_)
     replace HO:=Z_ (Kd.R_below HO.out hb_)
     replace HB:=Z_ (lP_ HB.out hb_)
     replace HD:=Z_ (lP_ HD.out hb_)
     replace B7:=Z_ (bB_ B7.out hb_)
     have RB:=RB_
     clear RB_ ho_ hb_
     refine hK.out _ _ ⟨(blk_cell B5.out 0).trans rfl,trivial⟩ (fun hHeld => ?_)
     clear hK K
     refine norm_ (a':=?_) ?_ ?_
     rotate_left
     ·show Act.put _ (some 14) _ = _
      simp only [Act.put,lA_,lZ_,lS_,i64_w,i32_w]
      rfl
     refine one_ (i:=4) (N:=some 17) (Bt 8 63) rfl rfl (by kernel_rfl) (by decide) (fun K hK => ?_)
     refine goes_ Try.func55 (by kernel_rfl) rfl #[.slice A0 l0.length c0,.slice A5 l0.length c5] (by rfl) rfl rfl (by (try simp only [List.map_toArray,List.map_cons,List.map_nil]);first | done | rfl) ?_
     refine (HMK.out _ (Kd.C_below a2.out HB.out) (by have h_:=(Kd.R_reads' HO.out).2.2;rw [HLO.out] at h_;exact h_) (Kd.R_reads' HO.out).2.1).mono ?_
     rintro e w4_2 ⟨v17,rfl,ho_,hb_⟩
     refine ⟨_,rfl,?_⟩
     have RC_:=Z_ (Kd.R_lower ho_ (below_size HD.out))
     replace B5:=Z_ (bB_ B5.out hb_)
     replace HO:=Z_ (Kd.R_below HO.out hb_)
     replace HB:=Z_ (lP_ HB.out hb_)
     replace HD:=Z_ (lP_ HD.out hb_)
     replace RB:=Z_ (Kd.R_below RB.out hb_)
     replace B7:=Z_ (bB_ B7.out hb_)
     have RC:=RC_
     clear RC_ ho_ hb_
     refine hK.out _ _ ⟨(blk_cell B5.out 0).trans rfl,trivial⟩ (fun hHeld => ?_)
     clear hK K
     refine norm_ (a':=?_) ?_ ?_
     rotate_left
     ·show Act.put _ (some 17) _ = _
      simp only [Act.put,lA_,lZ_,lS_,i64_w,i32_w]
      rfl
     exact norm_ (by simp only [putAll,Act.put,lA_,lZ_,lS_]) (hCont (v14,v17,g7) _ ⟨hHeld,B5.out,HO.out,B7.out,RC.out,RB.out,HB.out,HD.out,a1.out⟩)
   rintro ⟨v14,v17,g7⟩ W7 ⟨hHeld,b5,ho,b7,rc,rb,hb,hd,ge7⟩
   dsimp only at b7 rc rb ge7 ⊢
   have G5D:=Z_ (blk_lt B5.out)
   clear B5 HO HB HD hHeld
   obtain ⟨a0,c17,e17⟩:=Kd.R_slice rc
   rw [HLC.out] at e17
   subst e17
   obtain ⟨a3,c14,e14⟩:=Kd.R_slice rb
   rw [HLO.out] at e14
   subst e14
   have a1:=Z_ ge7
   have GEW:=Z_ (show w.heap.size ≤ g7 from by have:=G5D.out;have:=a4.out;omega)
   have B5:=Z_ b5
   have B7:=Z_ b7
   have HO:=Z_ ho
   have RC:=Z_ rc
   have RB:=Z_ rb
   have HB:=Z_ hb
   have HD:=Z_ hd
   have HDM7 : Aside0 (∀ D ∈ Ds,W7.heap[D]? = some (.deferred (some []))):=Z_ (fun D hD => bB_ (HDM.out D hD) hd)
   have HDL:=Z_ (fun D hD => blk_lt (HDM.out D hD))
   clear HDM
   clear b5 b7 ho rc rb hb hd ge7
   refine norm_ (a':=?_) ?_ ?_
   rotate_left
   ·simp only [putAll,Act.put,lA_,lZ_,lS_]
    rfl
   refine pu_ 6 (some 6) (Bt 8 127) (by kernel_rfl) ?_
   refine last_ (i:=7) (N:=none) (Bt 8 255) rfl rfl (by kernel_rfl) (by decide) (fun K hK => ?_)
   obtain ⟨_,_⟩:=bc1H B7.out
   refine skip_ (w1:=?_) (by rfl) rfl ?_ ?_
   rotate_left
   ·go_simp
    rfl
   refine hK.out _ _ ?_
   clear hK K
   refine done_ (by kernel_rfl) ?_
   have HDM8 : Aside0 (∀ D ∈ Ds,(W7.setCell ⟨g7,0,none⟩ (.slice a0 l0.length c17)).heap[D]? = some (.deferred (some []))):=Z_ (fun D hD => (Below.heap_setCell W7 ⟨g7,0,none⟩ _ D (by have:=HDL.out D hD;have:=a1.out;show D ≠ g7;omega)).trans (HDM7.out D hD))
   clear HDM7 HDL
   replace HO:=Z_ (Kd.R_set HO.out B7.out (by decide) 0 (.slice a0 l0.length c17))
   replace RC:=Z_ (Kd.R_set RC.out B7.out (by decide) 0 (.slice a0 l0.length c17))
   replace RB:=Z_ (Kd.R_set RB.out B7.out (by decide) 0 (.slice a0 l0.length c17))
   replace B5:=Z_ (bF_ B5.out (p:=⟨g7,0,none⟩) (by have:=G5D.out;have:=a1.out;show g5 ≠ g7;omega) (.slice a0 l0.length c17))
   replace HB:=Z_ (lS1_ (j:=0) (v:=.slice a0 l0.length c17) HB.out GEW.out)
   replace B7:=Z_ (blk_put B7.out 0 (.slice a0 l0.length c17) rfl)
   have HI : Aside0 (OpI w.heap.size g5 g7 wD.heap.size (.slice A5 l0.length c5) (.slice a0 l0.length c17) (.slice a3 l0.length c14) can out w out (W7.setCell ⟨g7,0,none⟩ (.slice a0 l0.length c17))):=Z_ ⟨B5.out,HO.out,B7.out,RC.out,RB.out,HB.out⟩
   have a9:=Z_ (Kd.R_reads' HO.out).2.1
   have a6:=Z_ (Kd.R_reads' RB.out).2.1
   clear HO RC RB B5 HB HD
   generalize W7.setCell ⟨g7,0,none⟩ (.slice a0 l0.length c17) = W8 at HI B7 HDM8 ⊢
   go_wp2_with (first | (go_at_call 99;refine (backwardT_in A0 l0.length c0 _).mono ?_;rintro e w' ⟨rfl,rfl⟩))
   have HBW:=Z_ HI.out.2.2.2.2.2
   obtain ⟨ad,hA,hadw,hcz⟩ : ∃ ad : Addr,(0 < l0.length → A0 = some ad ∧ ad.block < w.heap.size) ∧ ad.block < W8.heap.size ∧ ∀ j,j < l0.length → (W8.cell? (ad.add (j * 4)) = some (.int .i64 (rd_T36 l0 ((j : Nat) : Int)).f0) ∧ W8.cell? ⟨(ad.add (j * 4)).block,(ad.add (j * 4)).off + 1,none⟩ = some (.int .i64 (rd_T36 l0 ((j : Nat) : Int)).f1) ∧ W8.cell? ⟨(ad.add (j * 4)).block,(ad.add (j * 4)).off + 2,none⟩ = some (.int .i64 (rd_T36 l0 ((j : Nat) : Int)).f2) ∧ W8.cell? ⟨(ad.add (j * 4)).block,(ad.add (j * 4)).off + 3,none⟩ = some (.int .i64 (rd_T36 l0 ((j : Nat) : Int)).f3)):=by
     by_cases h0 : l0.length = 0
     · exact ⟨⟨g5,0,none⟩,fun h => by omega,blk_lt HI.out.1,fun j hj => by omega⟩
     · obtain ⟨ad,e,hx,_⟩:=at_T36 a2.out ((0 : Nat) : Int) (by omega) (by omega)
       have hl:=World.block_lt_of_cell? w _ hx
       rw [add_blockT_] at hl
       refine ⟨ad,fun _ => ⟨e,hl⟩,Nat.lt_of_lt_of_le hl (below_size HBW.out),fun j hj => ?_⟩
       obtain ⟨ad2,e2,h0,h1,h2,h3⟩:=at_T36 a2.out (j : Int) (by omega) (by omega)
       obtain rfl : ad = ad2:=by rw [e] at e2;injection e2
       rw [Int.toNat_natCast] at h0 h1 h2 h3
       exact ⟨cB_ HBW h0,cB_ HBW h1,cB_ HBW h2,cB_ HBW h3⟩
   have KB:=Z_ (blk_new W8 (.cells #[.slice A0 l0.length c0] 24))
   have hb9 : Below W8.heap.size W8 (W8.alloc (.cells #[.slice A0 l0.length c0] 24)):=lA1_ (Below.refl _ _) _
   have hz9 : (W8.alloc (.cells #[.slice A0 l0.length c0] 24)).heap.size = W8.heap.size + 1:=by simp
   replace HI:=Z_ (opI_below HI.out a4.out hb9)
   have hcz' : ∀ j,j < l0.length → ((W8.alloc (.cells #[.slice A0 l0.length c0] 24)).cell? (ad.add (j * 4)) = some (.int .i64 (rd_T36 l0 ((j : Nat) : Int)).f0) ∧ (W8.alloc (.cells #[.slice A0 l0.length c0] 24)).cell? ⟨(ad.add (j * 4)).block,(ad.add (j * 4)).off + 1,none⟩ = some (.int .i64 (rd_T36 l0 ((j : Nat) : Int)).f1) ∧ (W8.alloc (.cells #[.slice A0 l0.length c0] 24)).cell? ⟨(ad.add (j * 4)).block,(ad.add (j * 4)).off + 2,none⟩ = some (.int .i64 (rd_T36 l0 ((j : Nat) : Int)).f2) ∧ (W8.alloc (.cells #[.slice A0 l0.length c0] 24)).cell? ⟨(ad.add (j * 4)).block,(ad.add (j * 4)).off + 3,none⟩ = some (.int .i64 (rd_T36 l0 ((j : Nat) : Int)).f3)):=fun j hj => by
     obtain ⟨h0,h1,h2,h3⟩:=hcz j hj
     exact ⟨cB_ (Z_ hb9) h0,cB_ (Z_ hb9) h1,cB_ (Z_ hb9) h2,cB_ (Z_ hb9) h3⟩
   have HDM9 : Aside0 (∀ D ∈ Ds,(W8.alloc (.cells #[.slice A0 l0.length c0] 24)).heap[D]? = some (.deferred (some []))):=Z_ (fun D hD => bA_ (HDM8.out D hD) _)
   clear HBW hcz hb9 HDM8
   have hgb:=blk_lt HI.out.1
   have HD8:=Z_ (show wD.heap.size ≤ W8.heap.size from by have:=blk_lt B7.out;have:=a1.out;omega)
   generalize W8.alloc (.cells #[.slice A0 l0.length c0] 24) = W9 at HI KB hz9 hcz' hgb HDM9 ⊢
   clear B7
   generalize W8.heap.size = b8 at KB hz9 hadw HD8 ⊢
   have hz9a : b8 < W9.heap.size:=by omega
   have hz9b : W9.heap.size ≤ b8 + 1:=by omega
   clear hz9
   have kB : W9.cell? ⟨b8,0,none⟩ = some (.slice A0 l0.length c0):=(blk_cell KB.out 0).trans rfl
   have HDL:=Z_ (fun D hD => blk_lt (HDM9.out D hD))
   have hl4:=HL4.out
   have hN5:=a4.out
   refine (wpIn_wide (n:=6)).1 ?_
   refine wpIn_rangeFunc_ownH (F:=Fence.wide) (n:=6) rfl (by omega) (gf:=117) (lb:=#[.pointer (some ⟨b8,0,none⟩)]) rfl trivial (enters_of Try.func117 (by kernel_rfl) rfl)
     (backwardT_stops 5 (by omega) b8 c0 A0 ad l0 (by omega) W9 (fun h => (hA h).1) kB (by omega) hcz')
     (fun h1 h2 => ⟨h2.1.trans h1.1,h2.2.trans h1.2⟩) (fun W l' o o' hl' _ _ _ => ⟨World.putObj_heap_other (by omega),World.putObj_heap_other (by omega)⟩) (Below.refl _ _) (fun _ => rfl)
     (fun (pre : List Nat) W => OpI w.heap.size g5 g7 wD.heap.size (.slice A5 l0.length c5) (.slice a0 l0.length c17) (.slice a3 l0.length c14) can out w (pre.foldl (opS l0 can) out) W ∧ b8 < W.heap.size ∧ ∀ D ∈ Ds,W.heap[D]? = some (.deferred (some []))) (fun _ _ _ => False) (fun s W W' row h hg hr => ⟨opI_own hN5 (by omega) (fun (pre : List Nat) => pre.foldl (opS l0 can) out) s W W' row h.1 hg hr,Nat.lt_of_lt_of_le h.2.1 hg.size,fun D hD => (hg.block D (blk_lt (h.2.2 D hD)) (fun e => by have:=(hr D e.symm).1;have:=HDL.out D hD;omega)).trans (h.2.2 D hD)⟩) (fun _ _ _ _ _ hs _ _ => hs) ⟨HI.out,hz9a,HDM9.out⟩
     (fun x a' W => ∃ g9,a' = { tmps:=#[.slice A0 l0.length c0,.slice A1 l1.length c1,undef,undef,u4,.pointer (some ⟨g5,0,none⟩),.slice a3 l0.length c14,.pointer (some ⟨g7,0,none⟩),.int .i64 ((l0.length - 1 - x : Nat) : Int),.pointer (some ⟨g9,0,none⟩),.slice A0 l0.length c0,.slice A1 l1.length c1,.slice A5 l0.length c5,.slice A5 l0.length c5,.slice a3 l0.length c14,.slice A0 l0.length c0,.slice A5 l0.length c5,.slice a0 l0.length c17,.slice A0 l0.length c0,.func (.func 117) #[] #[.pointer (some ⟨b8,0,none⟩)],.int .i64 ((l0.length - 1 - x : Nat) : Int),.agg #[.int .i64 (rd_T36 l0 ((l0.length - 1 - x : Nat) : Int)).f0,.int .i64 (rd_T36 l0 ((l0.length - 1 - x : Nat) : Int)).f1,.int .i64 (rd_T36 l0 ((l0.length - 1 - x : Nat) : Int)).f2,.int .i64 (rd_T36 l0 ((l0.length - 1 - x : Nat) : Int)).f3],u22,u23,u24,u25,u26,u27,u28,u29,u30,u31,u32,u33,u34,u35,u36,u37,u38,u39,u40,u41,u42,u43,u44,u45,u46,u47,u48,u49,u50,u51,u52,u53,u54,u55,u56,u57],defers:=[] } ∧ W.heap[g9]? = some (.cells #[.int .i64 (rd_T36 l0 ((l0.length - 1 - x : Nat) : Int)).f0,.int .i64 (rd_T36 l0 ((l0.length - 1 - x : Nat) : Int)).f1,.int .i64 (rd_T36 l0 ((l0.length - 1 - x : Nat) : Int)).f2,.int .i64 (rd_T36 l0 ((l0.length - 1 - x : Nat) : Int)).f3] 36 (0,0))) (fun x a' => by rintro ⟨⟩ W W' row ⟨g9,e,hb⟩ hg hr;exact ⟨g9,e,blk_ownF hb hg (fun r e => (hr r e).2)⟩) ?assign ?body ?done ?stop
   case assign =>
    intro l' pre x W K hI hK
    gi_wp2
    refine hK _ _ ((KeepsOthers.alloc W _).from _) ⟨Below.heap_alloc _ _ _ hI.2.1,Below.heap_alloc _ _ _ (by have:=hI.2.1;omega)⟩ ⟨opI_below hI.1 hN5 (lA1_ (Below.refl _ _) _),by have:=hI.2.1;simp;omega,fun D hD => bA_ (hI.2.2 D hD) _⟩ ⟨W.heap.size,rfl,blk_new W _⟩
   case body =>
    rintro l' pre x a' W hl' - ⟨HI,hb8,hdm⟩ ⟨g9,rfl,B9⟩ hlt
    have hst : (pre ++ [x]).foldl (opS l0 can) out = opT can (pre.foldl (opS l0 can) out) (l0.length - 1 - x) (rd_T36 l0 ((l0.length - 1 - x : Nat) : Int)):=by rw [List.foldl_append];rfl
    have hlo : (pre.foldl (opS l0 can) out).length = l0.length:=by rw [opF_length];exact HLO.out
    generalize pre.foldl (opS l0 can) out = out1 at HI hlo hst
    obtain ⟨i,hi⟩ : ∃ i,i = l0.length - 1 - x:=⟨_,rfl⟩
    rw [← hi] at B9 hst ⊢
    have hin:=mkOk_at HOK.out (show i < l0.length by omega)
    generalize rd_T36 l0 (i : Int) = y at B9 hin hst ⊢
    have hil : i < l0.length:=by omega
    have hiz : (i : Int) < (l0.length : Int):=by omega
    clear hi
    obtain ⟨g,cg,eg,GG,GL,GC⟩:=Kd.R_form HI.2.1 (by omega)
    rw [hlo] at eg
    have hgN : g < wD.heap.size:=HG5.out g (by rw [eg];rfl)
    injection eg with eg _ ec
    subst eg
    subst ec
    obtain ⟨gc,cc,ec,_,_,_⟩:=Kd.R_form HI.2.2.2.1 (by rw [HLC.out];omega)
    rw [HLC.out] at ec
    injection ec with ec _ ec2
    subst ec
    subst ec2
    have hgad : g ≠ ad.block:=by have:=(hA (by omega)).2;omega
    have n9 : g9 ≠ g:=fun e => Kd.R_ne HI.2.1 B9 (by decide) (by rw [e];rfl)
    have n5 : g5 ≠ g:=fun e => Kd.R_ne HI.2.1 HI.1 (by decide) (by rw [e];rfl)
    have n9':=n9.symm
    have n5':=n5.symm
    have hgD : ∀ D ∈ Ds,D ≠ g:=fun D hD e => by
      obtain ⟨cs,hcs⟩:=GC
      rw [← e,hdm D hD] at hcs
      cases hcs
    have HDB:=Z_ hdm
    have HGD:=Z_ hgD
    clear hdm hgD
    have hgb8 : g ≠ b8:=by have:=HD8.out;omega
    obtain ⟨_,_,_,_,_,_,_,_⟩:=bc4H B9
    obtain ⟨_,_⟩:=bc1H HI.1
    obtain ⟨_,_⟩:=bc1H HI.2.2.1
    obtain ⟨hk,hkf⟩:=rb_get HI.2.1 i hil
    rw [show out1.getD i false = ob out1 (i : Int) from rfl] at hk
    unfold opT at hst
    rw [show out1.getD i false = ob out1 (i : Int) from rfl] at hst
    have hKeep : ∀ j,KeepsFrom W9.heap.size W (W.setCell ⟨g,j,none⟩ (.bool true)) ∧ ((W.setCell ⟨g,j,none⟩ (.bool true)).heap[b8]? = W.heap[b8]? ∧ (W.setCell ⟨g,j,none⟩ (.bool true)).heap[ad.block]? = W.heap[ad.block]?):=fun j => ⟨(KeepsOthers.setCell _ _ _).from _,Below.heap_setCell _ _ _ _ hgb8.symm,Below.heap_setCell _ _ _ _ hgad.symm⟩
    have HH:=Z_ HI
    have HK:=Z_ hKeep
    have HIN:=Z_ hin
    clear HI hKeep hin
    cases hob : ob out1 (i : Int)
    all_goals rw [hob] at hk hst
    ·rw [if_neg (by decide)] at hst
     have HST:=Z_ hst
     clear hob hst
     gi_wp2
     exact ⟨KeepsFrom.refl _ _,⟨rfl,rfl⟩,(by show OpI _ _ _ _ _ _ _ _ _ _ _ _;rw [HST.out];exact HH.out),hb8,HDB.out⟩
    ·rw [if_pos rfl] at hst
     clear hob
     by_cases q3 : y.f0 = 3
     ·obtain ⟨_,_,_⟩:=eqTH q3
      rw [if_pos q3] at hst
      have HST:=Z_ hst
      clear hst
      gi_wp2
      have hp1 : 0 ≤ y.f1 ∧ y.f1 < (l0.length : Int):=by have:=HIN.out;simp [mkIn] at this;omega
      have hp2 : 0 ≤ y.f2 ∧ y.f2 < (l0.length : Int):=by have:=HIN.out;simp [mkIn] at this;omega
      obtain ⟨ha1,hb1⟩:=hp1
      obtain ⟨ha2,hb2⟩:=hp2
      replace HH:=Z_ (opI_below HH.out hN5 (below_drew (Below.refl _ _)))
      replace B9:=bD_ B9
      have HW : Aside0 (KeepsFrom W9.heap.size W W.drew ∧ (W.drew.heap[b8]? = W.heap[b8]? ∧ W.drew.heap[ad.block]? = W.heap[ad.block]?)):=Z_ ⟨(KeepsOthers.drew W).from _,rfl,rfl⟩
      have hb8' : b8 < W.drew.heap.size:=hb8
      have HDE : Aside0 (∀ D ∈ Ds,W.drew.heap[D]? = some (.deferred (some []))):=Z_ (fun D hD => bD_ (HDB.out D hD))
      refine startR_ (n:=10) (S:=fun w' => w'.cell? ⟨g5,0,none⟩ = some (.slice (some ⟨g,0,none⟩) l0.length c5) ∧ w'.cell? ⟨g9,1,none⟩ = some (.int .i64 y.f1) ∧ w'.cell? ⟨g9,2,none⟩ = some (.int .i64 y.f2)) (ds:=[9]) (Bt 10 0) (by kernel_rfl) rfl rfl ⟨(blk_cell HH.out.1 0).trans rfl,(blk_cell B9 1).trans rfl,(blk_cell B9 2).trans rfl⟩ (by kernel_rfl) (fun h => by obtain ⟨_,_,h⟩:=h;exact h) (fun hHeld => ?_)
      generalize W.drew = wE at HH B9 HW hb8' HDE hHeld ⊢
      refine ta_ 0 (some 31) (Bt 10 1) (by kernel_rfl) hHeld ?_
      refine pu_ 1 (some 32) (Bt 10 3) (by kernel_rfl) ?_
      refine ta_ 2 (some 33) (Bt 10 7) (by kernel_rfl) hHeld ?_
      refine ta_ 3 (some 34) (Bt 10 15) (by kernel_rfl) hHeld ?_
      refine pu_ 4 (some 35) (Bt 10 31) (by kernel_rfl) ?_
      refine ta_ 5 (some 36) (Bt 10 63) (by kernel_rfl) hHeld ?_
      refine pu_ 6 (some 37) (Bt 10 127) (by kernel_rfl) ?_
      obtain ⟨hx1,hf1⟩:=Kd.R_celln false HH.out.2.1 y.f1 ha1 hb1
      refine one_ (i:=7) (N:=none) (Bt 10 255) rfl rfl (by kernel_rfl) (by decide) (fun K hK => ?_)
      refine skip_ (w1:=?_) (by rfl) rfl ?_ ?_
      rotate_left
      ·go_simp
       rfl
      have HH2:=Z_ (opI_put HH.out hgN (by rw [hlo];omega) y.f1.toNat)
      have B92:=bF_ B9 (p:=⟨g,y.f1.toNat,none⟩) n9 (.bool true)
      replace HW : Aside0 (KeepsFrom W9.heap.size W (wE.setCell ⟨g,y.f1.toNat,none⟩ (.bool true)) ∧ ((wE.setCell ⟨g,y.f1.toNat,none⟩ (.bool true)).heap[b8]? = W.heap[b8]? ∧ (wE.setCell ⟨g,y.f1.toNat,none⟩ (.bool true)).heap[ad.block]? = W.heap[ad.block]?)):=Z_ ⟨HW.out.1.trans ((KeepsOthers.setCell _ _ _).from _),(Below.heap_setCell _ _ _ _ hgb8.symm).trans HW.out.2.1,(Below.heap_setCell _ _ _ _ hgad.symm).trans HW.out.2.2⟩
      have HDF : Aside0 (∀ D ∈ Ds,(wE.setCell ⟨g,y.f1.toNat,none⟩ (.bool true)).heap[D]? = some (.deferred (some []))):=Z_ (fun D hD => (Below.heap_setCell _ _ _ _ (HGD.out D hD)).trans (HDE.out D hD))
      have hb9 : b8 < (wE.setCell ⟨g,y.f1.toNat,none⟩ (.bool true)).heap.size:=by simpa using hb8'
      refine hK.out _ _ ⟨(blk_cell HH2.out.1 0).trans rfl,(blk_cell B92 1).trans rfl,(blk_cell B92 2).trans rfl⟩ (fun hHeld => ?_)
      clear hK K
      generalize wE.setCell ⟨g,y.f1.toNat,none⟩ (.bool true) = wF at HH2 B92 HW hb9 HDF hHeld ⊢
      obtain ⟨hx2,hf2⟩:=Kd.R_celln false HH2.out.2.1 y.f2 ha2 hb2
      refine pu_ 8 (some 38) (Bt 10 511) (by kernel_rfl) ?_
      refine last_ (i:=9) (N:=none) (Bt 10 1023) rfl rfl (by kernel_rfl) (by decide) (fun K hK => ?_)
      refine skip_ (w1:=?_) (by rfl) rfl ?_ ?_
      rotate_left
      ·go_simp
       rfl
      refine hK.out _ _ ?_
      clear hK K
      refine done_ (by kernel_rfl) ?_
      try gi_wp2
      exact ⟨HW.out.1.trans ((KeepsOthers.setCell _ _ _).from _),⟨(Below.heap_setCell _ _ _ _ hgb8.symm).trans HW.out.2.1,(Below.heap_setCell _ _ _ _ hgad.symm).trans HW.out.2.2⟩,(by show OpI _ _ _ _ _ _ _ _ _ _ _ _;rw [HST.out];exact opI_put HH2.out hgN (by rw [List.length_set,hlo];omega) _),by simpa using hb9,fun D hD => (Below.heap_setCell _ _ _ _ (HGD.out D hD)).trans (HDF.out D hD)⟩
     ·have HQ3:=Z_ q3
      rw [if_neg q3] at hst
      obtain ⟨_,_,_⟩:=eqFH q3
      clear q3
      by_cases q5 : y.f0 = 5
      ·obtain ⟨_,_,_⟩:=eqTH q5
       have hp1 : 0 ≤ y.f1 ∧ y.f1 < (l0.length : Int):=by have:=HIN.out;simp [mkIn] at this;omega
       have hp2 : 0 ≤ y.f2 ∧ y.f2 < (l0.length : Int):=by have:=HIN.out;simp [mkIn] at this;omega
       obtain ⟨ha1,hb1⟩:=hp1
       obtain ⟨ha2,hb2⟩:=hp2
       have hcn : W.cell? ⟨gc,y.f1.toNat,none⟩ = some (.bool (ob can y.f1)):=(Kd.R_celln false HH.out.2.2.2.1 y.f1 ha1 hb1).1
       obtain ⟨hx2,hf2⟩:=Kd.R_celln false HH.out.2.1 y.f2 ha2 hb2
       cases hoc : ob can y.f1
       all_goals rw [hoc] at hcn hst
       ·rw [if_neg (fun h => by simp at h)] at hst
        have HST:=Z_ hst
        clear hst hoc q5
        gi_wp2
        exact ⟨KeepsFrom.refl _ _,⟨rfl,rfl⟩,(by show OpI _ _ _ _ _ _ _ _ _ _ _ _;rw [HST.out];exact HH.out),hb8,HDB.out⟩
       ·rw [if_pos ⟨q5,rfl⟩] at hst
        have HST:=Z_ hst
        clear hst hoc q5
        gi_wp2
        exact ⟨(HK.out y.f2.toNat).1,(HK.out y.f2.toNat).2,(by show OpI _ _ _ _ _ _ _ _ _ _ _ _;rw [HST.out];exact opI_put HH.out hgN (by rw [hlo];omega) _),by simpa using hb8,fun D hD => (Below.heap_setCell _ _ _ _ (HGD.out D hD)).trans (HDB.out D hD)⟩
      ·obtain ⟨_,_,_⟩:=eqFH q5
       rw [if_neg (fun h => q5 h.1)] at hst
       have HST:=Z_ hst
       clear hst q5
       gi_wp2
       exact ⟨KeepsFrom.refl _ _,⟨rfl,rfl⟩,(by show OpI _ _ _ _ _ _ _ _ _ _ _ _;rw [HST.out];exact HH.out),hb8,HDB.out⟩
   case done =>
    rintro D ys W hD rfl ⟨HI2,hb8,hdm⟩ hK
    have hND : w.heap.size ≤ D:=by have:=blk_lt HI.out.1;omega
    have hDn : D ∉ Ds:=fun h => by have:=HDL.out D h;omega
    have HDN2:=Z_ (List.nodup_cons.2 ⟨hDn,HDN.out⟩)
    have hr2 : (List.range l0.length).foldl (opS l0 can) out = opRnd l0 out:=by rw [HCAN.out];rfl
    try dsimp only at HI2
    rw [hr2] at HI2
    clear hr2
    have hlo : (opRnd l0 out).length = out.length:=opF_length _ _ _ _
    obtain ⟨out2,h2⟩ : ∃ out2,out2 = opRnd l0 out:=⟨_,rfl⟩
    rw [← h2] at HI2 hlo
    have H:=H'.out
    clear H'
    rw [← h2] at H
    clear h2
    have heq:=fun W h0 h1 => slices_Equal_bool_bool.calls (out.length + 1) a3 c14 out A5 c5 out2 (decide (out = out2)) W h0 (by rw [HLO.out];exact a6.out) h1 (by rw [hlo,HLO.out];exact a9.out) (eqB_f out out2 hlo.symm (by have:=HLO.out;have:=HL4.out;omega))
    rw [hlo,HLO.out] at heq
    replace H:=iC_ H
    obtain ⟨hq,H⟩ | ⟨hq,H⟩:=H
    rotate_left
    ·rw [decide_eq_false hq] at heq
     have H':=Z_ H
     clear H hq
     obtain ⟨_,_⟩:=bc1H HI2.1
     go_wp2_with (go_at_call 100;refine (heq _ (by have h_:=(Kd.R_reads' HI2.2.2.2.2.1).2.2;rw [HLO.out] at h_;exact h_) (by have h_:=(Kd.R_reads' HI2.2.1).2.2;rw [hlo,HLO.out] at h_;exact h_)).mono ?_;rintro e w' ⟨rfl,⟨nd,rfl⟩⟩)
     refine Handed.intro k1 (Nat.lt_succ_self _) (hJ _ _ _ ⟨_,_,_,_,_,_,_,_,_,_,_,_,_,_,_,_,_,_,_,_,_,_,_,_,_,_,_,_,_,_,_,_,_,_,_,_,_,_,_,_,_,_,_,_,_,_,_,_,out2,D :: Ds,rfl,H',⟨by rw [hlo];exact HLO.out⟩,⟨bN_ HI2.1 nd⟩,⟨rN_ HI2.2.1 nd⟩,⟨lN_ HI2.2.2.2.2.2 nd⟩,HDN2,⟨fun D' h' => ?_⟩⟩)
     rcases List.mem_cons.1 h' with rfl | h'
     ·exact ⟨hND,bN_ hK nd⟩
     ·exact ⟨HDMN.out D' h',bN_ (hdm D' h') nd⟩
    rotate_right
    obtain rfl:=Option.some.inj H
    rw [decide_eq_true hq] at heq
    clear H hq
    obtain ⟨_,_⟩:=bc1H HI2.1
    go_wp2_with (go_at_call 100;refine (heq _ (by have h_:=(Kd.R_reads' HI2.2.2.2.2.1).2.2;rw [HLO.out] at h_;exact h_) (by have h_:=(Kd.R_reads' HI2.2.1).2.2;rw [hlo,HLO.out] at h_;exact h_)).mono ?_;rintro e w' ⟨rfl,⟨nd,rfl⟩⟩)
    show LeavesInM Fence.wide 6 _ _ _ _ ((D :: Ds).map mk_) .returning _
    refine leaves_marks (fun W => Kd.bool.R 4 W w.heap.size (fun _ => True) (.slice A5 l0.length c5) out2 ∧ Below w.heap.size w W) w.heap.size (fun W D h hN hd => ⟨R_ownF h.1 (grownBy_putObj' W D _) (fun r e => by cases e;exact ⟨_,hd,rfl⟩),pw_below_grown h.2 (some D) (by have:=blk_lt hd;omega) (grownBy_putObj' W D _) (fun k e => by cases e;exact hN)⟩) (fun W h => ⟨_,results_tmp rfl _ _ _,_,rfl,h⟩) (D :: Ds) _ HDN2.out (fun D' h' => ?_) ⟨rN_ HI2.2.1 nd,lN_ HI2.2.2.2.2.2 nd⟩
    rcases List.mem_cons.1 h' with rfl | h'
    ·exact ⟨hND,bN_ hK nd⟩
    ·exact ⟨HDMN.out D' h',bN_ (hdm D' h') nd⟩
   case stop =>
    rintro D c pre W _ _ h _
    exact h.elim
end
end Go.Proofs.Ytpabeajjbifjdaa.G
namespace Go.Proofs.Ytpabeajjbifjdaa.G
open Go.RowKit Go.Proofs.YtpabeajjbifjdaaW.PrintWords Go.Proofs.YtpabeajjbifjdaaW.PrintLast Go.Proofs.YtpabeajjbifjdaaW.PrintMore
attribute [local go_sem] max2_int min2_int max_two min_two max_three min_three max_four min_four   -- for this text's walks alone
set_option linter.unusedVariables false
set_option linter.unusedSimpArgs false
def impl_Derives.f (k : Nat) (l0 : List (S36)) (l1 : List Int) (a2 : Int) : Option (Bool):=(impl_KnownFault.f k l0 l1).bind fun t321 => (if t321 = 0 then ((impl_isPlace.f l0 a2).bind fun t322 => (if t322 = true then ((impl_opened.f k l0 l1).bind fun t323 => ((impl_makeable.f l0 t323).bind fun t326 => (if 0 ≤ a2 then (if a2 < (t326.length : Int) then (some (rdOf false t326 a2)) else (none)) else (none)))) else (some false))) else (some false))
set_option maxHeartbeats 8000000 in
set_option maxRecDepth 100000 in
theorem impl_Derives.calls (k : Nat) (A0 : Option Addr) (c0 : Nat) (l0 : List (S36)) (A1 : Option Addr) (c1 : Nat) (l1 : List Int) (a2 : Int) (r : Bool) (w : World) (hr0 : Kd.C k36 w A0 l0.length l0) (hc0 : l0.length ≤ c0) (hr1 : Kd.C (Kd.int .i64) w A1 l1.length l1) (hc1 : l1.length ≤ c1) (h : impl_Derives.f k l0 l1 a2 = some r) :
  Calls Try.prog 12 #[.slice A0 l0.length c0,.slice A1 l1.length c1,.int .i64 a2] w fun e w' => e = .returned (.bool r) ∧ Below w.heap.size w w':=by
 have a1:=Z_ hr0
 have a3:=Z_ hc0
 clear hr0 hc0
 have a4:=Z_ hr1
 have a5:=Z_ hc1
 clear hr1 hc1
 have HB:=Z_ (Below.refl w.heap.size w)
 unfold impl_Derives.f at h
 have H:=h
 clear h
 replace H:=bS_ H
 obtain ⟨t321,A4,H⟩:=H
 replace H:=iE_ H
 obtain ⟨c5b0,c5b1,H⟩ | ⟨c5b0,c5b1,H⟩:=H
 replace H:=bS_ H
 obtain ⟨t322,A6,H⟩:=H
 replace H:=iB_ H
 obtain ⟨rfl,H⟩ | ⟨rfl,H⟩:=H
 replace H:=bS_ H
 obtain ⟨t323,A8,H⟩:=H
 replace H:=bS_ H
 obtain ⟨t326,A9,H⟩:=H
 replace H:=iM_ H
 obtain ⟨c10b0,H⟩:=H
 replace H:=iM_ H
 obtain ⟨c11b0,H⟩:=H
 all_goals
  obtain rfl:=Option.some.inj H
  go_enter Try.func12,Try.ntmps12
  go_wp2_with (first | (go_at_call 55;(with_reducible refine (impl_makeable.calls _ _ l0 _ _ t323 t326 _ ?side1 ?side2 ?side3 ?side4 A9.out).mono ?_);(case side1 => exact Cb_ a1);(case side2 => exact a3.out);(case side3 => exact Rc_ a0);(case side4 => exact (Kd.R_reads' a0.out).2.1);rintro e w15 ⟨v327,rfl,ho0,hb⟩;have a6:=Z_ (Kd.R_lower (Kd.R_new' ho0 (Kd.R_lt a0.out)) (below_size HB.out));replace a0:=Z_ (Kd.R_elder' a0.out (Kd.R_base ho0) hb);replace HB:=Z_ (lP_ HB.out hb);(try clear hb);(try clear ho0);obtain ⟨ad,ae,eo16⟩:=Kd.R_slice a6.out;subst eo16;have p329 : 0 ≤ (a2 : Int):=dA_;have q329 : a2 < (t326.length : Int):=dA_;obtain ⟨ad329,e329,hx329_0⟩:=Kd.at_bool (Kd.R_reads' a6.out).2.2 a2 p329 q329;cases e329;replace p329:=eq_true p329;replace q329:=eq_true q329) | ((with_reducible refine gate_callee (f:=53) rfl ?_);refine goesA_ (some 9) rfl rfl Try.func53 (by kernel_rfl) rfl #[.slice A0 l0.length c0,.slice A1 l1.length c1] rfl ?_;(with_reducible refine (impl_KnownFault.calls k _ _ l0 _ _ l1 t321 _ ?side1 ?side2 ?side3 ?side4 A4.out).mono ?_);(case side1 => repeat (first | exact a1.out | (with_reducible refine Kd.C_alloc ?_ _) | (with_reducible refine Kd.C_drewN ?_ _) | (with_reducible refine Kd.C_drew ?_)));(case side2 => exact a3.out);(case side3 => repeat (first | exact a4.out | (with_reducible refine Kd.C_alloc ?_ _) | (with_reducible refine Kd.C_drewN ?_ _) | (with_reducible refine Kd.C_drew ?_)));(case side4 => exact a5.out);rintro e w17 ⟨rfl,hb⟩;refine ⟨_,rfl,?_⟩;replace HB:=Z_ (lP_ Lb_ hb);(try clear hb)) | (go_at_call 54;(with_reducible refine (impl_isPlace.calls _ _ l0 a2 _ _ ?side1 ?side2 A6.out).mono ?_);(case side1 => exact Cb_ a1);(case side2 => exact a3.out);rintro e w' ⟨rfl,⟨nd,rfl⟩⟩) | (go_at_call 56;(with_reducible refine (impl_opened.calls k _ _ l0 _ _ l1 t323 _ ?side1 ?side2 ?side3 ?side4 A8.out).mono ?_);(case side1 => exact Cb_ a1);(case side2 => exact a3.out);(case side3 => exact Cb_ a4);(case side4 => exact a5.out);rintro e w13 ⟨v324,rfl,ho0,hb⟩;have a0:=Z_ (Kd.R_lower ho0 (below_size Lb_));replace HB:=Z_ (lP_ Lb_ hb);(try clear hb);(try clear ho0);obtain ⟨ab,ac,eo14⟩:=Kd.R_slice a0.out;subst eo14))
  go_ret
  exact ⟨Er_,Lb_⟩
end Go.Proofs.Ytpabeajjbifjdaa.G
