/- Part 5 of the proof of FnExactKnownTo: what the functions on its road do, and the plain laws. -/
import Derived.Test.YtcafikgabidphaaGreatCFnExactKnownTo4
namespace Go.Proofs.YtcafikgabidphaaGreat.G
open Go.RowKit Go.Proofs.YtcafikgabidphaaGreatW.PrintWords Go.Proofs.YtcafikgabidphaaGreatW.PrintLast Go.Proofs.YtcafikgabidphaaGreatW.PrintMore
attribute [local go_sem] max2_int min2_int max_two min_two max_three min_three max_four min_four   -- for this text's walks alone
set_option linter.unusedVariables false
set_option linter.unusedSimpArgs false
def impl_flags.l0 : Nat → List Bool → List Int → Int → Int → Option (List Bool)
 | 0,_,_,_,_ => none
 | k + 1,x5,x11,x12,x13 => if x13 < x12 then (if 0 ≤ x13 then (if x13 < (x11.length : Int) then (if 0 ≤ (rd x11 x13) then (if (rd x11 x13) < (x5.length : Int) then (impl_flags.l0 k (x5.set ((rd x11 x13) : Int).toNat true) x11 x12 (wrap64 (x13 + 1))) else (none)) else (none)) else (none)) else (none)) else (some x5)
def impl_flags.f (k : Nat) (l0 : List (S83)) (l1 : List Int) : Option (List Bool):=if 0 ≤ (l0.length : Int) then (if ((l0.length : Int) : Int).toNat ≤ 281474976710656 then (impl_flags.l0 k (List.replicate ((l0.length : Int) : Int).toNat false) l1 (l1.length : Int) 0) else (none)) else (none)
set_option maxHeartbeats 8000000 in
set_option maxRecDepth 100000 in
theorem impl_flags.calls (k : Nat) (A0 : Option Addr) (c0 : Nat) (l0 : List (S83)) (A1 : Option Addr) (c1 : Nat) (l1 : List Int) (r : List Bool) (w : World) (hr0 : Kd.C k83 w A0 l0.length l0) (hc0 : l0.length ≤ c0) (hr1 : Kd.C (Kd.int .i64) w A1 l1.length l1) (hc1 : l1.length ≤ c1) (h : impl_flags.f k l0 l1 = some r) :
  Calls Tryz.prog 69 #[.slice A0 l0.length c0,.slice A1 l1.length c1] w fun e w' => ∃ v0_ : Value,e = .returned (v0_) ∧ Kd.R Kd.bool 4 w' w.heap.size (fun _ => True) v0_ r ∧ Below w.heap.size w w':=by
 have a8:=Z_ hr0
 have a9:=Z_ hc0
 clear hr0 hc0
 have a7:=Z_ hr1
 have aa:=Z_ hc1
 clear hr1 hc1
 have HB:=Z_ (Below.refl w.heap.size w)
 unfold impl_flags.f at h
 have H:=h
 clear h
 replace H:=iN_ H
 obtain ⟨c3,H⟩:=H
 have c3b0:=eq_true c3
 have c3b1 : decide (0 ≤ (l0.length : Int)) = true:=decide_eq_true c3
 clear c3
 replace H:=iN_ H
 obtain ⟨c4,H⟩:=H
 have c4b0:=eq_true c4
 have c4b1 : decide (((l0.length : Int) : Int).toNat ≤ 281474976710656) = true:=decide_eq_true c4
 clear c4
 obtain ⟨y425,hy425⟩ : ∃ y_ : List Bool,y_ = (List.replicate ((l0.length : Int) : Int).toNat false):=⟨_,rfl⟩
 replace H : (impl_flags.l0 k y425 l1 (l1.length : Int) 0) = some r:=by first | (rw [hy425];with_reducible exact H) | (have H2_:=(Option.bind_some _ _).symm.trans H;rw [hy425];with_reducible exact H2_) | (have H2_:=(Option.bind_some _ _).symm.trans H;with_reducible exact H2_) | with_reducible exact H | (rw [hy425];exact H) | exact H
 have a1:=Z_ hy425
 clear hy425
 have H':=Z_ H
 clear H
 go_enter Tryz.func69,Tryz.ntmps69
 go_wp2_with (first | ((with_reducible refine gD_ 10 rfl ?_);refine Kd.R_make Kd.bool _ 4 rfl (N:=10) rfl 57 _ _ rfl (l0.length : Int) rfl rfl Tryz.underlying57 (.bool false) 1 info4 rfl (by decide) (by omega) false (ok:=fun _ => True) (okp:=fun _ => True) rfl (fun _ hk => hk) trivial (dA_) (Nat.le_trans (Nat.mul_le_mul_right _ (dA_ : (l0.length : Int).toNat ≤ 281474976710656)) (by omega)) (Below.refl _ _) (Nat.le_refl _) ?_;intro v426 w5 ho6 hb hg_ hnew_;clear hg_ hnew_;(first | rw [← a1.out] at ho6 | (simp only [Int.reduceToNat] at ho6;rw [← a1.out] at ho6));have a3:=Z_ (Kd.R_lower ho6 (below_size HB.out));replace HB:=Z_ (lP_ HB.out hb);clear hb ho6))
 go_loopg [13] k (fun kq v13 w' => ∃ (x5_1 : List Bool) (x13_1 : Int),v13 = .int .i64 x13_1 ∧ Aside0 (impl_flags.l0 kq x5_1 l1 (l1.length : Int) x13_1 = some r) ∧ Aside0 (kq ≤ k) ∧ Aside0 (Kd.R Kd.bool 4 w' w.heap.size (fun _ => True) v426 x5_1) ∧ Aside0 (Below w.heap.size w w'))
 case atStart => exact ⟨(y425),(0),Sr_,H',⟨Nat.le_refl _⟩,⟨Rk_ a3⟩,⟨Lb_⟩⟩
 case round =>
  clear H'
  try clear c1
  try clear p2
  try clear c3
  try clear c3b0
  try clear c3b1
  try clear c4
  try clear c4b0
  try clear c4b1
  try clear c6
  obtain ⟨x5_1,x13_1,rfl,HA,HK1,a0,HB⟩:=hrel
  cases gk with
  | zero => exact absurd HA.out (by simp [impl_flags.l0])
  | succ k1 =>
   have H:=HA.out
   clear HA
   simp only [impl_flags.l0] at H
   replace H:=iD_ H
   obtain ⟨c7b0,H⟩ | ⟨c7b0,H⟩:=H
   rotate_left
   ·obtain rfl:=Option.some.inj H
    go_wp2
    go_ret
    exact ⟨_,Er_,Rk_ a0,Lb_⟩
   rotate_right
   replace H:=iM_ H
   obtain ⟨c8b0,H⟩:=H
   replace H:=iM_ H
   obtain ⟨c9b0,H⟩:=H
   replace H:=iM_ H
   obtain ⟨c10b0,H⟩:=H
   replace H:=iM_ H
   obtain ⟨c11b0,H⟩:=H
   obtain ⟨y429,hy429⟩ : ∃ y_ : List Bool,y_ = (x5_1.set ((rd l1 x13_1) : Int).toNat true):=⟨_,rfl⟩
   replace H : (impl_flags.l0 k1 y429 l1 (l1.length : Int) (wrap64 (x13_1 + 1))) = some r:=by first | (rw [hy429];with_reducible exact H) | (have H2_:=(Option.bind_some _ _).symm.trans H;rw [hy429];with_reducible exact H2_) | (have H2_:=(Option.bind_some _ _).symm.trans H;with_reducible exact H2_) | with_reducible exact H | (rw [hy429];exact H) | exact H
   have a4:=Z_ hy429
   clear hy429
   have H':=Z_ H
   clear H
   have p428 : 0 ≤ (x13_1 : Int):=dA_
   have q428 : x13_1 < (l1.length : Int):=dA_
   obtain ⟨ad428,e428,hx428_0⟩:=Kd.at_int a7.out x13_1 p428 q428
   cases e428
   replace hx428_0:=cB_ HB hx428_0
   replace p428:=eq_true p428
   replace q428:=eq_true q428
   have p12 : 0 ≤ ((rd l1 x13_1) : Int):=dA_
   have q12 : ((rd l1 x13_1) : Int) < ((x5_1.length : Int) : Int):=dA_
   obtain ⟨go12,a5,eo12,a2,gl12,cl12,HG12⟩:=Kd.R_form a0.out (by omega)
   (first | cases eo12 | (injection eo12 with ea_ en_ ec_;(first | subst ea_ | (injection ea_ with ea_;subst ea_));subst ec_;clear en_))
   have a6:=Z_ a2
   have GG12:=Z_ HG12
   clear a2 gl12 HG12
   obtain ⟨hx12_0,hf12_0⟩:=Kd.R_celln false a0.out ((rd l1 x13_1) : Int) p12 q12
   replace p12:=eq_true p12
   replace q12:=eq_true q12
   have HP13:=Kd.R_putg a0.out ((rd l1 x13_1) : Int) true
   go_wp2_with (first | ((with_reducible refine gate_store (t:=4) (p:=19) rfl ?_);refine store_event (t:=4) (p:=19) (v:=?vo_w14) (w1:=(wr.setCell ⟨go12,((rd l1 x13_1) : Int).toNat,none⟩ (.bool true))) ?hg ?ho ?hn ?hr ?_;(case ho => rfl);(case hg => rfl);(case hn => rfl);(case hr => first | (go_simp;done) | (go_simp;rfl));intro w14 hw;have hg : wr.grownBy w14 (some go12):=(by rw [hw];exact HP13.2);have hp_ : Kd.R Kd.bool 4 w14 w.heap.size (fun _ => True) (.slice (some ⟨go12,0,none⟩) x5_1.length a5) y429:=(by rw [hw,a4.out];exact HP13.1);clear HP13;replace a0:=Z_ (hp_);replace HB:=Z_ ((by rw [hw];exact lS1_ (HB.out) a6.out : Below w.heap.size w w14));clear hg hw hp_))
   go_roundg k1
   case measure => have:=HK1.out;omega
   case rel => exact ⟨(y429),(wrap64 (x13_1 + 1)),Sr_,H',⟨by have:=HK1.out;omega⟩,⟨Rk_ a0⟩,⟨Lb_⟩⟩
def slices_Index_int64_int64.l0 : Nat → List Int → Int → Int → Int → Option (Int)
 | 0,_,_,_,_ => none
 | k + 1,x0,x1,x7,x8 => if x8 < x7 then (if 0 ≤ x8 then (if x8 < (x0.length : Int) then (if x1 = (rd x0 x8) then (some x8) else (slices_Index_int64_int64.l0 k x0 x1 x7 (wrap64 (x8 + 1)))) else (none)) else (none)) else (some (-1))
def slices_Index_int64_int64.f (k : Nat) (l0 : List Int) (a1 : Int) : Option (Int):=slices_Index_int64_int64.l0 k l0 a1 (l0.length : Int) 0
set_option maxHeartbeats 8000000 in
set_option maxRecDepth 100000 in
theorem slices_Index_int64_int64.calls (k : Nat) (A0 : Option Addr) (c0 : Nat) (l0 : List Int) (a1 r : Int) (w : World) (hr0 : Kd.C (Kd.int .i64) w A0 l0.length l0) (hc0 : l0.length ≤ c0) (h : slices_Index_int64_int64.f k l0 a1 = some r) :
  Calls Tryz.prog 90 #[.slice A0 l0.length c0,.int .i64 a1] w fun e w' => e = .returned (.int .i64 r) ∧ Drawn0 w w':=by
 have HR0:=Z_ hr0
 have HC0:=Z_ hc0
 clear hr0 hc0
 unfold slices_Index_int64_int64.f at h
 have H:=h
 clear h
 have H':=Z_ H
 clear H
 go_enter Tryz.func90,Tryz.ntmps90
 go_wp2
 go_loopg [8] k (fun kq v8 w' => ∃ (x8_1 : Int),v8 = .int .i64 x8_1 ∧ Aside0 (slices_Index_int64_int64.l0 kq l0 a1 (l0.length : Int) x8_1 = some r) ∧ Aside0 (kq ≤ k) ∧ Drawn0 w w')
 case atStart => exact ⟨(0),Sr_,H',⟨Nat.le_refl _⟩,by repeat (first | exact Drawn0.refl _ | apply Drawn0.step)⟩
 case round =>
  clear H'
  try clear p2
  obtain ⟨x8_1,rfl,HA,HK1,⟨m1,rfl⟩⟩:=hrel
  cases gk with
  | zero => exact absurd HA.out (by simp [slices_Index_int64_int64.l0])
  | succ k1 =>
   have H:=HA.out
   clear HA
   simp only [slices_Index_int64_int64.l0] at H
   replace H:=iD_ H
   obtain ⟨c3b0,H⟩ | ⟨c3b0,H⟩:=H
   rotate_left
   ·obtain rfl:=Option.some.inj H
    go_wp2
    go_ret
    exact ⟨by first | rfl | (simp;done) | (simp [*];done),by repeat (first | exact Drawn0.refl _ | apply Drawn0.step)⟩
   rotate_right
   replace H:=iM_ H
   obtain ⟨c4b0,H⟩:=H
   replace H:=iM_ H
   obtain ⟨c5b0,H⟩:=H
   replace H:=iE_ H
   obtain ⟨c6b0,c6b1,H⟩ | ⟨c6b0,c6b1,H⟩:=H
   ·obtain rfl:=Option.some.inj H
    have p430 : 0 ≤ (x8_1 : Int):=dA_
    have q430 : x8_1 < (l0.length : Int):=dA_
    obtain ⟨ad430,e430,hx430_0⟩:=Kd.at_int HR0.out x8_1 p430 q430
    cases e430
    replace p430:=eq_true p430
    replace q430:=eq_true q430
    go_wp2
    go_ret
    exact ⟨by first | rfl | (simp;done) | (simp [*];done),by repeat (first | exact Drawn0.refl _ | apply Drawn0.step)⟩
   have H':=Z_ H
   clear H
   have p430 : 0 ≤ (x8_1 : Int):=dA_
   have q430 : x8_1 < (l0.length : Int):=dA_
   obtain ⟨ad430,e430,hx430_0⟩:=Kd.at_int HR0.out x8_1 p430 q430
   cases e430
   replace p430:=eq_true p430
   replace q430:=eq_true q430
   go_wp2
   go_roundg k1
   case measure => have:=HK1.out;omega
   case rel => exact ⟨(wrap64 (x8_1 + 1)),Sr_,H',⟨by have:=HK1.out;omega⟩,by repeat (first | exact Drawn0.refl _ | apply Drawn0.step)⟩
def slices_Contains_int64_int64.f (k : Nat) (l0 : List Int) (a1 : Int) : Option (Bool):=(slices_Index_int64_int64.f k l0 a1).bind fun t431 => (some (decide (t431 ≥ 0)))
set_option maxHeartbeats 8000000 in
set_option maxRecDepth 100000 in
theorem slices_Contains_int64_int64.calls (k : Nat) (A0 : Option Addr) (c0 : Nat) (l0 : List Int) (a1 : Int) (r : Bool) (w : World) (hr0 : Kd.C (Kd.int .i64) w A0 l0.length l0) (hc0 : l0.length ≤ c0) (h : slices_Contains_int64_int64.f k l0 a1 = some r) :
  Calls Tryz.prog 70 #[.slice A0 l0.length c0,.int .i64 a1] w fun e w' => e = .returned (.bool r) ∧ Drawn0 w w':=by
 have HR0:=Z_ hr0
 have HC0:=Z_ hc0
 clear hr0 hc0
 unfold slices_Contains_int64_int64.f at h
 have H:=h
 clear h
 replace H:=bS_ H
 obtain ⟨t431,A3,H⟩:=H
 obtain rfl:=Option.some.inj H
 go_enter Tryz.func70,Tryz.ntmps70
 go_wp2_with (first | ((with_reducible refine gate_callee (f:=90) rfl ?_);refine goesA_ (some 7) rfl rfl Tryz.func90 (by kernel_rfl) rfl #[.slice A0 l0.length c0,.int .i64 a1] rfl ?_;(with_reducible refine (slices_Index_int64_int64.calls k _ _ l0 a1 t431 _ ?side1 ?side2 A3.out).mono ?_);(case side1 => repeat (first | exact HR0.out | (with_reducible refine Kd.C_alloc ?_ _) | (with_reducible refine Kd.C_drewN ?_ _) | (with_reducible refine Kd.C_drew ?_)));(case side2 => exact HC0.out);rintro e w' ⟨rfl,⟨nd,rfl⟩⟩;refine ⟨_,rfl,?_⟩))
 go_ret
 exact ⟨by first | rfl | (simp;done) | (simp [*];done),by repeat (first | exact Drawn0.refl _ | apply Drawn0.step)⟩
def impl_risen.l0 : Nat → List Int → List Bool → Int → Int → Option (List Int)
 | 0,_,_,_,_ => none
 | k + 1,x3,x7,x8,x9 => if x9 < x8 then (if 0 ≤ x9 then (if x9 < (x7.length : Int) then (if rdOf false x7 x9 = true then (if x3.length < 17592186044416 then (impl_risen.l0 k (x3 ++ [x9]) x7 x8 (wrap64 (x9 + 1))) else (none)) else (impl_risen.l0 k x3 x7 x8 (wrap64 (x9 + 1)))) else (none)) else (none)) else (some x3)
def impl_risen.f (k : Nat) (l0 : List Bool) : Option (List Int):=impl_risen.l0 k (([] : List Int)) l0 (l0.length : Int) 0
set_option maxHeartbeats 8000000 in
set_option maxRecDepth 100000 in
theorem impl_risen.calls (k : Nat) (A0 : Option Addr) (c0 : Nat) (l0 : List Bool) (r : List Int) (w : World) (hr0 : Kd.C Kd.bool w A0 l0.length l0) (hc0 : l0.length ≤ c0) (h : impl_risen.f k l0 = some r) :
  Calls Tryz.prog 71 #[.slice A0 l0.length c0] w fun e w' => ∃ v0_ : Value,e = .returned (v0_) ∧ Kd.R (Kd.int .i64) 2 w' w.heap.size (fun _ => True) v0_ r ∧ Below w.heap.size w w':=by
 have a5:=Z_ hr0
 have a7:=Z_ hc0
 clear hr0 hc0
 have HB:=Z_ (Below.refl w.heap.size w)
 unfold impl_risen.f at h
 have H:=h
 clear h
 obtain ⟨y432,hy432⟩ : ∃ y_ : List Int,y_ = (([] : List Int)):=⟨_,rfl⟩
 replace H : (impl_risen.l0 k y432 l0 (l0.length : Int) 0) = some r:=by first | (rw [hy432];with_reducible exact H) | (have H2_:=(Option.bind_some _ _).symm.trans H;rw [hy432];with_reducible exact H2_) | (have H2_:=(Option.bind_some _ _).symm.trans H;with_reducible exact H2_) | with_reducible exact H | (rw [hy432];exact H) | exact H
 have a1:=Z_ hy432
 clear hy432
 have H':=Z_ H
 clear H
 go_enter Tryz.func71,Tryz.ntmps71
 go_wp2_with (first | ((with_reducible refine gD_ 6 rfl ?_);refine Kd.R_lit (Kd.int .i64) _ 2 ?hg (N:=6) ?hd (xs:=([] : List Int)) (inner:=[]) (ok:=fun _ => True) (okp:=fun _ => True) ?hr ?hp (fun _ hk => hk) trivial (Below.refl _ _) (Nat.le_refl _) (by simp) ?_;(case hd => rfl);(case hg => rfl);(case hr => first | (go_simp;done) | (go_simp;rfl));(case hp => exact (Reps.none _ _));intro v433 w2 ho3 hb hg_ hnew_;clear hg_ hnew_;(first | rw [← a1.out] at ho3 | (simp only [Int.reduceToNat] at ho3;rw [← a1.out] at ho3));have a2:=Z_ (Kd.R_lower ho3 (below_size HB.out));replace HB:=Z_ (lP_ HB.out hb);clear hb ho3))
 go_loopg [3,9] k (fun kq v3 v9 w' => ∃ (x3_1 : List Int) (x9_1 : Int),v9 = .int .i64 x9_1 ∧ Aside0 (impl_risen.l0 kq x3_1 l0 (l0.length : Int) x9_1 = some r) ∧ Aside0 (kq ≤ k) ∧ Aside0 (Kd.R (Kd.int .i64) 2 w' w.heap.size (fun _ => True) v3 x3_1) ∧ Aside0 (Below w.heap.size w w'))
 case atStart => exact ⟨(y432),(0),Sr_,H',⟨Nat.le_refl _⟩,⟨Rk_ a2⟩,⟨Lb_⟩⟩
 case round =>
  clear H'
  try clear p2
  obtain ⟨x3_1,x9_1,rfl,HA,HK1,a0,HB⟩:=hrel
  cases gk with
  | zero => exact absurd HA.out (by simp [impl_risen.l0])
  | succ k1 =>
   have H:=HA.out
   clear HA
   simp only [impl_risen.l0] at H
   replace H:=iD_ H
   obtain ⟨c4b0,H⟩ | ⟨c4b0,H⟩:=H
   rotate_left
   ·obtain rfl:=Option.some.inj H
    go_wp2
    go_ret
    exact ⟨_,Er_,Rk_ a0,Lb_⟩
   rotate_right
   replace H:=iM_ H
   obtain ⟨c5b0,H⟩:=H
   replace H:=iM_ H
   obtain ⟨c6b0,H⟩:=H
   obtain ⟨bq7,hbq7⟩ : ∃ b_ : Bool,b_ = (rdOf false l0 x9_1):=⟨_,rfl⟩
   replace H : (if bq7 = true then (if x3_1.length < 17592186044416 then (impl_risen.l0 k1 (x3_1 ++ [x9_1]) l0 (l0.length : Int) (wrap64 (x9_1 + 1))) else (none)) else (impl_risen.l0 k1 x3_1 l0 (l0.length : Int) (wrap64 (x9_1 + 1)))) = some r:=by rw [← hbq7] at H;exact H
   have Nbq7:=Z_ hbq7
   clear hbq7
   replace H:=iB_ H
   obtain ⟨rfl,H⟩ | ⟨rfl,H⟩:=H
   rotate_left
   ·have H':=Z_ H
    clear H
    have p435 : 0 ≤ (x9_1 : Int):=dA_
    have q435 : x9_1 < (l0.length : Int):=dA_
    obtain ⟨ad435,e435,hx435_0⟩:=Kd.at_bool a5.out x9_1 p435 q435
    (try rw [← Nbq7.out] at hx435_0)
    cases e435
    replace hx435_0:=cB_ HB hx435_0
    replace p435:=eq_true p435
    replace q435:=eq_true q435
    go_wp2
    go_roundg k1
    case measure => have:=HK1.out;omega
    case rel => exact ⟨(x3_1),(wrap64 (x9_1 + 1)),Sr_,H',⟨by have:=HK1.out;omega⟩,⟨Rk_ a0⟩,⟨Lb_⟩⟩
   rotate_right
   replace H:=iN_ H
   obtain ⟨c9,H⟩:=H
   have a6:=Z_ c9
   clear c9
   obtain ⟨y436,hy436⟩ : ∃ y_ : List Int,y_ = (x3_1 ++ [x9_1]):=⟨_,rfl⟩
   replace H : (impl_risen.l0 k1 y436 l0 (l0.length : Int) (wrap64 (x9_1 + 1))) = some r:=by first | (rw [hy436];with_reducible exact H) | (have H2_:=(Option.bind_some _ _).symm.trans H;rw [hy436];with_reducible exact H2_) | (have H2_:=(Option.bind_some _ _).symm.trans H;with_reducible exact H2_) | with_reducible exact H | (rw [hy436];exact H) | exact H
   have a3:=Z_ hy436
   clear hy436
   have H':=Z_ H
   clear H
   have p435 : 0 ≤ (x9_1 : Int):=dA_
   have q435 : x9_1 < (l0.length : Int):=dA_
   obtain ⟨ad435,e435,hx435_0⟩:=Kd.at_bool a5.out x9_1 p435 q435
   (try rw [← Nbq7.out] at hx435_0)
   cases e435
   replace hx435_0:=cB_ HB hx435_0
   replace p435:=eq_true p435
   replace q435:=eq_true q435
   go_wp2_with (first | ((with_reducible refine gate_builtin (b:=.append) (xs:=#[.tmp 15,.tmp 17]) rfl ?_);at_builtin;refine Kd.R_append (Kd.int .i64) (w0:=w) w.heap.size rfl (.tmp 15) (.tmp 17) 24 2 (.int .i64 0) 8 rfl Tryz.underlying24 info2 rfl (by decide) (by omega) u3 x3_1 x9_1 [.int .i64 x9_1] (fun _ => True) (fun _ => False) rfl rfl ?aP (fun _ hk => hk.elim) ?aF ?aO ?aB ?aS ?aL ?_;(case aP => exact rfl);(case aB => exact HB.out);(case aF => exact (fun _ _ => trivial));(case aO => exact a0.out);(case aS => exact (below_size HB.out));(case aL => have:=a6.out;omega);intro v437 w10 ho hb hg hat;rw [← a3.out] at ho;replace HB:=Z_ (hb);have a4:=Z_ (ho);clear a0 ho hb hg hat))
   go_roundg k1
   case measure => have:=HK1.out;omega
   case rel => exact ⟨(y436),(wrap64 (x9_1 + 1)),Sr_,H',⟨by have:=HK1.out;omega⟩,⟨Rk_ a4⟩,⟨Lb_⟩⟩
def ktL (C : Int → Option Bool) : Nat → List S83 → List Bool → Option (List Bool)
  | _,[],is => some is
  | i,t :: ts,is => if t.f0 = 2 then (if t.f3 ≤ 9 then ktL C (i + 1) ts (is.set i true) else (C t.f3).bind fun b => if b = true then ktL C (i + 1) ts (is.set i true) else ktL C (i + 1) ts is) else ktL C (i + 1) ts is
def impl_Net_knownTo.f (k : Nat) (lt : List S83) (lb lh : List Int) : Option (List Int) :=
  (impl_flags.f k lt lh).bind fun is0 => if is0.length = lt.length then (ktL (slices_Contains_int64_int64.f k lb) 0 lt is0).bind (impl_risen.f k) else none
set_option maxHeartbeats 8000000 in
set_option maxRecDepth 100000 in
theorem impl_Net_knownTo.calls (k p : Nat) (A0 A1 A2 A3 A4 A5 : Option Addr) (c0 c1 c2 c3 c4 c5 n1 n4 n5 : Nat) (lt : List S83) (lb lh r : List Int) (w : World) (hI : w.heap[p]? = some (.cells #[.slice A0 lt.length c0,.slice A1 n1 c1,.slice A2 lb.length c2,.slice A3 lh.length c3,.slice A4 n4 c4,.slice A5 n5 c5] 34 (0,0))) (hr0 : Kd.C k83 w A0 lt.length lt) (hc0 : lt.length ≤ c0) (hr2 : Kd.C (Kd.int .i64) w A2 lb.length lb) (hc2 : lb.length ≤ c2) (hr3 : Kd.C (Kd.int .i64) w A3 lh.length lh) (hc3 : lh.length ≤ c3) (h : impl_Net_knownTo.f k lt lb lh = some r) :
    Calls Tryz.prog 35 #[.pointer (some ⟨p,0,none⟩)] w fun e w' => ∃ v : Value,e = .returned v ∧ Kd.R (Kd.int .i64) 2 w' w.heap.size (fun _ => True) v r ∧ Below w.heap.size w w':=by
 have hu1:=Tryz.underlying34
 have hu2:=Tryz.underlying83
 have BI:=Z_ hI
 have a5:=Z_ hr0
 have a8:=Z_ hc0
 have a6:=Z_ hr2
 have a7:=Z_ hc2
 have a9:=Z_ hr3
 have aa:=Z_ hc3
 have HN0:=Z_ hr0.2.1
 clear hI hr0 hc0 hr2 hc2 hr3 hc3
 have HB:=Z_ (Below.refl w.heap.size w)
 unfold impl_Net_knownTo.f at h
 have H:=h
 clear h
 replace H:=bS_ H
 obtain ⟨is0,HF,H⟩:=H
 replace H:=iN_ H
 obtain ⟨hl0,H⟩:=H
 have HL0:=Z_ hl0
 clear hl0
 have H':=Z_ H
 clear H
 go_enter Tryz.func35,Tryz.ntmps35
 go_wp2
 replace BI:=Z_ (bD_ BI.out)
 replace HB:=Z_ (lD_ HB.out)
 refine start_ (n:=10) (S:=fun w' => w'.cell? ⟨p,0,none⟩ = some (.slice A0 lt.length c0) ∧ w'.cell? ⟨p,3,none⟩ = some (.slice A3 lh.length c3)) (ds:=[]) (Bt 10 0) (by kernel_rfl) rfl rfl ⟨(blk_cell BI.out 0).trans rfl,(blk_cell BI.out 3).trans rfl⟩ (fun hHeld => ?_)
 generalize hWD : w.drew = wD at BI HB hHeld ⊢
 refine pu_ 0 (some 6) (Bt 10 1) (by kernel_rfl) ?_
 refine pu_ 1 (some 7) (Bt 10 3) (by kernel_rfl) ?_
 refine pu_ 2 (some 8) (Bt 10 7) (by kernel_rfl) ?_
 refine ta_ 3 (some 9) (Bt 10 15) (by kernel_rfl) hHeld ?_
 refine pu_ 4 (some 10) (Bt 10 31) (by kernel_rfl) ?_
 refine pu_ 5 (some 11) (Bt 10 63) (by kernel_rfl) ?_
 refine pu_ 6 (some 12) (Bt 10 127) (by kernel_rfl) ?_
 refine ta_ 7 (some 13) (Bt 10 255) (by kernel_rfl) hHeld ?_
 refine one_ (i:=8) (N:=some 14) (Bt 10 511) rfl rfl (by kernel_rfl) (by decide) (fun K hK => ?_)
 refine goes_ Tryz.func69 (by kernel_rfl) rfl #[.slice A0 lt.length c0,.slice A3 lh.length c3] (by rfl) rfl rfl (by (try simp only [List.map_toArray,List.map_cons,List.map_nil]);first | done | rfl) ?_
 refine (impl_flags.calls k A0 c0 lt A3 c3 lh is0 _ (Kd.C_below a5.out HB.out) a8.out (Kd.C_below a9.out HB.out) aa.out HF.out).mono ?_
 rintro e w14 ⟨v3,rfl,ho,hb⟩
 refine ⟨_,rfl,?_⟩
 have HO:=Z_ (Kd.R_lower ho (below_size HB.out))
 replace BI:=Z_ (bB_ BI.out hb)
 replace HB:=Z_ (lP_ HB.out hb)
 clear ho hb
 refine hK.out _ _ ⟨(blk_cell BI.out 0).trans rfl,(blk_cell BI.out 3).trans rfl⟩ (fun hHeld => ?_)
 clear hK K
 refine norm_ (a':=?_) ?_ ?_
 rotate_left
 ·show Act.put _ (some 14) _ = _
  simp only [Act.put,lA_,lZ_,lS_,i64_w,i32_w]
  rfl
 refine pu_ 9 (some 3) (Bt 10 1023) (by kernel_rfl) ?_
 refine done_ (by kernel_rfl) ?_
 clear hWD hHeld
 obtain ⟨_,_,_,_,_,_,_,_,_,_,_,_⟩:=bc6 BI.out
 go_wp2
 go_loopg [20] lt.length (fun gg v20 wr => ∃ (kk : Nat) (is : List Bool),kk ≤ lt.length ∧ lt.length - kk ≤ gg ∧ v20 = .int .i64 kk ∧ Aside0 (is.length = lt.length) ∧ Aside0 (wr.heap[p]? = some (.cells #[.slice A0 lt.length c0,.slice A1 n1 c1,.slice A2 lb.length c2,.slice A3 lh.length c3,.slice A4 n4 c4,.slice A5 n5 c5] 34 (0,0))) ∧ Aside0 (Kd.bool.R 4 wr w.heap.size (fun _ => True) v3 is) ∧ Aside0 (Below w.heap.size w wr) ∧ Aside0 ((ktL (slices_Contains_int64_int64.f k lb) kk (lt.drop kk) is).bind (impl_risen.f k) = some r))
 case atStart => exact ⟨0,is0,Nat.zero_le _,by omega,rfl,HL0,BI,HO,HB,H'⟩
 case round =>
  clear H' HO HB BI
  obtain ⟨kk,is,hkn,hgg,rfl,HLI,BI,HO,HB,H⟩:=hrel
  by_cases hlt : kk < lt.length
  rotate_left
  ·have hltz : ¬ (kk : Int) < (lt.length : Int):=by omega
   obtain rfl : kk = lt.length:=by omega
   have h:=H.out
   rw [List.drop_length] at h
   have HRS:=Z_ (show impl_risen.f k is = some r from h)
   clear h H
   obtain ⟨Ai,ci,ei⟩:=Kd.R_slice HO.out
   subst ei
   go_wp2_with (go_at_call 71;refine (impl_risen.calls k Ai ci is r _ (Kd.R_reads' (Rk_ HO)).2.2 (Kd.R_reads' HO.out).2.1 HRS.out).mono ?_;rintro e w47 ⟨v47,rfl,ho,hb⟩;have HQ:=Z_ (Kd.R_lower ho (below_size Lb_));replace HB:=Z_ (lP_ Lb_ hb);clear ho hb)
   go_ret
   exact ⟨_,rfl,Rk_ HQ,Lb_⟩
  have hltz : (kk : Int) < (lt.length : Int):=by omega
  have h:=H.out
  clear H
  rw [kt_get lt kk hlt] at h
  unfold ktL at h
  obtain ⟨ad,e,hy0,hy1,hy2,hy3⟩:=at_T83 a5.out (kk : Int) (by omega) (by omega)
  rw [Int.toNat_natCast] at hy0 hy1 hy2 hy3
  subst e
  generalize rd_T83 lt (kk : Int) = x at hy0 hy1 hy2 hy3 h
  have HY:=Z_ (And.intro hy0 (And.intro hy1 (And.intro hy2 hy3)))
  replace hy0:=cB_ HB hy0
  replace hy1:=cB_ HB hy1
  replace hy2:=cB_ HB hy2
  replace hy3:=cB_ HB hy3
  have H:=Z_ h
  clear h
  obtain ⟨g,cg,eg,GG,GL,GC⟩:=Kd.R_form HO.out (by rw [HLI.out];omega)
  rw [HLI.out] at eg
  subst eg
  replace GG:=Z_ GG
  clear GL GC
  obtain ⟨_,_,_,_,_,_,_,_,_,_,_,_⟩:=bc6 BI.out
  go_upto_region 5 with (go_big_may;first | ((with_reducible refine gD_ 5 rfl ?_);refine bx_ #[.int .i64 0,.int .i64 0,.int .i64 0,.int .i64 0] 83 ?_;intro g5 hg w3 hbox hb;have a4:=Z_ (show w.heap.size ≤ g5 by rw [hg];exact below_size HB.out);have NP:=Z_ (show p ≠ g5 by rw [hg];exact Nat.ne_of_lt (blk_lt BI.out));replace BI:=Z_ (bB_ BI.out hb);replace HO:=Z_ (Kd.R_below HO.out hb);replace HB:=Z_ (lP_ HB.out hb);have BK:=Z_ hbox;clear hb hbox hg hy0 hy1 hy2 hy3;have hy0:=cB_ HB HY.out.1;have hy1:=cB_ HB HY.out.2.1;have hy2:=cB_ HB HY.out.2.2.1;have hy3:=cB_ HB HY.out.2.2.2;obtain ⟨_,_,_,_,_,_,_,_⟩:=bc4H BK.out))
  (try simp only [Act.put,lA_,lZ_,lS_])
  have n0_:=Z_ (blk_put (blk_put (blk_put (blk_put BK.out 0 (.int .i64 x.f0) rfl) 1 (.int .i64 x.f1) rfl) 2 (.int .i64 x.f2) rfl) 3 (.int .i64 x.f3) rfl)
  replace HO:=Z_ (R_set4 (a0:=.int .i64 x.f0) (a1:=.int .i64 x.f1) (a2:=.int .i64 x.f2) (a3:=.int .i64 x.f3) HO.out BK.out (by decide))
  replace BI:=Z_ (bF_ (bF_ (bF_ (bF_ BI.out NP.out (.int .i64 x.f0) (p:=⟨g5,0,none⟩)) NP.out (.int .i64 x.f1) (p:=⟨g5,1,none⟩)) NP.out (.int .i64 x.f2) (p:=⟨g5,2,none⟩)) NP.out (.int .i64 x.f3) (p:=⟨g5,3,none⟩))
  replace HB:=Z_ (lS1_ (j:=3) (v:=.int .i64 x.f3) (lS1_ (j:=2) (v:=.int .i64 x.f2) (lS1_ (j:=1) (v:=.int .i64 x.f1) (lS1_ (j:=0) (v:=.int .i64 x.f0) HB.out a4.out) a4.out) a4.out) a4.out)
  clear BK hy0 hy1 hy2 hy3
  have BK:=n0_
  clear n0_
  generalize (w3.setCell ⟨g5,0,none⟩ (.int .i64 x.f0) |>.setCell ⟨g5,1,none⟩ (.int .i64 x.f1) |>.setCell ⟨g5,2,none⟩ (.int .i64 x.f2) |>.setCell ⟨g5,3,none⟩ (.int .i64 x.f3)) = w4 at BK BI HO HB ⊢
  obtain ⟨_,_,_,_,_,_,_,_⟩:=bc4H BK.out
  obtain ⟨_,_,_,_,_,_,_,_,_,_,_,_⟩:=bc6 BI.out
  obtain ⟨hKt,hKf⟩:=rb_get HO.out kk hlt
  have hw1 : IntKind.i64.wrap ((kk : Int) + 1) = (kk : Int) + 1:=by rw [i64_w,w64k (by omega) (by have:=HN0.out;omega)]
  have NPG : Aside0 (g ≠ p):=⟨fun e => by
    obtain ⟨_,_,e2,_,_,cs,hcs⟩:=Kd.R_form HO.out (by rw [HLI.out];omega)
    injection e2 with e2
    injection e2 with e2
    injection e2 with e2
    subst e2
    rw [e,BI.out] at hcs
    injection hcs with hcs
    injection hcs with _ hcs
    exact absurd hcs (by decide)⟩
  have hpg:=NPG.out.symm
  refine if q2 : x.f0 = 2 then (if q9 : x.f3 ≤ 9 then ?_ else ?_) else ?_
  all_goals replace H:=H.out
  ·rw [if_pos q2,if_pos q9] at H
   have H':=Z_ H
   obtain ⟨_,_,_⟩:=eqTH q2
   have q9a : decide (x.f3 ≤ 9) = true:=decide_eq_true q9
   clear H q2 q9
   go_quiet (fail)
   go_wp2_with (first | ((with_reducible refine gate_store (t:=4) (p:=44) rfl ?_);refine stH 4 ?_;intro w6 hw;obtain ⟨hp_,hgw⟩:=rb_put (Rk_ HO) kk hw;replace BI:=Z_ ((hgw.block p (by have:=blk_lt BI.out;simpa using this) (fun e => NPG.out (by injection e with e;exact e.symm))).trans (Bk_ BI));replace HB:=Z_ (show Below w.heap.size w w6 by rw [hw];exact lS1_ Lb_ GG.out);replace HO:=Z_ hp_;clear hp_ hw hgw))
   go_roundg (lt.length - (kk + 1))
   case measure => omega
   case rel => exact ⟨kk + 1,is.set kk true,by omega,by omega,(by first | rfl | (rw [hw1];push_cast;rfl) | (push_cast;rfl)),⟨by simpa using HLI.out⟩,⟨Bk_ BI⟩,⟨Rk_ HO⟩,⟨Lb_⟩,H'⟩
  ·rw [if_pos q2,if_neg q9,Option.bind_assoc] at H
   replace H:=bS_ H
   obtain ⟨b,HQ,H⟩:=H
   obtain ⟨_,_,_⟩:=eqTH q2
   have q9a : decide (x.f3 ≤ 9) = false:=decide_eq_false q9
   clear q2 q9
   cases b with
   | true =>
    have H':=Z_ H
    clear H
    go_quiet (first | (go_at_call 70;refine (slices_Contains_int64_int64.calls k A2 c2 lb x.f3 _ _ (Kd.C_below a6.out Lb_) a7.out HQ.out).mono ?_;rintro e w' ⟨rfl,⟨nd,rfl⟩⟩;(try first | exact ⟨rfl,_,World.drewN_drewN _ _ _⟩ | exact ⟨rfl,_,Eq.trans (World.drewN_drewN _ _ _) (congrArg (World.drewN _) (Nat.add_assoc _ _ _))⟩)))
    go_wp2_with (first | ((with_reducible refine gate_store (t:=4) (p:=44) rfl ?_);refine stH 4 ?_;intro w6 hw;obtain ⟨hp_,hgw⟩:=rb_put (Rk_ HO) kk hw;replace BI:=Z_ ((hgw.block p (by have:=blk_lt BI.out;simpa using this) (fun e => NPG.out (by injection e with e;exact e.symm))).trans (Bk_ BI));replace HB:=Z_ (show Below w.heap.size w w6 by rw [hw];exact lS1_ Lb_ GG.out);replace HO:=Z_ hp_;clear hp_ hw hgw))
    go_roundg (lt.length - (kk + 1))
    case measure => omega
    case rel => exact ⟨kk + 1,is.set kk true,by omega,by omega,(by first | rfl | (rw [hw1];push_cast;rfl) | (push_cast;rfl)),⟨by simpa using HLI.out⟩,⟨Bk_ BI⟩,⟨Rk_ HO⟩,⟨Lb_⟩,H'⟩
   | false =>
    have H':=Z_ H
    clear H
    go_quiet (first | (go_at_call 70;refine (slices_Contains_int64_int64.calls k A2 c2 lb x.f3 _ _ (Kd.C_below a6.out Lb_) a7.out HQ.out).mono ?_;rintro e w' ⟨rfl,⟨nd,rfl⟩⟩;(try first | exact ⟨rfl,_,World.drewN_drewN _ _ _⟩ | exact ⟨rfl,_,Eq.trans (World.drewN_drewN _ _ _) (congrArg (World.drewN _) (Nat.add_assoc _ _ _))⟩)))
    go_wp2_with (first | ((with_reducible refine gate_store (t:=4) (p:=44) rfl ?_);refine stH 4 ?_;intro w6 hw;obtain ⟨hp_,hgw⟩:=rb_put (Rk_ HO) kk hw;replace BI:=Z_ ((hgw.block p (by have:=blk_lt BI.out;simpa using this) (fun e => NPG.out (by injection e with e;exact e.symm))).trans (Bk_ BI));replace HB:=Z_ (show Below w.heap.size w w6 by rw [hw];exact lS1_ Lb_ GG.out);replace HO:=Z_ hp_;clear hp_ hw hgw))
    go_roundg (lt.length - (kk + 1))
    case measure => omega
    case rel => exact ⟨kk + 1,is,by omega,by omega,(by first | rfl | (rw [hw1];push_cast;rfl) | (push_cast;rfl)),⟨by simpa using HLI.out⟩,⟨Bk_ BI⟩,⟨Rk_ HO⟩,⟨Lb_⟩,H'⟩
  ·rw [if_neg q2] at H
   have H':=Z_ H
   obtain ⟨_,_,_⟩:=eqFH q2
   clear H q2
   go_quiet (fail)
   go_wp2_with (first | ((with_reducible refine gate_store (t:=4) (p:=44) rfl ?_);refine stH 4 ?_;intro w6 hw;obtain ⟨hp_,hgw⟩:=rb_put (Rk_ HO) kk hw;replace BI:=Z_ ((hgw.block p (by have:=blk_lt BI.out;simpa using this) (fun e => NPG.out (by injection e with e;exact e.symm))).trans (Bk_ BI));replace HB:=Z_ (show Below w.heap.size w w6 by rw [hw];exact lS1_ Lb_ GG.out);replace HO:=Z_ hp_;clear hp_ hw hgw))
   go_roundg (lt.length - (kk + 1))
   case measure => omega
   case rel => exact ⟨kk + 1,is,by omega,by omega,(by first | rfl | (rw [hw1];push_cast;rfl) | (push_cast;rfl)),⟨by simpa using HLI.out⟩,⟨Bk_ BI⟩,⟨Rk_ HO⟩,⟨Lb_⟩,H'⟩
def impl_KnownTo.f (k : Nat) (lt : List S83) (lg : List S76) (lb lh : List Int) (lv : List S88) (lw : List S88) : Option (Int × List Int):=(impl_NetFault.f k lt lg lb lh lv lw).bind fun c => if c = 0 then (impl_Net_knownTo.f k lt lb lh).bind fun l => some (0,l) else some (c,[])
set_option maxHeartbeats 8000000 in
set_option maxRecDepth 100000 in
theorem impl_KnownTo.calls (k : Nat) (A0 : Option Addr) (c0 : Nat) (lt : List (S83)) (A1 : Option Addr) (c1 : Nat) (lg : List (S76)) (A2 : Option Addr) (c2 : Nat) (lb : List Int) (A3 : Option Addr) (c3 : Nat) (lh : List Int) (A4 : Option Addr) (c4 : Nat) (lv : List (S88)) (A5 : Option Addr) (c5 : Nat) (lw : List (S88)) (r1 : Int) (r2 : List Int) (w : World) (hr0 : Kd.C k83 w A0 lt.length lt) (hc0 : lt.length ≤ c0) (hr1 : Kd.C k76 w A1 lg.length lg) (hc1 : lg.length ≤ c1) (hr2 : Kd.C (Kd.int .i64) w A2 lb.length lb) (hc2 : lb.length ≤ c2) (hr3 : Kd.C (Kd.int .i64) w A3 lh.length lh) (hc3 : lh.length ≤ c3) (hr4 : Kd.C k88 w A4 lv.length lv) (hc4 : lv.length ≤ c4) (hr5 : Kd.C k88 w A5 lw.length lw) (hc5 : lw.length ≤ c5) (h : impl_KnownTo.f k lt lg lb lh lv lw = some (r1,r2)) :
    Calls Tryz.prog 11 #[.agg #[.slice A0 lt.length c0,.slice A1 lg.length c1,.slice A2 lb.length c2,.slice A3 lh.length c3,.slice A4 lv.length c4,.slice A5 lw.length c5]] w fun e w' => ∃ v2_ : Value,e = .returned (.agg #[.int .i64 r1,v2_]) ∧ Kd.R (Kd.int .i64) 2 w' w.heap.size (fun _ => True) v2_ r2 ∧ Below w.heap.size w w':=by
 have hu1:=Tryz.underlying34
 have hu2:=Tryz.underlying39
 have a0:=Z_ hr0
 have a1:=Z_ hc0
 have a6:=Z_ hr1
 have a7:=Z_ hc1
 have a2:=Z_ hr2
 have a3:=Z_ hc2
 have a4:=Z_ hr3
 have a5:=Z_ hc3
 have a8:=Z_ hr4
 have a9:=Z_ hc4
 have aa:=Z_ hr5
 have ab:=Z_ hc5
 have HB:=Z_ (Below.refl w.heap.size w)
 clear hr0 hc0 hr1 hc1 hr2 hc2 hr3 hc3 hr4 hc4 hr5 hc5
 unfold impl_KnownTo.f at h
 obtain ⟨c,hf,h⟩:=Option.bind_eq_some_iff.mp h
 have HF:=Z_ hf
 clear hf
 by_cases hz : c = 0
 rotate_left
 ·rw [if_neg hz] at h
  have hz0 : (c == 0) = false:=by simpa using hz
  have hz1 : (c != 0) = true:=by simpa using hz
  simp only [Option.some.injEq,Prod.mk.injEq] at h
  obtain ⟨rfl,rfl⟩:=h
  go_enter Tryz.func11,Tryz.ntmps11
  go_wp2_with (first | ((with_reducible refine gD_ 1 rfl ?_);refine bx_ #[.slice A0 lt.length c0,.slice A1 lg.length c1,.slice A2 lb.length c2,.slice A3 lh.length c3,.slice A4 lv.length c4,.slice A5 lw.length c5] 34 ?_;intro g1 hg w3 hbox hb;replace HB:=Z_ (lP_ HB.out hb);have BI:=Z_ hbox;clear hb hbox hg;obtain ⟨_,_,_,_,_,_,_,_,_,_,_,_⟩:=bc6 BI.out) | ((with_reducible refine gD_ 2 rfl ?_);refine bx_ #[.int .i64 0,.slice none 0 0] 39 ?_;intro g2 hg w4 hbox hb;have GE:=Z_ (show w.heap.size ≤ g2 by rw [hg];exact below_size HB.out);replace BI:=Z_ (bB_ BI.out hb);replace HB:=Z_ (lP_ HB.out hb);have BK:=Z_ hbox;clear hb hbox hg;obtain ⟨_,_,_,_,_,_,_,_,_,_,_,_⟩:=bc6 BI.out;obtain ⟨_,_,_,_⟩:=bc2 BK.out) | (go_at_call 27;refine (impl_NetFault.calls k A0 c0 lt A1 c1 lg A2 c2 lb A3 c3 lh A4 c4 lv A5 c5 lw c _ (Kd.C_below a0.out HB.out) a1.out (Kd.C_below a6.out HB.out) a7.out (Kd.C_below a2.out HB.out) a3.out (Kd.C_below a4.out HB.out) a5.out (Kd.C_below a8.out HB.out) a9.out (Kd.C_below aa.out HB.out) ab.out HF.out).mono ?_;rintro e w5 ⟨rfl,hb⟩;replace BI:=Z_ (bB_ BI.out hb);replace BK:=Z_ (bB_ BK.out hb);replace HB:=Z_ (lP_ HB.out hb);clear hb;obtain ⟨_,_,_,_,_,_,_,_,_,_,_,_⟩:=bc6 BI.out;obtain ⟨_,_,_,_⟩:=bc2 BK.out))
  refine bodyPost_ret (results_cell_row rfl _ _ g2 39 #[.int .i64 c,.slice none 0 0] (0,0) _ rfl (blk_put (blk_put BK.out 0 _ rfl) 1 _ rfl) Tryz.underlying39 rfl (by kernel_rfl)) rfl ?_
  exact ⟨_,rfl,Kd.R_nil _ _ _ _ _,lS1_ (lS1_ HB.out GE.out) GE.out⟩
 rw [if_pos hz] at h
 subst hz
 obtain ⟨l,hl,h⟩:=Option.bind_eq_some_iff.mp h
 simp only [Option.some.injEq,Prod.mk.injEq] at h
 obtain ⟨rfl,rfl⟩:=h
 have HL:=Z_ hl
 clear hl
 go_enter Tryz.func11,Tryz.ntmps11
 go_wp2_with (first | ((with_reducible refine gD_ 1 rfl ?_);refine bx_ #[.slice A0 lt.length c0,.slice A1 lg.length c1,.slice A2 lb.length c2,.slice A3 lh.length c3,.slice A4 lv.length c4,.slice A5 lw.length c5] 34 ?_;intro g1 hg w3 hbox hb;replace HB:=Z_ (lP_ HB.out hb);have BI:=Z_ hbox;clear hb hbox hg;obtain ⟨_,_,_,_,_,_,_,_,_,_,_,_⟩:=bc6 BI.out) | ((with_reducible refine gD_ 2 rfl ?_);refine bx_ #[.int .i64 0,.slice none 0 0] 39 ?_;intro g2 hg w4 hbox hb;have GE:=Z_ (show w.heap.size ≤ g2 by rw [hg];exact below_size HB.out);replace BI:=Z_ (bB_ BI.out hb);replace HB:=Z_ (lP_ HB.out hb);have BK:=Z_ hbox;clear hb hbox hg;obtain ⟨_,_,_,_,_,_,_,_,_,_,_,_⟩:=bc6 BI.out;obtain ⟨_,_,_,_⟩:=bc2 BK.out) | (go_at_call 27;refine (impl_NetFault.calls k A0 c0 lt A1 c1 lg A2 c2 lb A3 c3 lh A4 c4 lv A5 c5 lw 0 _ (Kd.C_below a0.out HB.out) a1.out (Kd.C_below a6.out HB.out) a7.out (Kd.C_below a2.out HB.out) a3.out (Kd.C_below a4.out HB.out) a5.out (Kd.C_below a8.out HB.out) a9.out (Kd.C_below aa.out HB.out) ab.out HF.out).mono ?_;rintro e w5 ⟨rfl,hb⟩;replace BI:=Z_ (bB_ BI.out hb);replace BK:=Z_ (bB_ BK.out hb);replace HB:=Z_ (lP_ HB.out hb);clear hb;obtain ⟨_,_,_,_,_,_,_,_,_,_,_,_⟩:=bc6 BI.out;obtain ⟨_,_,_,_⟩:=bc2 BK.out) | (go_at_call 35;refine (impl_Net_knownTo.calls k g1 A0 A1 A2 A3 A4 A5 c0 c1 c2 c3 c4 c5 lg.length lv.length lw.length lt lb lh _ _ BI.out (Kd.C_below a0.out HB.out) a1.out (Kd.C_below a2.out HB.out) a3.out (Kd.C_below a4.out HB.out) a5.out HL.out).mono ?_;rintro e w6 ⟨v,rfl,ho,hb⟩;have HO:=Z_ (Kd.R_lower ho (below_size HB.out));replace BI:=Z_ (bB_ BI.out hb);replace BK:=Z_ (bB_ BK.out hb);replace HB:=Z_ (lP_ HB.out hb);clear ho hb;obtain ⟨Av,cv,ev⟩:=Kd.R_slice HO.out;subst ev;obtain ⟨_,_,_,_,_,_,_,_,_,_,_,_⟩:=bc6 BI.out;obtain ⟨_,_,_,_⟩:=bc2 BK.out))
 refine bodyPost_ret (results_cell_row rfl _ _ g2 39 #[.int .i64 0,.slice Av l.length cv] (0,0) _ rfl (blk_put (blk_put BK.out 0 _ rfl) 1 _ rfl) Tryz.underlying39 rfl (by kernel_rfl)) rfl ?_
 exact ⟨_,rfl,Kd.R_set (Kd.R_set HO.out BK.out (by decide) 0 _) (blk_put BK.out 0 _ rfl) (by decide) 1 _,lS1_ (lS1_ HB.out GE.out) GE.out⟩
def laws_eqIntsResult.f (k : Nat) (a0_0 : Int) (l0_1 : List Int) (a1_0 : Int) (l1_1 : List Int) : Option (Bool):=if a0_0 = a1_0 then ((laws_eqInt64S.f k l0_1 l1_1).bind fun t509 => (if t509 = true then (some true) else (some false))) else (some false)
set_option maxHeartbeats 8000000 in
set_option maxRecDepth 100000 in
theorem laws_eqIntsResult.calls (k : Nat) (a0_0 : Int) (A0_1 : Option Addr) (c0_1 : Nat) (l0_1 : List Int) (a1_0 : Int) (A1_1 : Option Addr) (c1_1 : Nat) (l1_1 : List Int) (r : Bool) (w : World) (hr0_1 : Kd.C (Kd.int .i64) w A0_1 l0_1.length l0_1) (hc0_1 : l0_1.length ≤ c0_1) (hr1_1 : Kd.C (Kd.int .i64) w A1_1 l1_1.length l1_1) (hc1_1 : l1_1.length ≤ c1_1) (h : laws_eqIntsResult.f k a0_0 l0_1 a1_0 l1_1 = some r) :
  Calls Tryz.prog 12 #[.agg #[.int .i64 a0_0,.slice A0_1 l0_1.length c0_1],.agg #[.int .i64 a1_0,.slice A1_1 l1_1.length c1_1]] w fun e w' => e = .returned (.bool r) ∧ Below w.heap.size w w':=by
 have hu39:=Tryz.underlying39
 have HR0_1:=Z_ hr0_1
 have HC0_1:=Z_ hc0_1
 clear hr0_1 hc0_1
 have HR1_1:=Z_ hr1_1
 have HC1_1:=Z_ hc1_1
 clear hr1_1 hc1_1
 have HB:=Z_ (Below.refl w.heap.size w)
 unfold laws_eqIntsResult.f at h
 have H:=h
 clear h
 replace H:=iE_ H
 obtain ⟨c3b0,c3b1,H⟩ | ⟨c3b0,c3b1,H⟩:=H
 replace H:=bS_ H
 obtain ⟨t509,A4,H⟩:=H
 replace H:=iB_ H
 obtain ⟨rfl,H⟩ | ⟨rfl,H⟩:=H
 all_goals
  obtain rfl:=Option.some.inj H
  go_enter Tryz.func12,Tryz.ntmps12
  go_wp2_with (first | ((with_reducible refine gD_ 2 rfl ?_);refine bx_ #[.int .i64 a0_0,.slice A0_1 l0_1.length c0_1] 39 ?_;intro a3 hg w11 hbox hb;have a0:=Z_ hbox;have a5:=Z_ ((by rw [hg];exact (below_size Lb_) : w.heap.size ≤ a3));replace HB:=Z_ (lP_ Lb_ hb);clear hb hbox hg) | ((with_reducible refine gD_ 3 rfl ?_);refine bx_ #[.int .i64 a1_0,.slice A1_1 l1_1.length c1_1] 39 ?_;intro a4 hg w12 hbox hb;have a6:=Z_ hbox;have a7:=Z_ ((by rw [hg];exact (below_size HB.out) : w.heap.size ≤ a4));replace HB:=Z_ (lP_ HB.out hb);have a1:=Z_ ((by rw [hg];exact Nat.ne_of_lt (blk_lt a0.out) : a3 ≠ a4));replace a0:=Z_ (bB_ a0.out hb);have a2:=Z_ a1.out.symm;clear hb hbox hg;have a9:=a1.out;have aa:=a2.out;obtain ⟨_,_,_,_⟩:=bc2 a0.out;obtain ⟨_,_,_,_⟩:=bc2 a6.out) | ((with_reducible refine gate_callee (f:=32) rfl ?_);refine goesA_ (some 14) rfl rfl Tryz.func32 (by kernel_rfl) rfl #[.slice A0_1 l0_1.length c0_1,.slice A1_1 l1_1.length c1_1] rfl ?_;(with_reducible refine (laws_eqInt64S.calls k _ _ l0_1 _ _ l1_1 _ _ ?side1 ?side2 ?side3 ?side4 A4.out).mono ?_);(case side1 => exact Cb_ HR0_1);(case side2 => exact HC0_1.out);(case side3 => exact Cb_ HR1_1);(case side4 => exact HC1_1.out);rintro e w' ⟨rfl,⟨nd,rfl⟩⟩;refine ⟨_,rfl,?_⟩))
  go_ret
  exact ⟨Er_,Lb_⟩
def laws_markTermS.l0 : Nat → List (S83) → Int → Int → Option (Int × (List (S83)))
 | 0,_,_,_ => none
 | k + 1,x0,x1,x5 => if x5 < (x0.length : Int) then (if 0 ≤ x5 then ((some (x0.set (x5 : Int).toNat (⟨x1,(rd_T83 x0 x5).f1,(rd_T83 x0 x5).f2,(rd_T83 x0 x5).f3⟩ : S83) : List (S83))).bind fun y510 => ((some (y510.set (x5 : Int).toNat (⟨(rd_T83 y510 x5).f0,wrap64 (x1 + 1),(rd_T83 y510 x5).f2,(rd_T83 y510 x5).f3⟩ : S83) : List (S83))).bind fun y511 => ((some (y511.set (x5 : Int).toNat (⟨(rd_T83 y511 x5).f0,(rd_T83 y511 x5).f1,wrap64 ((wrap64 (x1 + 1)) + 1),(rd_T83 y511 x5).f3⟩ : S83) : List (S83))).bind fun y512 => (laws_markTermS.l0 k (y512.set (x5 : Int).toNat (⟨(rd_T83 y512 x5).f0,(rd_T83 y512 x5).f1,(rd_T83 y512 x5).f2,wrap64 ((wrap64 ((wrap64 (x1 + 1)) + 1)) + 1)⟩ : S83)) (wrap64 ((wrap64 ((wrap64 ((wrap64 (x1 + 1)) + 1)) + 1)) + 1)) (wrap64 (x5 + 1)))))) else (none)) else (some (x1,x0))
def laws_markTermS.f (k : Nat) (l0 : List (S83)) (a1 : Int) : Option (Int × (List (S83))):=laws_markTermS.l0 k l0 a1 0
set_option maxHeartbeats 8000000 in
set_option maxRecDepth 100000 in
theorem laws_markTermS.calls (k : Nat) (P0_ : Nat → Prop) (u9000_ : Value) (l0 : List (S83)) (a1 r1 : Int) (r2 : List (S83)) (w0 w : World) (hB : Below w0.heap.size w0 w) (ho0 : Kd.R k83 83 w w0.heap.size P0_ u9000_ l0) (h : laws_markTermS.f k l0 a1 = some (r1,r2)) :
  Calls Tryz.prog 36 #[u9000_,.int .i64 a1] w fun e w' => e = .returned (.int .i64 r1) ∧ Kd.R k83 83 w' w0.heap.size (fun k_ => (P0_ k_ ∨ w.heap.size ≤ k_)) u9000_ r2 ∧ Below w0.heap.size w0 w' ∧ Kept w w' (fun k_ => P0_ k_):=by
 have a9:=Z_ (show Kd.R k83 83 w w0.heap.size (fun k_ => (P0_ k_ ∨ w.heap.size ≤ k_)) u9000_ l0 from Kd.R_mono ho0 (fun k_ hk => (.inl hk)))
 have HK:=Z_ (Kept.refl w (fun k_ => P0_ k_))
 have HW0:=Z_ hB.size
 have HB:=Z_ hB
 clear hB
 unfold laws_markTermS.f at h
 have H:=h
 clear h
 have H':=Z_ H
 clear H
 go_enter Tryz.func36,Tryz.ntmps36
 go_wp2
 go_loopg [1,5] k (fun kq v1 v5 w' => ∃ (x0_1 : List (S83)) (x1_1 : Int) (x5_1 : Int),v1 = .int .i64 x1_1 ∧ v5 = .int .i64 x5_1 ∧ Aside0 (laws_markTermS.l0 kq x0_1 x1_1 x5_1 = some (r1,r2)) ∧ Aside0 (kq ≤ k) ∧ Aside0 (Kd.R k83 83 w' w0.heap.size (fun k_ => (P0_ k_ ∨ w.heap.size ≤ k_)) u9000_ x0_1) ∧ Aside0 (Kept w w' (fun k_ => P0_ k_)) ∧ Aside0 (Below w0.heap.size w0 w'))
 case atStart => exact ⟨(l0),(a1),(0),Sr_,Sr_,H',⟨Nat.le_refl _⟩,⟨Rk_ a9⟩,⟨by repeat (first | (with_reducible first | exact HK.out | apply Kept.alloc | apply Kept.drewN | apply Kept.drew) | exact HK.out)⟩,⟨Lb_⟩⟩
 case round =>
  clear H'
  try clear p2
  obtain ⟨x0_1,x1_1,x5_1,rfl,rfl,HA,HK1,a0,HK,HB⟩:=hrel
  cases gk with
  | zero => exact absurd HA.out (by simp [laws_markTermS.l0])
  | succ k1 =>
   have H:=HA.out
   clear HA
   simp only [laws_markTermS.l0] at H
   replace H:=iD_ H
   obtain ⟨c3b0,H⟩ | ⟨c3b0,H⟩:=H
   rotate_left
   ·simp only [Option.some.injEq,Prod.mk.injEq] at H
    obtain ⟨rfl,rfl⟩:=H
    obtain ⟨aa,ab,eo18⟩:=Kd.R_slice a0.out
    subst eo18
    go_wp2
    go_ret
    exact ⟨Er_,Rk_ a0,Lb_,by repeat (first | (with_reducible first | exact HK.out | apply Kept.alloc | apply Kept.drewN | apply Kept.drew) | exact HK.out)⟩
   rotate_right
   replace H:=iM_ H
   obtain ⟨c4b0,H⟩:=H
   obtain ⟨y510,hy510⟩ : ∃ y_ : List (S83),y_ = (x0_1.set (x5_1 : Int).toNat (⟨x1_1,(rd_T83 x0_1 x5_1).f1,(rd_T83 x0_1 x5_1).f2,(rd_T83 x0_1 x5_1).f3⟩ : S83)):=⟨_,rfl⟩
   replace H : ((some (y510.set (x5_1 : Int).toNat (⟨(rd_T83 y510 x5_1).f0,wrap64 (x1_1 + 1),(rd_T83 y510 x5_1).f2,(rd_T83 y510 x5_1).f3⟩ : S83) : List (S83))).bind fun y511 => ((some (y511.set (x5_1 : Int).toNat (⟨(rd_T83 y511 x5_1).f0,(rd_T83 y511 x5_1).f1,wrap64 ((wrap64 (x1_1 + 1)) + 1),(rd_T83 y511 x5_1).f3⟩ : S83) : List (S83))).bind fun y512 => (laws_markTermS.l0 k1 (y512.set (x5_1 : Int).toNat (⟨(rd_T83 y512 x5_1).f0,(rd_T83 y512 x5_1).f1,(rd_T83 y512 x5_1).f2,wrap64 ((wrap64 ((wrap64 (x1_1 + 1)) + 1)) + 1)⟩ : S83)) (wrap64 ((wrap64 ((wrap64 ((wrap64 (x1_1 + 1)) + 1)) + 1)) + 1)) (wrap64 (x5_1 + 1))))) = some (r1,r2):=by first | (rw [hy510];with_reducible exact H) | (have H2_:=(Option.bind_some _ _).symm.trans H;rw [hy510];with_reducible exact H2_) | (have H2_:=(Option.bind_some _ _).symm.trans H;with_reducible exact H2_) | with_reducible exact H | (rw [hy510];exact H) | exact H
   have a4:=Z_ hy510
   clear hy510
   obtain ⟨y511,hy511⟩ : ∃ y_ : List (S83),y_ = (y510.set (x5_1 : Int).toNat (⟨(rd_T83 y510 x5_1).f0,wrap64 (x1_1 + 1),(rd_T83 y510 x5_1).f2,(rd_T83 y510 x5_1).f3⟩ : S83)):=⟨_,rfl⟩
   replace H : ((some (y511.set (x5_1 : Int).toNat (⟨(rd_T83 y511 x5_1).f0,(rd_T83 y511 x5_1).f1,wrap64 ((wrap64 (x1_1 + 1)) + 1),(rd_T83 y511 x5_1).f3⟩ : S83) : List (S83))).bind fun y512 => (laws_markTermS.l0 k1 (y512.set (x5_1 : Int).toNat (⟨(rd_T83 y512 x5_1).f0,(rd_T83 y512 x5_1).f1,(rd_T83 y512 x5_1).f2,wrap64 ((wrap64 ((wrap64 (x1_1 + 1)) + 1)) + 1)⟩ : S83)) (wrap64 ((wrap64 ((wrap64 ((wrap64 (x1_1 + 1)) + 1)) + 1)) + 1)) (wrap64 (x5_1 + 1)))) = some (r1,r2):=by first | (rw [hy511];with_reducible exact H) | (have H2_:=(Option.bind_some _ _).symm.trans H;rw [hy511];with_reducible exact H2_) | (have H2_:=(Option.bind_some _ _).symm.trans H;with_reducible exact H2_) | with_reducible exact H | (rw [hy511];exact H) | exact H
   have a5:=Z_ hy511
   clear hy511
   obtain ⟨y512,hy512⟩ : ∃ y_ : List (S83),y_ = (y511.set (x5_1 : Int).toNat (⟨(rd_T83 y511 x5_1).f0,(rd_T83 y511 x5_1).f1,wrap64 ((wrap64 (x1_1 + 1)) + 1),(rd_T83 y511 x5_1).f3⟩ : S83)):=⟨_,rfl⟩
   replace H : (laws_markTermS.l0 k1 (y512.set (x5_1 : Int).toNat (⟨(rd_T83 y512 x5_1).f0,(rd_T83 y512 x5_1).f1,(rd_T83 y512 x5_1).f2,wrap64 ((wrap64 ((wrap64 (x1_1 + 1)) + 1)) + 1)⟩ : S83)) (wrap64 ((wrap64 ((wrap64 ((wrap64 (x1_1 + 1)) + 1)) + 1)) + 1)) (wrap64 (x5_1 + 1))) = some (r1,r2):=by first | (rw [hy512];with_reducible exact H) | (have H2_:=(Option.bind_some _ _).symm.trans H;rw [hy512];with_reducible exact H2_) | (have H2_:=(Option.bind_some _ _).symm.trans H;with_reducible exact H2_) | with_reducible exact H | (rw [hy512];exact H) | exact H
   have a6:=Z_ hy512
   clear hy512
   obtain ⟨y513,hy513⟩ : ∃ y_ : List (S83),y_ = (y512.set (x5_1 : Int).toNat (⟨(rd_T83 y512 x5_1).f0,(rd_T83 y512 x5_1).f1,(rd_T83 y512 x5_1).f2,wrap64 ((wrap64 ((wrap64 (x1_1 + 1)) + 1)) + 1)⟩ : S83)):=⟨_,rfl⟩
   replace H : (laws_markTermS.l0 k1 y513 (wrap64 ((wrap64 ((wrap64 ((wrap64 (x1_1 + 1)) + 1)) + 1)) + 1)) (wrap64 (x5_1 + 1))) = some (r1,r2):=by first | (rw [hy513];with_reducible exact H) | (have H2_:=(Option.bind_some _ _).symm.trans H;rw [hy513];with_reducible exact H2_) | (have H2_:=(Option.bind_some _ _).symm.trans H;with_reducible exact H2_) | with_reducible exact H | (rw [hy513];exact H) | exact H
   have a7:=Z_ hy513
   clear hy513
   have H':=Z_ H
   clear H
   obtain ⟨ac,a2,eo9⟩:=Kd.R_slice a0.out
   subst eo9
   have p5 : 0 ≤ (x5_1 : Int):=dA_
   have q5 : (x5_1 : Int) < ((x0_1.length : Int) : Int):=dA_
   obtain ⟨go5,ad,eo5,a8,gl5,cl5,HG5⟩:=Kd.R_form a0.out (by omega)
   (first | cases eo5 | (injection eo5 with ea_ en_ ec_;(first | subst ea_ | (injection ea_ with ea_;subst ea_));subst ec_;clear en_))
   have a3:=Z_ a8
   have GG5:=Z_ HG5
   clear a8 gl5 HG5
   have HMgo5:=Z_ (show (P0_ go5 ∨ w.heap.size ≤ go5) from (a0.out.1 _ rfl))
   obtain ⟨ce5,hcl5,hM5,hcc5,hfr5⟩:=Kd.R_elem a0.out z83 (x5_1 : Int) p5 q5
   obtain rfl:=k83_openM hM5
   have hx5_0 : wr.cell? ⟨go5,(x5_1 : Int).toNat * 4,none⟩ = some (.int .i64 ((rd_T83 x0_1 x5_1).f0)):=hcc5 0 _ rfl
   have hx5_1 : wr.cell? ⟨go5,(x5_1 : Int).toNat * 4 + 1,none⟩ = some (.int .i64 ((rd_T83 x0_1 x5_1).f1)):=hcc5 1 _ rfl
   have hx5_2 : wr.cell? ⟨go5,(x5_1 : Int).toNat * 4 + 2,none⟩ = some (.int .i64 ((rd_T83 x0_1 x5_1).f2)):=hcc5 2 _ rfl
   have hx5_3 : wr.cell? ⟨go5,(x5_1 : Int).toNat * 4 + 3,none⟩ = some (.int .i64 ((rd_T83 x0_1 x5_1).f3)):=hcc5 3 _ rfl
   have hf5_0 : wr.frozen? ⟨go5,(x5_1 : Int).toNat * 4,none⟩ = false:=hfr5 0
   have hf5_1 : wr.frozen? ⟨go5,(x5_1 : Int).toNat * 4 + 1,none⟩ = false:=hfr5 1
   have hf5_2 : wr.frozen? ⟨go5,(x5_1 : Int).toNat * 4 + 2,none⟩ = false:=hfr5 2
   have hf5_3 : wr.frozen? ⟨go5,(x5_1 : Int).toNat * 4 + 3,none⟩ = false:=hfr5 3
   clear hcl5 hcc5 hfr5 hM5
   replace p5:=eq_true p5
   replace q5:=eq_true q5
   have HX10:=Z_ (show Kd.R k83 83 wr w0.heap.size (fun k_ => (P0_ k_ ∨ w.heap.size ≤ k_)) (.slice (some ⟨go5,0,none⟩) x0_1.length a2) x0_1 from (Rk_ a0))
   obtain ⟨ce10,hcl10,hM10,hcc10,hfr10⟩:=Kd.R_elem HX10.out z83 (x5_1 : Int) (dA_) (by have h_ : (x5_1 : Int) < ((x0_1.length : Int) : Int):=dA_;first | exact h_ | (have e_:=(Kd.R_reads' a0.out).1;omega) | simpa using h_)
   obtain rfl:=k83_openM hM10
   have HP10:=Kd.R_seg HX10.out (x5_1 : Int) (dA_) (by have h_ : (x5_1 : Int) < ((x0_1.length : Int) : Int):=dA_;first | exact h_ | (have e_:=(Kd.R_reads' a0.out).1;omega) | simpa using h_) (seg:=[.int .i64 x1_1]) (j:=0) hcl10 hcc10 (show 1 ≤ 4 from by decide) (x':=(⟨x1_1,(rd_T83 x0_1 x5_1).f1,(rd_T83 x0_1 x5_1).f2,(rd_T83 x0_1 x5_1).f3⟩ : S83)) (k83_mkM _ _ _ (⟨x1_1,(rd_T83 x0_1 x5_1).f1,(rd_T83 x0_1 x5_1).f2,(rd_T83 x0_1 x5_1).f3⟩ : S83) ) (fun _ hk => hk)
   have hx10_0:=hcc10 0 _ rfl
   (try simp only [show (k83).sz = 4 from rfl,Nat.mul_one,Nat.add_zero] at hx10_0)
   have hf10_0:=hfr10 0
   (try simp only [show (k83).sz = 4 from rfl,Nat.mul_one,Nat.add_zero] at hf10_0)
   clear hcl10 hcc10 hfr10 hM10
   go_wp2_with (first | ((with_reducible refine gate_store (t:=2) (p:=16) rfl ?_);refine store_event (t:=2) (p:=16) (v:=?vo_w11) (w1:=(wr.setCell ⟨go5,(x5_1 : Int).toNat * 4,none⟩ (.int .i64 x1_1))) ?hg ?ho ?hn ?hr ?_;(case ho => rfl);(case hg => rfl);(case hn => rfl);(case hr => first | (go_simp;done) | (go_simp;rfl));intro w11 hw;have hg : wr.grownBy w11 (some go5):=(by rw [hw];exact HP10.2);have hp_ : Kd.R k83 83 w11 w0.heap.size (fun k_ => (P0_ k_ ∨ w.heap.size ≤ k_)) (.slice (some ⟨go5,0,none⟩) x0_1.length a2) y510:=(by rw [hw,a4.out];exact HP10.1);clear HP10;replace HB:=Z_ ((by rw [hw];exact lS1_ (HB.out) a3.out : Below w0.heap.size w0 w11));replace HK:=Z_ (Kept.of_grown (S:=(fun k_ => P0_ k_)) hg (by repeat (first | (with_reducible first | exact HK.out | apply Kept.alloc | apply Kept.drewN | apply Kept.drew) | exact HK.out)) (fun k_ e_ => (a0.out.1 k_ e_)));replace a0:=Z_ (hp_);clear hg hw hp_;have p6 : 0 ≤ (x5_1 : Int):=dA_;have q6 : (x5_1 : Int) < ((x0_1.length : Int) : Int):=dA_;obtain ⟨ce6,hcl6,hM6,hcc6,hfr6⟩:=Kd.R_elem a0.out z83 (x5_1 : Int) p6 q6;obtain rfl:=k83_openM hM6;have hx6_0 : w11.cell? ⟨go5,(x5_1 : Int).toNat * 4,none⟩ = some (.int .i64 ((rd_T83 y510 x5_1).f0)):=hcc6 0 _ rfl;have hx6_1 : w11.cell? ⟨go5,(x5_1 : Int).toNat * 4 + 1,none⟩ = some (.int .i64 ((rd_T83 y510 x5_1).f1)):=hcc6 1 _ rfl;have hx6_2 : w11.cell? ⟨go5,(x5_1 : Int).toNat * 4 + 2,none⟩ = some (.int .i64 ((rd_T83 y510 x5_1).f2)):=hcc6 2 _ rfl;have hx6_3 : w11.cell? ⟨go5,(x5_1 : Int).toNat * 4 + 3,none⟩ = some (.int .i64 ((rd_T83 y510 x5_1).f3)):=hcc6 3 _ rfl;have hf6_0 : w11.frozen? ⟨go5,(x5_1 : Int).toNat * 4,none⟩ = false:=hfr6 0;have hf6_1 : w11.frozen? ⟨go5,(x5_1 : Int).toNat * 4 + 1,none⟩ = false:=hfr6 1;have hf6_2 : w11.frozen? ⟨go5,(x5_1 : Int).toNat * 4 + 2,none⟩ = false:=hfr6 2;have hf6_3 : w11.frozen? ⟨go5,(x5_1 : Int).toNat * 4 + 3,none⟩ = false:=hfr6 3;clear hcl6 hcc6 hfr6 hM6;replace p6:=eq_true p6;replace q6:=eq_true q6;have HX12:=Z_ (show Kd.R k83 83 w11 w0.heap.size (fun k_ => (P0_ k_ ∨ w.heap.size ≤ k_)) (.slice (some ⟨go5,0,none⟩) x0_1.length a2) y510 from (Rk_ a0));obtain ⟨ce12,hcl12,hM12,hcc12,hfr12⟩:=Kd.R_elem HX12.out z83 (x5_1 : Int) (dA_) (by have h_ : (x5_1 : Int) < ((x0_1.length : Int) : Int):=dA_;first | exact h_ | (have e_:=(Kd.R_reads' a0.out).1;omega) | simpa using h_);obtain rfl:=k83_openM hM12;have HP12:=Kd.R_seg HX12.out (x5_1 : Int) (dA_) (by have h_ : (x5_1 : Int) < ((x0_1.length : Int) : Int):=dA_;first | exact h_ | (have e_:=(Kd.R_reads' a0.out).1;omega) | simpa using h_) (seg:=[.int .i64 (wrap64 (x1_1 + 1))]) (j:=1) hcl12 hcc12 (show 2 ≤ 4 from by decide) (x':=(⟨(rd_T83 y510 x5_1).f0,wrap64 (x1_1 + 1),(rd_T83 y510 x5_1).f2,(rd_T83 y510 x5_1).f3⟩ : S83)) (k83_mkM _ _ _ (⟨(rd_T83 y510 x5_1).f0,wrap64 (x1_1 + 1),(rd_T83 y510 x5_1).f2,(rd_T83 y510 x5_1).f3⟩ : S83) ) (fun _ hk => hk);have hx12_1:=hcc12 1 _ rfl;(try simp only [show (k83).sz = 4 from rfl,Nat.mul_one,Nat.add_zero] at hx12_1);have hf12_1:=hfr12 1;(try simp only [show (k83).sz = 4 from rfl,Nat.mul_one,Nat.add_zero] at hf12_1);clear hcl12 hcc12 hfr12 hM12) | ((with_reducible refine gate_store (t:=2) (p:=23) rfl ?_);refine store_event (t:=2) (p:=23) (v:=?vo_w13) (w1:=(w11.setCell ⟨go5,(x5_1 : Int).toNat * 4 + 1,none⟩ (.int .i64 (wrap64 (x1_1 + 1))))) ?hg ?ho ?hn ?hr ?_;(case ho => rfl);(case hg => rfl);(case hn => rfl);(case hr => first | (go_simp;done) | (go_simp;rfl));intro w13 hw;have hg : w11.grownBy w13 (some go5):=(by rw [hw];exact HP12.2);have hp_ : Kd.R k83 83 w13 w0.heap.size (fun k_ => (P0_ k_ ∨ w.heap.size ≤ k_)) (.slice (some ⟨go5,0,none⟩) x0_1.length a2) y511:=(by rw [hw,a5.out];exact HP12.1);clear HP12;replace HB:=Z_ ((by rw [hw];exact lS1_ (HB.out) a3.out : Below w0.heap.size w0 w13));replace HK:=Z_ (Kept.of_grown (S:=(fun k_ => P0_ k_)) hg (by repeat (first | (with_reducible first | exact HK.out | apply Kept.alloc | apply Kept.drewN | apply Kept.drew) | exact HK.out)) (fun k_ e_ => (a0.out.1 k_ e_)));replace a0:=Z_ (hp_);clear hg hw hp_;have p7 : 0 ≤ (x5_1 : Int):=dA_;have q7 : (x5_1 : Int) < ((x0_1.length : Int) : Int):=dA_;obtain ⟨ce7,hcl7,hM7,hcc7,hfr7⟩:=Kd.R_elem a0.out z83 (x5_1 : Int) p7 q7;obtain rfl:=k83_openM hM7;have hx7_0 : w13.cell? ⟨go5,(x5_1 : Int).toNat * 4,none⟩ = some (.int .i64 ((rd_T83 y511 x5_1).f0)):=hcc7 0 _ rfl;have hx7_1 : w13.cell? ⟨go5,(x5_1 : Int).toNat * 4 + 1,none⟩ = some (.int .i64 ((rd_T83 y511 x5_1).f1)):=hcc7 1 _ rfl;have hx7_2 : w13.cell? ⟨go5,(x5_1 : Int).toNat * 4 + 2,none⟩ = some (.int .i64 ((rd_T83 y511 x5_1).f2)):=hcc7 2 _ rfl;have hx7_3 : w13.cell? ⟨go5,(x5_1 : Int).toNat * 4 + 3,none⟩ = some (.int .i64 ((rd_T83 y511 x5_1).f3)):=hcc7 3 _ rfl;have hf7_0 : w13.frozen? ⟨go5,(x5_1 : Int).toNat * 4,none⟩ = false:=hfr7 0;have hf7_1 : w13.frozen? ⟨go5,(x5_1 : Int).toNat * 4 + 1,none⟩ = false:=hfr7 1;have hf7_2 : w13.frozen? ⟨go5,(x5_1 : Int).toNat * 4 + 2,none⟩ = false:=hfr7 2;have hf7_3 : w13.frozen? ⟨go5,(x5_1 : Int).toNat * 4 + 3,none⟩ = false:=hfr7 3;clear hcl7 hcc7 hfr7 hM7;replace p7:=eq_true p7;replace q7:=eq_true q7;have HX14:=Z_ (show Kd.R k83 83 w13 w0.heap.size (fun k_ => (P0_ k_ ∨ w.heap.size ≤ k_)) (.slice (some ⟨go5,0,none⟩) x0_1.length a2) y511 from a0.out);obtain ⟨ce14,hcl14,hM14,hcc14,hfr14⟩:=Kd.R_elem HX14.out z83 (x5_1 : Int) (dA_) (by have h_ : (x5_1 : Int) < ((x0_1.length : Int) : Int):=dA_;first | exact h_ | (have e_:=(Kd.R_reads' a0.out).1;omega) | simpa using h_);obtain rfl:=k83_openM hM14;have HP14:=Kd.R_seg HX14.out (x5_1 : Int) (dA_) (by have h_ : (x5_1 : Int) < ((x0_1.length : Int) : Int):=dA_;first | exact h_ | (have e_:=(Kd.R_reads' a0.out).1;omega) | simpa using h_) (seg:=[.int .i64 (wrap64 ((wrap64 (x1_1 + 1)) + 1))]) (j:=2) hcl14 hcc14 (show 3 ≤ 4 from by decide) (x':=(⟨(rd_T83 y511 x5_1).f0,(rd_T83 y511 x5_1).f1,wrap64 ((wrap64 (x1_1 + 1)) + 1),(rd_T83 y511 x5_1).f3⟩ : S83)) (k83_mkM _ _ _ (⟨(rd_T83 y511 x5_1).f0,(rd_T83 y511 x5_1).f1,wrap64 ((wrap64 (x1_1 + 1)) + 1),(rd_T83 y511 x5_1).f3⟩ : S83) ) (fun _ hk => hk);have hx14_2:=hcc14 2 _ rfl;(try simp only [show (k83).sz = 4 from rfl,Nat.mul_one,Nat.add_zero] at hx14_2);have hf14_2:=hfr14 2;(try simp only [show (k83).sz = 4 from rfl,Nat.mul_one,Nat.add_zero] at hf14_2);clear hcl14 hcc14 hfr14 hM14) | ((with_reducible refine gate_store (t:=2) (p:=30) rfl ?_);refine store_event (t:=2) (p:=30) (v:=?vo_w15) (w1:=(w13.setCell ⟨go5,(x5_1 : Int).toNat * 4 + 2,none⟩ (.int .i64 (wrap64 ((wrap64 (x1_1 + 1)) + 1))))) ?hg ?ho ?hn ?hr ?_;(case ho => rfl);(case hg => rfl);(case hn => rfl);(case hr => first | (go_simp;done) | (go_simp;rfl));intro w15 hw;have hg : w13.grownBy w15 (some go5):=(by rw [hw];exact HP14.2);have hp_ : Kd.R k83 83 w15 w0.heap.size (fun k_ => (P0_ k_ ∨ w.heap.size ≤ k_)) (.slice (some ⟨go5,0,none⟩) x0_1.length a2) y512:=(by rw [hw,a6.out];exact HP14.1);clear HP14;replace HB:=Z_ ((by rw [hw];exact lS1_ (HB.out) a3.out : Below w0.heap.size w0 w15));replace HK:=Z_ (Kept.of_grown (S:=(fun k_ => P0_ k_)) hg (by repeat (first | (with_reducible first | exact HK.out | apply Kept.alloc | apply Kept.drewN | apply Kept.drew) | exact HK.out)) (fun k_ e_ => (a0.out.1 k_ e_)));replace a0:=Z_ (hp_);clear hg hw hp_;have p8 : 0 ≤ (x5_1 : Int):=dA_;have q8 : (x5_1 : Int) < ((x0_1.length : Int) : Int):=dA_;obtain ⟨ce8,hcl8,hM8,hcc8,hfr8⟩:=Kd.R_elem a0.out z83 (x5_1 : Int) p8 q8;obtain rfl:=k83_openM hM8;have hx8_0 : w15.cell? ⟨go5,(x5_1 : Int).toNat * 4,none⟩ = some (.int .i64 ((rd_T83 y512 x5_1).f0)):=hcc8 0 _ rfl;have hx8_1 : w15.cell? ⟨go5,(x5_1 : Int).toNat * 4 + 1,none⟩ = some (.int .i64 ((rd_T83 y512 x5_1).f1)):=hcc8 1 _ rfl;have hx8_2 : w15.cell? ⟨go5,(x5_1 : Int).toNat * 4 + 2,none⟩ = some (.int .i64 ((rd_T83 y512 x5_1).f2)):=hcc8 2 _ rfl;have hx8_3 : w15.cell? ⟨go5,(x5_1 : Int).toNat * 4 + 3,none⟩ = some (.int .i64 ((rd_T83 y512 x5_1).f3)):=hcc8 3 _ rfl;have hf8_0 : w15.frozen? ⟨go5,(x5_1 : Int).toNat * 4,none⟩ = false:=hfr8 0;have hf8_1 : w15.frozen? ⟨go5,(x5_1 : Int).toNat * 4 + 1,none⟩ = false:=hfr8 1;have hf8_2 : w15.frozen? ⟨go5,(x5_1 : Int).toNat * 4 + 2,none⟩ = false:=hfr8 2;have hf8_3 : w15.frozen? ⟨go5,(x5_1 : Int).toNat * 4 + 3,none⟩ = false:=hfr8 3;clear hcl8 hcc8 hfr8 hM8;replace p8:=eq_true p8;replace q8:=eq_true q8;have HX16:=Z_ (show Kd.R k83 83 w15 w0.heap.size (fun k_ => (P0_ k_ ∨ w.heap.size ≤ k_)) (.slice (some ⟨go5,0,none⟩) x0_1.length a2) y512 from a0.out);obtain ⟨ce16,hcl16,hM16,hcc16,hfr16⟩:=Kd.R_elem HX16.out z83 (x5_1 : Int) (dA_) (by have h_ : (x5_1 : Int) < ((x0_1.length : Int) : Int):=dA_;first | exact h_ | (have e_:=(Kd.R_reads' a0.out).1;omega) | simpa using h_);obtain rfl:=k83_openM hM16;have HP16:=Kd.R_seg HX16.out (x5_1 : Int) (dA_) (by have h_ : (x5_1 : Int) < ((x0_1.length : Int) : Int):=dA_;first | exact h_ | (have e_:=(Kd.R_reads' a0.out).1;omega) | simpa using h_) (seg:=[.int .i64 (wrap64 ((wrap64 ((wrap64 (x1_1 + 1)) + 1)) + 1))]) (j:=3) hcl16 hcc16 (show 4 ≤ 4 from by decide) (x':=(⟨(rd_T83 y512 x5_1).f0,(rd_T83 y512 x5_1).f1,(rd_T83 y512 x5_1).f2,wrap64 ((wrap64 ((wrap64 (x1_1 + 1)) + 1)) + 1)⟩ : S83)) (k83_mkM _ _ _ (⟨(rd_T83 y512 x5_1).f0,(rd_T83 y512 x5_1).f1,(rd_T83 y512 x5_1).f2,wrap64 ((wrap64 ((wrap64 (x1_1 + 1)) + 1)) + 1)⟩ : S83) ) (fun _ hk => hk);have hx16_3:=hcc16 3 _ rfl;(try simp only [show (k83).sz = 4 from rfl,Nat.mul_one,Nat.add_zero] at hx16_3);have hf16_3:=hfr16 3;(try simp only [show (k83).sz = 4 from rfl,Nat.mul_one,Nat.add_zero] at hf16_3);clear hcl16 hcc16 hfr16 hM16) | ((with_reducible refine gate_store (t:=2) (p:=37) rfl ?_);refine store_event (t:=2) (p:=37) (v:=?vo_w17) (w1:=(w15.setCell ⟨go5,(x5_1 : Int).toNat * 4 + 3,none⟩ (.int .i64 (wrap64 ((wrap64 ((wrap64 (x1_1 + 1)) + 1)) + 1))))) ?hg ?ho ?hn ?hr ?_;(case ho => rfl);(case hg => rfl);(case hn => rfl);(case hr => first | (go_simp;done) | (go_simp;rfl));intro w17 hw;have hg : w15.grownBy w17 (some go5):=(by rw [hw];exact HP16.2);have hp_ : Kd.R k83 83 w17 w0.heap.size (fun k_ => (P0_ k_ ∨ w.heap.size ≤ k_)) (.slice (some ⟨go5,0,none⟩) x0_1.length a2) y513:=(by rw [hw,a7.out];exact HP16.1);clear HP16;replace HB:=Z_ ((by rw [hw];exact lS1_ (HB.out) a3.out : Below w0.heap.size w0 w17));replace HK:=Z_ (Kept.of_grown (S:=(fun k_ => P0_ k_)) hg (by repeat (first | (with_reducible first | exact HK.out | apply Kept.alloc | apply Kept.drewN | apply Kept.drew) | exact HK.out)) (fun k_ e_ => (a0.out.1 k_ e_)));replace a0:=Z_ (hp_);clear hg hw hp_))
   go_roundg k1
   case measure => have:=HK1.out;omega
   case rel => exact ⟨(y513),(wrap64 ((wrap64 ((wrap64 ((wrap64 (x1_1 + 1)) + 1)) + 1)) + 1)),(wrap64 (x5_1 + 1)),Sr_,Sr_,H',⟨by have:=HK1.out;omega⟩,⟨Rk_ a0⟩,⟨by repeat (first | (with_reducible first | exact HK.out | apply Kept.alloc | apply Kept.drewN | apply Kept.drew) | exact HK.out)⟩,⟨Lb_⟩⟩
def laws_markTalkS.l0 : Nat → List (S114) → Int → Int → Option (Int × (List (S114)))
 | 0,_,_,_ => none
 | k + 1,x0,x1,x5 => if x5 < (x0.length : Int) then (if 0 ≤ x5 then ((some (x0.set (x5 : Int).toNat (⟨x1,(rd_T114 x0 x5).f1,(rd_T114 x0 x5).f2,(rd_T114 x0 x5).f3,(rd_T114 x0 x5).f4,(rd_T114 x0 x5).f5,(rd_T114 x0 x5).f6,(rd_T114 x0 x5).f7,(rd_T114 x0 x5).f8,(rd_T114 x0 x5).f9,(rd_T114 x0 x5).f10,(⟨(rd_T114 x0 x5).f11.f0,(rd_T114 x0 x5).f11.f1,(rd_T114 x0 x5).f11.f2,(rd_T114 x0 x5).f11.f3⟩ : S110),(rd_T114 x0 x5).f12,(rd_T114 x0 x5).f13,(rd_T114 x0 x5).f14,(⟨(rd_T114 x0 x5).f15.f0,(rd_T114 x0 x5).f15.f1⟩ : S112)⟩ : S114) : List (S114))).bind fun y514 => ((some (y514.set (x5 : Int).toNat (⟨(rd_T114 y514 x5).f0,wrap64 (x1 + 1),(rd_T114 y514 x5).f2,(rd_T114 y514 x5).f3,(rd_T114 y514 x5).f4,(rd_T114 y514 x5).f5,(rd_T114 y514 x5).f6,(rd_T114 y514 x5).f7,(rd_T114 y514 x5).f8,(rd_T114 y514 x5).f9,(rd_T114 y514 x5).f10,(⟨(rd_T114 y514 x5).f11.f0,(rd_T114 y514 x5).f11.f1,(rd_T114 y514 x5).f11.f2,(rd_T114 y514 x5).f11.f3⟩ : S110),(rd_T114 y514 x5).f12,(rd_T114 y514 x5).f13,(rd_T114 y514 x5).f14,(⟨(rd_T114 y514 x5).f15.f0,(rd_T114 y514 x5).f15.f1⟩ : S112)⟩ : S114) : List (S114))).bind fun y515 => ((some (y515.set (x5 : Int).toNat (⟨(rd_T114 y515 x5).f0,(rd_T114 y515 x5).f1,wrap64 ((wrap64 (x1 + 1)) + 1),(rd_T114 y515 x5).f3,(rd_T114 y515 x5).f4,(rd_T114 y515 x5).f5,(rd_T114 y515 x5).f6,(rd_T114 y515 x5).f7,(rd_T114 y515 x5).f8,(rd_T114 y515 x5).f9,(rd_T114 y515 x5).f10,(⟨(rd_T114 y515 x5).f11.f0,(rd_T114 y515 x5).f11.f1,(rd_T114 y515 x5).f11.f2,(rd_T114 y515 x5).f11.f3⟩ : S110),(rd_T114 y515 x5).f12,(rd_T114 y515 x5).f13,(rd_T114 y515 x5).f14,(⟨(rd_T114 y515 x5).f15.f0,(rd_T114 y515 x5).f15.f1⟩ : S112)⟩ : S114) : List (S114))).bind fun y516 => ((some (y516.set (x5 : Int).toNat (⟨(rd_T114 y516 x5).f0,(rd_T114 y516 x5).f1,(rd_T114 y516 x5).f2,wrap64 ((wrap64 ((wrap64 (x1 + 1)) + 1)) + 1),(rd_T114 y516 x5).f4,(rd_T114 y516 x5).f5,(rd_T114 y516 x5).f6,(rd_T114 y516 x5).f7,(rd_T114 y516 x5).f8,(rd_T114 y516 x5).f9,(rd_T114 y516 x5).f10,(⟨(rd_T114 y516 x5).f11.f0,(rd_T114 y516 x5).f11.f1,(rd_T114 y516 x5).f11.f2,(rd_T114 y516 x5).f11.f3⟩ : S110),(rd_T114 y516 x5).f12,(rd_T114 y516 x5).f13,(rd_T114 y516 x5).f14,(⟨(rd_T114 y516 x5).f15.f0,(rd_T114 y516 x5).f15.f1⟩ : S112)⟩ : S114) : List (S114))).bind fun y517 => ((some (y517.set (x5 : Int).toNat (⟨(rd_T114 y517 x5).f0,(rd_T114 y517 x5).f1,(rd_T114 y517 x5).f2,(rd_T114 y517 x5).f3,wrap64 ((wrap64 ((wrap64 ((wrap64 (x1 + 1)) + 1)) + 1)) + 1),(rd_T114 y517 x5).f5,(rd_T114 y517 x5).f6,(rd_T114 y517 x5).f7,(rd_T114 y517 x5).f8,(rd_T114 y517 x5).f9,(rd_T114 y517 x5).f10,(⟨(rd_T114 y517 x5).f11.f0,(rd_T114 y517 x5).f11.f1,(rd_T114 y517 x5).f11.f2,(rd_T114 y517 x5).f11.f3⟩ : S110),(rd_T114 y517 x5).f12,(rd_T114 y517 x5).f13,(rd_T114 y517 x5).f14,(⟨(rd_T114 y517 x5).f15.f0,(rd_T114 y517 x5).f15.f1⟩ : S112)⟩ : S114) : List (S114))).bind fun y518 => ((some (y518.set (x5 : Int).toNat (⟨(rd_T114 y518 x5).f0,(rd_T114 y518 x5).f1,(rd_T114 y518 x5).f2,(rd_T114 y518 x5).f3,(rd_T114 y518 x5).f4,wrap64 ((wrap64 ((wrap64 ((wrap64 ((wrap64 (x1 + 1)) + 1)) + 1)) + 1)) + 1),(rd_T114 y518 x5).f6,(rd_T114 y518 x5).f7,(rd_T114 y518 x5).f8,(rd_T114 y518 x5).f9,(rd_T114 y518 x5).f10,(⟨(rd_T114 y518 x5).f11.f0,(rd_T114 y518 x5).f11.f1,(rd_T114 y518 x5).f11.f2,(rd_T114 y518 x5).f11.f3⟩ : S110),(rd_T114 y518 x5).f12,(rd_T114 y518 x5).f13,(rd_T114 y518 x5).f14,(⟨(rd_T114 y518 x5).f15.f0,(rd_T114 y518 x5).f15.f1⟩ : S112)⟩ : S114) : List (S114))).bind fun y519 => ((some (y519.set (x5 : Int).toNat (⟨(rd_T114 y519 x5).f0,(rd_T114 y519 x5).f1,(rd_T114 y519 x5).f2,(rd_T114 y519 x5).f3,(rd_T114 y519 x5).f4,(rd_T114 y519 x5).f5,wrap64 ((wrap64 ((wrap64 ((wrap64 ((wrap64 ((wrap64 (x1 + 1)) + 1)) + 1)) + 1)) + 1)) + 1),(rd_T114 y519 x5).f7,(rd_T114 y519 x5).f8,(rd_T114 y519 x5).f9,(rd_T114 y519 x5).f10,(⟨(rd_T114 y519 x5).f11.f0,(rd_T114 y519 x5).f11.f1,(rd_T114 y519 x5).f11.f2,(rd_T114 y519 x5).f11.f3⟩ : S110),(rd_T114 y519 x5).f12,(rd_T114 y519 x5).f13,(rd_T114 y519 x5).f14,(⟨(rd_T114 y519 x5).f15.f0,(rd_T114 y519 x5).f15.f1⟩ : S112)⟩ : S114) : List (S114))).bind fun y520 => ((some (y520.set (x5 : Int).toNat (⟨(rd_T114 y520 x5).f0,(rd_T114 y520 x5).f1,(rd_T114 y520 x5).f2,(rd_T114 y520 x5).f3,(rd_T114 y520 x5).f4,(rd_T114 y520 x5).f5,(rd_T114 y520 x5).f6,wrap64 ((wrap64 ((wrap64 ((wrap64 ((wrap64 ((wrap64 ((wrap64 (x1 + 1)) + 1)) + 1)) + 1)) + 1)) + 1)) + 1),(rd_T114 y520 x5).f8,(rd_T114 y520 x5).f9,(rd_T114 y520 x5).f10,(⟨(rd_T114 y520 x5).f11.f0,(rd_T114 y520 x5).f11.f1,(rd_T114 y520 x5).f11.f2,(rd_T114 y520 x5).f11.f3⟩ : S110),(rd_T114 y520 x5).f12,(rd_T114 y520 x5).f13,(rd_T114 y520 x5).f14,(⟨(rd_T114 y520 x5).f15.f0,(rd_T114 y520 x5).f15.f1⟩ : S112)⟩ : S114) : List (S114))).bind fun y521 => ((some (y521.set (x5 : Int).toNat (⟨(rd_T114 y521 x5).f0,(rd_T114 y521 x5).f1,(rd_T114 y521 x5).f2,(rd_T114 y521 x5).f3,(rd_T114 y521 x5).f4,(rd_T114 y521 x5).f5,(rd_T114 y521 x5).f6,(rd_T114 y521 x5).f7,wrap64 ((wrap64 ((wrap64 ((wrap64 ((wrap64 ((wrap64 ((wrap64 ((wrap64 (x1 + 1)) + 1)) + 1)) + 1)) + 1)) + 1)) + 1)) + 1),(rd_T114 y521 x5).f9,(rd_T114 y521 x5).f10,(⟨(rd_T114 y521 x5).f11.f0,(rd_T114 y521 x5).f11.f1,(rd_T114 y521 x5).f11.f2,(rd_T114 y521 x5).f11.f3⟩ : S110),(rd_T114 y521 x5).f12,(rd_T114 y521 x5).f13,(rd_T114 y521 x5).f14,(⟨(rd_T114 y521 x5).f15.f0,(rd_T114 y521 x5).f15.f1⟩ : S112)⟩ : S114) : List (S114))).bind fun y522 => ((some (y522.set (x5 : Int).toNat (⟨(rd_T114 y522 x5).f0,(rd_T114 y522 x5).f1,(rd_T114 y522 x5).f2,(rd_T114 y522 x5).f3,(rd_T114 y522 x5).f4,(rd_T114 y522 x5).f5,(rd_T114 y522 x5).f6,(rd_T114 y522 x5).f7,(rd_T114 y522 x5).f8,wrap64 ((wrap64 ((wrap64 ((wrap64 ((wrap64 ((wrap64 ((wrap64 ((wrap64 ((wrap64 (x1 + 1)) + 1)) + 1)) + 1)) + 1)) + 1)) + 1)) + 1)) + 1),(rd_T114 y522 x5).f10,(⟨(rd_T114 y522 x5).f11.f0,(rd_T114 y522 x5).f11.f1,(rd_T114 y522 x5).f11.f2,(rd_T114 y522 x5).f11.f3⟩ : S110),(rd_T114 y522 x5).f12,(rd_T114 y522 x5).f13,(rd_T114 y522 x5).f14,(⟨(rd_T114 y522 x5).f15.f0,(rd_T114 y522 x5).f15.f1⟩ : S112)⟩ : S114) : List (S114))).bind fun y523 => ((some (y523.set (x5 : Int).toNat (⟨(rd_T114 y523 x5).f0,(rd_T114 y523 x5).f1,(rd_T114 y523 x5).f2,(rd_T114 y523 x5).f3,(rd_T114 y523 x5).f4,(rd_T114 y523 x5).f5,(rd_T114 y523 x5).f6,(rd_T114 y523 x5).f7,(rd_T114 y523 x5).f8,(rd_T114 y523 x5).f9,wrap64 ((wrap64 ((wrap64 ((wrap64 ((wrap64 ((wrap64 ((wrap64 ((wrap64 ((wrap64 ((wrap64 (x1 + 1)) + 1)) + 1)) + 1)) + 1)) + 1)) + 1)) + 1)) + 1)) + 1),(⟨(rd_T114 y523 x5).f11.f0,(rd_T114 y523 x5).f11.f1,(rd_T114 y523 x5).f11.f2,(rd_T114 y523 x5).f11.f3⟩ : S110),(rd_T114 y523 x5).f12,(rd_T114 y523 x5).f13,(rd_T114 y523 x5).f14,(⟨(rd_T114 y523 x5).f15.f0,(rd_T114 y523 x5).f15.f1⟩ : S112)⟩ : S114) : List (S114))).bind fun y524 => ((some (y524.set (x5 : Int).toNat (⟨(rd_T114 y524 x5).f0,(rd_T114 y524 x5).f1,(rd_T114 y524 x5).f2,(rd_T114 y524 x5).f3,(rd_T114 y524 x5).f4,(rd_T114 y524 x5).f5,(rd_T114 y524 x5).f6,(rd_T114 y524 x5).f7,(rd_T114 y524 x5).f8,(rd_T114 y524 x5).f9,(rd_T114 y524 x5).f10,(⟨wrap64 ((wrap64 ((wrap64 ((wrap64 ((wrap64 ((wrap64 ((wrap64 ((wrap64 ((wrap64 ((wrap64 ((wrap64 (x1 + 1)) + 1)) + 1)) + 1)) + 1)) + 1)) + 1)) + 1)) + 1)) + 1)) + 1),(rd_T114 y524 x5).f11.f1,(rd_T114 y524 x5).f11.f2,(rd_T114 y524 x5).f11.f3⟩ : S110),(rd_T114 y524 x5).f12,(rd_T114 y524 x5).f13,(rd_T114 y524 x5).f14,(⟨(rd_T114 y524 x5).f15.f0,(rd_T114 y524 x5).f15.f1⟩ : S112)⟩ : S114) : List (S114))).bind fun y525 => ((some (y525.set (x5 : Int).toNat (⟨(rd_T114 y525 x5).f0,(rd_T114 y525 x5).f1,(rd_T114 y525 x5).f2,(rd_T114 y525 x5).f3,(rd_T114 y525 x5).f4,(rd_T114 y525 x5).f5,(rd_T114 y525 x5).f6,(rd_T114 y525 x5).f7,(rd_T114 y525 x5).f8,(rd_T114 y525 x5).f9,(rd_T114 y525 x5).f10,(⟨(rd_T114 y525 x5).f11.f0,wrap64 ((wrap64 ((wrap64 ((wrap64 ((wrap64 ((wrap64 ((wrap64 ((wrap64 ((wrap64 ((wrap64 ((wrap64 ((wrap64 (x1 + 1)) + 1)) + 1)) + 1)) + 1)) + 1)) + 1)) + 1)) + 1)) + 1)) + 1)) + 1),(rd_T114 y525 x5).f11.f2,(rd_T114 y525 x5).f11.f3⟩ : S110),(rd_T114 y525 x5).f12,(rd_T114 y525 x5).f13,(rd_T114 y525 x5).f14,(⟨(rd_T114 y525 x5).f15.f0,(rd_T114 y525 x5).f15.f1⟩ : S112)⟩ : S114) : List (S114))).bind fun y526 => ((some (y526.set (x5 : Int).toNat (⟨(rd_T114 y526 x5).f0,(rd_T114 y526 x5).f1,(rd_T114 y526 x5).f2,(rd_T114 y526 x5).f3,(rd_T114 y526 x5).f4,(rd_T114 y526 x5).f5,(rd_T114 y526 x5).f6,(rd_T114 y526 x5).f7,(rd_T114 y526 x5).f8,(rd_T114 y526 x5).f9,(rd_T114 y526 x5).f10,(⟨(rd_T114 y526 x5).f11.f0,(rd_T114 y526 x5).f11.f1,wrap64 ((wrap64 ((wrap64 ((wrap64 ((wrap64 ((wrap64 ((wrap64 ((wrap64 ((wrap64 ((wrap64 ((wrap64 ((wrap64 ((wrap64 (x1 + 1)) + 1)) + 1)) + 1)) + 1)) + 1)) + 1)) + 1)) + 1)) + 1)) + 1)) + 1)) + 1),(rd_T114 y526 x5).f11.f3⟩ : S110),(rd_T114 y526 x5).f12,(rd_T114 y526 x5).f13,(rd_T114 y526 x5).f14,(⟨(rd_T114 y526 x5).f15.f0,(rd_T114 y526 x5).f15.f1⟩ : S112)⟩ : S114) : List (S114))).bind fun y527 => ((some (y527.set (x5 : Int).toNat (⟨(rd_T114 y527 x5).f0,(rd_T114 y527 x5).f1,(rd_T114 y527 x5).f2,(rd_T114 y527 x5).f3,(rd_T114 y527 x5).f4,(rd_T114 y527 x5).f5,(rd_T114 y527 x5).f6,(rd_T114 y527 x5).f7,(rd_T114 y527 x5).f8,(rd_T114 y527 x5).f9,(rd_T114 y527 x5).f10,(⟨(rd_T114 y527 x5).f11.f0,(rd_T114 y527 x5).f11.f1,(rd_T114 y527 x5).f11.f2,wrap64 ((wrap64 ((wrap64 ((wrap64 ((wrap64 ((wrap64 ((wrap64 ((wrap64 ((wrap64 ((wrap64 ((wrap64 ((wrap64 ((wrap64 ((wrap64 (x1 + 1)) + 1)) + 1)) + 1)) + 1)) + 1)) + 1)) + 1)) + 1)) + 1)) + 1)) + 1)) + 1)) + 1)⟩ : S110),(rd_T114 y527 x5).f12,(rd_T114 y527 x5).f13,(rd_T114 y527 x5).f14,(⟨(rd_T114 y527 x5).f15.f0,(rd_T114 y527 x5).f15.f1⟩ : S112)⟩ : S114) : List (S114))).bind fun y528 => ((some (y528.set (x5 : Int).toNat (⟨(rd_T114 y528 x5).f0,(rd_T114 y528 x5).f1,(rd_T114 y528 x5).f2,(rd_T114 y528 x5).f3,(rd_T114 y528 x5).f4,(rd_T114 y528 x5).f5,(rd_T114 y528 x5).f6,(rd_T114 y528 x5).f7,(rd_T114 y528 x5).f8,(rd_T114 y528 x5).f9,(rd_T114 y528 x5).f10,(⟨(rd_T114 y528 x5).f11.f0,(rd_T114 y528 x5).f11.f1,(rd_T114 y528 x5).f11.f2,(rd_T114 y528 x5).f11.f3⟩ : S110),wrap64 ((wrap64 ((wrap64 ((wrap64 ((wrap64 ((wrap64 ((wrap64 ((wrap64 ((wrap64 ((wrap64 ((wrap64 ((wrap64 ((wrap64 ((wrap64 ((wrap64 (x1 + 1)) + 1)) + 1)) + 1)) + 1)) + 1)) + 1)) + 1)) + 1)) + 1)) + 1)) + 1)) + 1)) + 1)) + 1),(rd_T114 y528 x5).f13,(rd_T114 y528 x5).f14,(⟨(rd_T114 y528 x5).f15.f0,(rd_T114 y528 x5).f15.f1⟩ : S112)⟩ : S114) : List (S114))).bind fun y529 => ((some (y529.set (x5 : Int).toNat (⟨(rd_T114 y529 x5).f0,(rd_T114 y529 x5).f1,(rd_T114 y529 x5).f2,(rd_T114 y529 x5).f3,(rd_T114 y529 x5).f4,(rd_T114 y529 x5).f5,(rd_T114 y529 x5).f6,(rd_T114 y529 x5).f7,(rd_T114 y529 x5).f8,(rd_T114 y529 x5).f9,(rd_T114 y529 x5).f10,(⟨(rd_T114 y529 x5).f11.f0,(rd_T114 y529 x5).f11.f1,(rd_T114 y529 x5).f11.f2,(rd_T114 y529 x5).f11.f3⟩ : S110),(rd_T114 y529 x5).f12,wrap64 ((wrap64 ((wrap64 ((wrap64 ((wrap64 ((wrap64 ((wrap64 ((wrap64 ((wrap64 ((wrap64 ((wrap64 ((wrap64 ((wrap64 ((wrap64 ((wrap64 ((wrap64 (x1 + 1)) + 1)) + 1)) + 1)) + 1)) + 1)) + 1)) + 1)) + 1)) + 1)) + 1)) + 1)) + 1)) + 1)) + 1)) + 1),(rd_T114 y529 x5).f14,(⟨(rd_T114 y529 x5).f15.f0,(rd_T114 y529 x5).f15.f1⟩ : S112)⟩ : S114) : List (S114))).bind fun y530 => ((some (y530.set (x5 : Int).toNat (⟨(rd_T114 y530 x5).f0,(rd_T114 y530 x5).f1,(rd_T114 y530 x5).f2,(rd_T114 y530 x5).f3,(rd_T114 y530 x5).f4,(rd_T114 y530 x5).f5,(rd_T114 y530 x5).f6,(rd_T114 y530 x5).f7,(rd_T114 y530 x5).f8,(rd_T114 y530 x5).f9,(rd_T114 y530 x5).f10,(⟨(rd_T114 y530 x5).f11.f0,(rd_T114 y530 x5).f11.f1,(rd_T114 y530 x5).f11.f2,(rd_T114 y530 x5).f11.f3⟩ : S110),(rd_T114 y530 x5).f12,(rd_T114 y530 x5).f13,wrap64 ((wrap64 ((wrap64 ((wrap64 ((wrap64 ((wrap64 ((wrap64 ((wrap64 ((wrap64 ((wrap64 ((wrap64 ((wrap64 ((wrap64 ((wrap64 ((wrap64 ((wrap64 ((wrap64 (x1 + 1)) + 1)) + 1)) + 1)) + 1)) + 1)) + 1)) + 1)) + 1)) + 1)) + 1)) + 1)) + 1)) + 1)) + 1)) + 1)) + 1),(⟨(rd_T114 y530 x5).f15.f0,(rd_T114 y530 x5).f15.f1⟩ : S112)⟩ : S114) : List (S114))).bind fun y531 => ((some (y531.set (x5 : Int).toNat (⟨(rd_T114 y531 x5).f0,(rd_T114 y531 x5).f1,(rd_T114 y531 x5).f2,(rd_T114 y531 x5).f3,(rd_T114 y531 x5).f4,(rd_T114 y531 x5).f5,(rd_T114 y531 x5).f6,(rd_T114 y531 x5).f7,(rd_T114 y531 x5).f8,(rd_T114 y531 x5).f9,(rd_T114 y531 x5).f10,(⟨(rd_T114 y531 x5).f11.f0,(rd_T114 y531 x5).f11.f1,(rd_T114 y531 x5).f11.f2,(rd_T114 y531 x5).f11.f3⟩ : S110),(rd_T114 y531 x5).f12,(rd_T114 y531 x5).f13,(rd_T114 y531 x5).f14,(⟨wrap64 ((wrap64 ((wrap64 ((wrap64 ((wrap64 ((wrap64 ((wrap64 ((wrap64 ((wrap64 ((wrap64 ((wrap64 ((wrap64 ((wrap64 ((wrap64 ((wrap64 ((wrap64 ((wrap64 ((wrap64 (x1 + 1)) + 1)) + 1)) + 1)) + 1)) + 1)) + 1)) + 1)) + 1)) + 1)) + 1)) + 1)) + 1)) + 1)) + 1)) + 1)) + 1)) + 1),(rd_T114 y531 x5).f15.f1⟩ : S112)⟩ : S114) : List (S114))).bind fun y532 => (laws_markTalkS.l0 k (y532.set (x5 : Int).toNat (⟨(rd_T114 y532 x5).f0,(rd_T114 y532 x5).f1,(rd_T114 y532 x5).f2,(rd_T114 y532 x5).f3,(rd_T114 y532 x5).f4,(rd_T114 y532 x5).f5,(rd_T114 y532 x5).f6,(rd_T114 y532 x5).f7,(rd_T114 y532 x5).f8,(rd_T114 y532 x5).f9,(rd_T114 y532 x5).f10,(⟨(rd_T114 y532 x5).f11.f0,(rd_T114 y532 x5).f11.f1,(rd_T114 y532 x5).f11.f2,(rd_T114 y532 x5).f11.f3⟩ : S110),(rd_T114 y532 x5).f12,(rd_T114 y532 x5).f13,(rd_T114 y532 x5).f14,(⟨(rd_T114 y532 x5).f15.f0,wrap64 ((wrap64 ((wrap64 ((wrap64 ((wrap64 ((wrap64 ((wrap64 ((wrap64 ((wrap64 ((wrap64 ((wrap64 ((wrap64 ((wrap64 ((wrap64 ((wrap64 ((wrap64 ((wrap64 ((wrap64 ((wrap64 (x1 + 1)) + 1)) + 1)) + 1)) + 1)) + 1)) + 1)) + 1)) + 1)) + 1)) + 1)) + 1)) + 1)) + 1)) + 1)) + 1)) + 1)) + 1)) + 1)⟩ : S112)⟩ : S114)) (wrap64 ((wrap64 ((wrap64 ((wrap64 ((wrap64 ((wrap64 ((wrap64 ((wrap64 ((wrap64 ((wrap64 ((wrap64 ((wrap64 ((wrap64 ((wrap64 ((wrap64 ((wrap64 ((wrap64 ((wrap64 ((wrap64 ((wrap64 (x1 + 1)) + 1)) + 1)) + 1)) + 1)) + 1)) + 1)) + 1)) + 1)) + 1)) + 1)) + 1)) + 1)) + 1)) + 1)) + 1)) + 1)) + 1)) + 1)) + 1)) (wrap64 (x5 + 1)))))))))))))))))))))) else (none)) else (some (x1,x0))
def laws_markTalkS.f (k : Nat) (l0 : List (S114)) (a1 : Int) : Option (Int × (List (S114))):=laws_markTalkS.l0 k l0 a1 0
set_option maxHeartbeats 8000000 in
set_option maxRecDepth 100000 in
theorem laws_markTalkS.calls (k : Nat) (P0_ : Nat → Prop) (u9000_ : Value) (l0 : List (S114)) (a1 r1 : Int) (r2 : List (S114)) (w0 w : World) (hB : Below w0.heap.size w0 w) (ho0 : Kd.R k114 114 w w0.heap.size P0_ u9000_ l0) (h : laws_markTalkS.f k l0 a1 = some (r1,r2)) :
  Calls Tryz.prog 72 #[u9000_,.int .i64 a1] w fun e w' => e = .returned (.int .i64 r1) ∧ Kd.R k114 114 w' w0.heap.size (fun k_ => (P0_ k_ ∨ w.heap.size ≤ k_)) u9000_ r2 ∧ Below w0.heap.size w0 w' ∧ Kept w w' (fun k_ => P0_ k_):=by
 have ap:=Z_ (show Kd.R k114 114 w w0.heap.size (fun k_ => (P0_ k_ ∨ w.heap.size ≤ k_)) u9000_ l0 from Kd.R_mono ho0 (fun k_ hk => (.inl hk)))
 have HK:=Z_ (Kept.refl w (fun k_ => P0_ k_))
 have HW0:=Z_ hB.size
 have HB:=Z_ hB
 clear hB
 unfold laws_markTalkS.f at h
 have H:=h
 clear h
 have H':=Z_ H
 clear H
 go_enter Tryz.func72,Tryz.ntmps72
 go_wp2
 go_loopg [1,5] k (fun kq v1 v5 w' => ∃ (x0_1 : List (S114)) (x1_1 : Int) (x5_1 : Int),v1 = .int .i64 x1_1 ∧ v5 = .int .i64 x5_1 ∧ Aside0 (laws_markTalkS.l0 kq x0_1 x1_1 x5_1 = some (r1,r2)) ∧ Aside0 (kq ≤ k) ∧ Aside0 (Kd.R k114 114 w' w0.heap.size (fun k_ => (P0_ k_ ∨ w.heap.size ≤ k_)) u9000_ x0_1) ∧ Aside0 (Kept w w' (fun k_ => P0_ k_)) ∧ Aside0 (Below w0.heap.size w0 w'))
 case atStart => exact ⟨(l0),(a1),(0),Sr_,Sr_,H',⟨Nat.le_refl _⟩,⟨Rk_ ap⟩,⟨by repeat (first | (with_reducible first | exact HK.out | apply Kept.alloc | apply Kept.drewN | apply Kept.drew) | exact HK.out)⟩,⟨Lb_⟩⟩
 case round =>
  clear H'
  try clear p2
  obtain ⟨x0_1,x1_1,x5_1,rfl,rfl,HA,HK1,a0,HK,HB⟩:=hrel
  cases gk with
  | zero => exact absurd HA.out (by simp [laws_markTalkS.l0])
  | succ k1 =>
   have H:=HA.out
   clear HA
   simp only [laws_markTalkS.l0] at H
   replace H:=iD_ H
   obtain ⟨c3b0,H⟩ | ⟨c3b0,H⟩:=H
   rotate_left
   ·simp only [Option.some.injEq,Prod.mk.injEq] at H
    obtain ⟨rfl,rfl⟩:=H
    obtain ⟨ar,au,eo66⟩:=Kd.R_slice a0.out
    subst eo66
    go_wp2
    go_ret
    exact ⟨Er_,Rk_ a0,Lb_,by repeat (first | (with_reducible first | exact HK.out | apply Kept.alloc | apply Kept.drewN | apply Kept.drew) | exact HK.out)⟩
   rotate_right
   replace H:=iM_ H
   obtain ⟨c4b0,H⟩:=H
   replace H:=Option.bind_eq_some_iff.mp H
   obtain ⟨y514,hy514,H⟩:=H
   replace hy514:=(Option.some.inj hy514).symm
   try dsimp only at H
   have a4:=Z_ hy514
   clear hy514
   replace H:=Option.bind_eq_some_iff.mp H
   obtain ⟨y515,hy515,H⟩:=H
   replace hy515:=(Option.some.inj hy515).symm
   try dsimp only at H
   have a5:=Z_ hy515
   clear hy515
   replace H:=Option.bind_eq_some_iff.mp H
   obtain ⟨y516,hy516,H⟩:=H
   replace hy516:=(Option.some.inj hy516).symm
   try dsimp only at H
   have a6:=Z_ hy516
   clear hy516
   replace H:=Option.bind_eq_some_iff.mp H
   obtain ⟨y517,hy517,H⟩:=H
   replace hy517:=(Option.some.inj hy517).symm
   try dsimp only at H
   have a7:=Z_ hy517
   clear hy517
   replace H:=Option.bind_eq_some_iff.mp H
   obtain ⟨y518,hy518,H⟩:=H
   replace hy518:=(Option.some.inj hy518).symm
   try dsimp only at H
   have a8:=Z_ hy518
   clear hy518
   replace H:=Option.bind_eq_some_iff.mp H
   obtain ⟨y519,hy519,H⟩:=H
   replace hy519:=(Option.some.inj hy519).symm
   try dsimp only at H
   have a9:=Z_ hy519
   clear hy519
   replace H:=Option.bind_eq_some_iff.mp H
   obtain ⟨y520,hy520,H⟩:=H
   replace hy520:=(Option.some.inj hy520).symm
   try dsimp only at H
   have aa:=Z_ hy520
   clear hy520
   replace H:=Option.bind_eq_some_iff.mp H
   obtain ⟨y521,hy521,H⟩:=H
   replace hy521:=(Option.some.inj hy521).symm
   try dsimp only at H
   have ab:=Z_ hy521
   clear hy521
   replace H:=Option.bind_eq_some_iff.mp H
   obtain ⟨y522,hy522,H⟩:=H
   replace hy522:=(Option.some.inj hy522).symm
   try dsimp only at H
   have ac:=Z_ hy522
   clear hy522
   replace H:=Option.bind_eq_some_iff.mp H
   obtain ⟨y523,hy523,H⟩:=H
   replace hy523:=(Option.some.inj hy523).symm
   try dsimp only at H
   have ad:=Z_ hy523
   clear hy523
   replace H:=Option.bind_eq_some_iff.mp H
   obtain ⟨y524,hy524,H⟩:=H
   replace hy524:=(Option.some.inj hy524).symm
   try dsimp only at H
   have ae:=Z_ hy524
   clear hy524
   replace H:=Option.bind_eq_some_iff.mp H
   obtain ⟨y525,hy525,H⟩:=H
   replace hy525:=(Option.some.inj hy525).symm
   try dsimp only at H
   have af:=Z_ hy525
   clear hy525
   replace H:=Option.bind_eq_some_iff.mp H
   obtain ⟨y526,hy526,H⟩:=H
   replace hy526:=(Option.some.inj hy526).symm
   try dsimp only at H
   have ag:=Z_ hy526
   clear hy526
   replace H:=Option.bind_eq_some_iff.mp H
   obtain ⟨y527,hy527,H⟩:=H
   replace hy527:=(Option.some.inj hy527).symm
   try dsimp only at H
   have ah:=Z_ hy527
   clear hy527
   replace H:=Option.bind_eq_some_iff.mp H
   obtain ⟨y528,hy528,H⟩:=H
   replace hy528:=(Option.some.inj hy528).symm
   try dsimp only at H
   have ai:=Z_ hy528
   clear hy528
   replace H:=Option.bind_eq_some_iff.mp H
   obtain ⟨y529,hy529,H⟩:=H
   replace hy529:=(Option.some.inj hy529).symm
   try dsimp only at H
   have aj:=Z_ hy529
   clear hy529
   replace H:=Option.bind_eq_some_iff.mp H
   obtain ⟨y530,hy530,H⟩:=H
   replace hy530:=(Option.some.inj hy530).symm
   try dsimp only at H
   have ak:=Z_ hy530
   clear hy530
   replace H:=Option.bind_eq_some_iff.mp H
   obtain ⟨y531,hy531,H⟩:=H
   replace hy531:=(Option.some.inj hy531).symm
   try dsimp only at H
   have al:=Z_ hy531
   clear hy531
   replace H:=Option.bind_eq_some_iff.mp H
   obtain ⟨y532,hy532,H⟩:=H
   replace hy532:=(Option.some.inj hy532).symm
   try dsimp only at H
   have am:=Z_ hy532
   clear hy532
   obtain ⟨y533,hy533⟩ : ∃ y_ : List (S114),y_ = (y532.set (x5_1 : Int).toNat (⟨(rd_T114 y532 x5_1).f0,(rd_T114 y532 x5_1).f1,(rd_T114 y532 x5_1).f2,(rd_T114 y532 x5_1).f3,(rd_T114 y532 x5_1).f4,(rd_T114 y532 x5_1).f5,(rd_T114 y532 x5_1).f6,(rd_T114 y532 x5_1).f7,(rd_T114 y532 x5_1).f8,(rd_T114 y532 x5_1).f9,(rd_T114 y532 x5_1).f10,(⟨(rd_T114 y532 x5_1).f11.f0,(rd_T114 y532 x5_1).f11.f1,(rd_T114 y532 x5_1).f11.f2,(rd_T114 y532 x5_1).f11.f3⟩ : S110),(rd_T114 y532 x5_1).f12,(rd_T114 y532 x5_1).f13,(rd_T114 y532 x5_1).f14,(⟨(rd_T114 y532 x5_1).f15.f0,wrap64 ((wrap64 ((wrap64 ((wrap64 ((wrap64 ((wrap64 ((wrap64 ((wrap64 ((wrap64 ((wrap64 ((wrap64 ((wrap64 ((wrap64 ((wrap64 ((wrap64 ((wrap64 ((wrap64 ((wrap64 ((wrap64 (x1_1 + 1)) + 1)) + 1)) + 1)) + 1)) + 1)) + 1)) + 1)) + 1)) + 1)) + 1)) + 1)) + 1)) + 1)) + 1)) + 1)) + 1)) + 1)) + 1)⟩ : S112)⟩ : S114)):=⟨_,rfl⟩
   replace H : (laws_markTalkS.l0 k1 y533 (wrap64 ((wrap64 ((wrap64 ((wrap64 ((wrap64 ((wrap64 ((wrap64 ((wrap64 ((wrap64 ((wrap64 ((wrap64 ((wrap64 ((wrap64 ((wrap64 ((wrap64 ((wrap64 ((wrap64 ((wrap64 ((wrap64 ((wrap64 (x1_1 + 1)) + 1)) + 1)) + 1)) + 1)) + 1)) + 1)) + 1)) + 1)) + 1)) + 1)) + 1)) + 1)) + 1)) + 1)) + 1)) + 1)) + 1)) + 1)) + 1)) (wrap64 (x5_1 + 1))) = some (r1,r2):=by first | (rw [hy533];with_reducible exact H) | (have H2_:=(Option.bind_some _ _).symm.trans H;rw [hy533];with_reducible exact H2_) | (have H2_:=(Option.bind_some _ _).symm.trans H;with_reducible exact H2_) | with_reducible exact H | (rw [hy533];exact H) | exact H
   have an:=Z_ hy533
   clear hy533
   have H':=Z_ H
   clear H
   obtain ⟨aq,a2,eo25⟩:=Kd.R_slice a0.out
   subst eo25
   have p5 : 0 ≤ (x5_1 : Int):=dA_
   have q5 : (x5_1 : Int) < ((x0_1.length : Int) : Int):=dA_
   obtain ⟨go5,av,eo5,ao,gl5,cl5,HG5⟩:=Kd.R_form a0.out (by omega)
   (first | cases eo5 | (injection eo5 with ea_ en_ ec_;(first | subst ea_ | (injection ea_ with ea_;subst ea_));subst ec_;clear en_))
   have a3:=Z_ ao
   have GG5:=Z_ HG5
   clear ao gl5 HG5
   have HMgo5:=Z_ (show (P0_ go5 ∨ w.heap.size ≤ go5) from (a0.out.1 _ rfl))
   obtain ⟨ce5,hcl5,hM5,hcc5,hfr5⟩:=Kd.R_elem a0.out z114 (x5_1 : Int) p5 q5
   obtain rfl:=k114_openM hM5
   have hx5_0 : wr.cell? ⟨go5,(x5_1 : Int).toNat * 20,none⟩ = some (.int .i64 ((rd_T114 x0_1 x5_1).f0)):=hcc5 0 _ rfl
   have hx5_1 : wr.cell? ⟨go5,(x5_1 : Int).toNat * 20 + 1,none⟩ = some (.int .i64 ((rd_T114 x0_1 x5_1).f1)):=hcc5 1 _ rfl
   have hx5_2 : wr.cell? ⟨go5,(x5_1 : Int).toNat * 20 + 2,none⟩ = some (.int .i64 ((rd_T114 x0_1 x5_1).f2)):=hcc5 2 _ rfl
   have hx5_3 : wr.cell? ⟨go5,(x5_1 : Int).toNat * 20 + 3,none⟩ = some (.int .i64 ((rd_T114 x0_1 x5_1).f3)):=hcc5 3 _ rfl
   have hx5_4 : wr.cell? ⟨go5,(x5_1 : Int).toNat * 20 + 4,none⟩ = some (.int .i64 ((rd_T114 x0_1 x5_1).f4)):=hcc5 4 _ rfl
   have hx5_5 : wr.cell? ⟨go5,(x5_1 : Int).toNat * 20 + 5,none⟩ = some (.int .i64 ((rd_T114 x0_1 x5_1).f5)):=hcc5 5 _ rfl
   have hx5_6 : wr.cell? ⟨go5,(x5_1 : Int).toNat * 20 + 6,none⟩ = some (.int .i64 ((rd_T114 x0_1 x5_1).f6)):=hcc5 6 _ rfl
   have hx5_7 : wr.cell? ⟨go5,(x5_1 : Int).toNat * 20 + 7,none⟩ = some (.int .i64 ((rd_T114 x0_1 x5_1).f7)):=hcc5 7 _ rfl
   have hx5_8 : wr.cell? ⟨go5,(x5_1 : Int).toNat * 20 + 8,none⟩ = some (.int .i64 ((rd_T114 x0_1 x5_1).f8)):=hcc5 8 _ rfl
   have hx5_9 : wr.cell? ⟨go5,(x5_1 : Int).toNat * 20 + 9,none⟩ = some (.int .i64 ((rd_T114 x0_1 x5_1).f9)):=hcc5 9 _ rfl
   have hx5_10 : wr.cell? ⟨go5,(x5_1 : Int).toNat * 20 + 10,none⟩ = some (.int .i64 ((rd_T114 x0_1 x5_1).f10)):=hcc5 10 _ rfl
   have hx5_11 : wr.cell? ⟨go5,(x5_1 : Int).toNat * 20 + 11,none⟩ = some (.int .i64 ((rd_T114 x0_1 x5_1).f11.f0)):=hcc5 11 _ rfl
   have hx5_12 : wr.cell? ⟨go5,(x5_1 : Int).toNat * 20 + 12,none⟩ = some (.int .i64 ((rd_T114 x0_1 x5_1).f11.f1)):=hcc5 12 _ rfl
   have hx5_13 : wr.cell? ⟨go5,(x5_1 : Int).toNat * 20 + 13,none⟩ = some (.int .i64 ((rd_T114 x0_1 x5_1).f11.f2)):=hcc5 13 _ rfl
   have hx5_14 : wr.cell? ⟨go5,(x5_1 : Int).toNat * 20 + 14,none⟩ = some (.int .i64 ((rd_T114 x0_1 x5_1).f11.f3)):=hcc5 14 _ rfl
   have hx5_15 : wr.cell? ⟨go5,(x5_1 : Int).toNat * 20 + 15,none⟩ = some (.int .i64 ((rd_T114 x0_1 x5_1).f12)):=hcc5 15 _ rfl
   have hx5_16 : wr.cell? ⟨go5,(x5_1 : Int).toNat * 20 + 16,none⟩ = some (.int .i64 ((rd_T114 x0_1 x5_1).f13)):=hcc5 16 _ rfl
   have hx5_17 : wr.cell? ⟨go5,(x5_1 : Int).toNat * 20 + 17,none⟩ = some (.int .i64 ((rd_T114 x0_1 x5_1).f14)):=hcc5 17 _ rfl
   have hx5_18 : wr.cell? ⟨go5,(x5_1 : Int).toNat * 20 + 18,none⟩ = some (.int .i64 ((rd_T114 x0_1 x5_1).f15.f0)):=hcc5 18 _ rfl
   have hx5_19 : wr.cell? ⟨go5,(x5_1 : Int).toNat * 20 + 19,none⟩ = some (.int .i64 ((rd_T114 x0_1 x5_1).f15.f1)):=hcc5 19 _ rfl
   have hf5_0 : wr.frozen? ⟨go5,(x5_1 : Int).toNat * 20,none⟩ = false:=hfr5 0
   have hf5_1 : wr.frozen? ⟨go5,(x5_1 : Int).toNat * 20 + 1,none⟩ = false:=hfr5 1
   have hf5_2 : wr.frozen? ⟨go5,(x5_1 : Int).toNat * 20 + 2,none⟩ = false:=hfr5 2
   have hf5_3 : wr.frozen? ⟨go5,(x5_1 : Int).toNat * 20 + 3,none⟩ = false:=hfr5 3
   have hf5_4 : wr.frozen? ⟨go5,(x5_1 : Int).toNat * 20 + 4,none⟩ = false:=hfr5 4
   have hf5_5 : wr.frozen? ⟨go5,(x5_1 : Int).toNat * 20 + 5,none⟩ = false:=hfr5 5
   have hf5_6 : wr.frozen? ⟨go5,(x5_1 : Int).toNat * 20 + 6,none⟩ = false:=hfr5 6
   have hf5_7 : wr.frozen? ⟨go5,(x5_1 : Int).toNat * 20 + 7,none⟩ = false:=hfr5 7
   have hf5_8 : wr.frozen? ⟨go5,(x5_1 : Int).toNat * 20 + 8,none⟩ = false:=hfr5 8
   have hf5_9 : wr.frozen? ⟨go5,(x5_1 : Int).toNat * 20 + 9,none⟩ = false:=hfr5 9
   have hf5_10 : wr.frozen? ⟨go5,(x5_1 : Int).toNat * 20 + 10,none⟩ = false:=hfr5 10
   have hf5_11 : wr.frozen? ⟨go5,(x5_1 : Int).toNat * 20 + 11,none⟩ = false:=hfr5 11
   have hf5_12 : wr.frozen? ⟨go5,(x5_1 : Int).toNat * 20 + 12,none⟩ = false:=hfr5 12
   have hf5_13 : wr.frozen? ⟨go5,(x5_1 : Int).toNat * 20 + 13,none⟩ = false:=hfr5 13
   have hf5_14 : wr.frozen? ⟨go5,(x5_1 : Int).toNat * 20 + 14,none⟩ = false:=hfr5 14
   have hf5_15 : wr.frozen? ⟨go5,(x5_1 : Int).toNat * 20 + 15,none⟩ = false:=hfr5 15
   have hf5_16 : wr.frozen? ⟨go5,(x5_1 : Int).toNat * 20 + 16,none⟩ = false:=hfr5 16
   have hf5_17 : wr.frozen? ⟨go5,(x5_1 : Int).toNat * 20 + 17,none⟩ = false:=hfr5 17
   have hf5_18 : wr.frozen? ⟨go5,(x5_1 : Int).toNat * 20 + 18,none⟩ = false:=hfr5 18
   have hf5_19 : wr.frozen? ⟨go5,(x5_1 : Int).toNat * 20 + 19,none⟩ = false:=hfr5 19
   clear hcl5 hcc5 hfr5 hM5
   replace p5:=eq_true p5
   replace q5:=eq_true q5
   have HX26:=Z_ (show Kd.R k114 114 wr w0.heap.size (fun k_ => (P0_ k_ ∨ w.heap.size ≤ k_)) (.slice (some ⟨go5,0,none⟩) x0_1.length a2) x0_1 from (Rk_ a0))
   obtain ⟨ce26,hcl26,hM26,hcc26,hfr26⟩:=Kd.R_elem HX26.out z114 (x5_1 : Int) (dA_) (by have h_ : (x5_1 : Int) < ((x0_1.length : Int) : Int):=dA_;first | exact h_ | (have e_:=(Kd.R_reads' a0.out).1;omega) | simpa using h_)
   obtain rfl:=k114_openM hM26
   have HP26:=Kd.R_seg HX26.out (x5_1 : Int) (dA_) (by have h_ : (x5_1 : Int) < ((x0_1.length : Int) : Int):=dA_;first | exact h_ | (have e_:=(Kd.R_reads' a0.out).1;omega) | simpa using h_) (seg:=[.int .i64 x1_1]) (j:=0) hcl26 hcc26 (show 1 ≤ 20 from by decide) (k114_mkM _ _ _ (⟨x1_1,(rd_T114 x0_1 x5_1).f1,(rd_T114 x0_1 x5_1).f2,(rd_T114 x0_1 x5_1).f3,(rd_T114 x0_1 x5_1).f4,(rd_T114 x0_1 x5_1).f5,(rd_T114 x0_1 x5_1).f6,(rd_T114 x0_1 x5_1).f7,(rd_T114 x0_1 x5_1).f8,(rd_T114 x0_1 x5_1).f9,(rd_T114 x0_1 x5_1).f10,(⟨(rd_T114 x0_1 x5_1).f11.f0,(rd_T114 x0_1 x5_1).f11.f1,(rd_T114 x0_1 x5_1).f11.f2,(rd_T114 x0_1 x5_1).f11.f3⟩ : S110),(rd_T114 x0_1 x5_1).f12,(rd_T114 x0_1 x5_1).f13,(rd_T114 x0_1 x5_1).f14,(⟨(rd_T114 x0_1 x5_1).f15.f0,(rd_T114 x0_1 x5_1).f15.f1⟩ : S112)⟩ : S114) ) (fun _ hk => hk)
   have hx26_0:=hcc26 0 _ rfl
   (try simp only [show (k114).sz = 20 from rfl,Nat.mul_one,Nat.add_zero] at hx26_0)
   have hf26_0:=hfr26 0
   (try simp only [show (k114).sz = 20 from rfl,Nat.mul_one,Nat.add_zero] at hf26_0)
   clear hcl26 hcc26 hfr26 hM26
   go_wp2_with (first | ((with_reducible refine gate_store (t:=2) (p:=16) rfl ?_);refine store_event (t:=2) (p:=16) (v:=?vo_w27) (w1:=(wr.setCell ⟨go5,(x5_1 : Int).toNat * 20,none⟩ (.int .i64 x1_1))) ?hg ?ho ?hn ?hr ?_;(case ho => rfl);(case hg => rfl);(case hn => rfl);(case hr => first | (go_simp;done) | (go_simp;rfl));intro w27 hw;have hg : wr.grownBy w27 (some go5):=(by rw [hw];exact HP26.2);have hp_ : Kd.R k114 114 w27 w0.heap.size (fun k_ => (P0_ k_ ∨ w.heap.size ≤ k_)) (.slice (some ⟨go5,0,none⟩) x0_1.length a2) y514:=(by rw [hw,a4.out];exact HP26.1);clear HP26;replace HB:=Z_ ((by rw [hw];exact lS1_ (HB.out) a3.out : Below w0.heap.size w0 w27));replace HK:=Z_ (Kept.of_grown (S:=(fun k_ => P0_ k_)) hg (by repeat (first | (with_reducible first | exact HK.out | apply Kept.alloc | apply Kept.drewN | apply Kept.drew) | exact HK.out)) (fun k_ e_ => (a0.out.1 k_ e_)));replace a0:=Z_ (hp_);clear hg hw hp_;have p6 : 0 ≤ (x5_1 : Int):=dA_;have q6 : (x5_1 : Int) < ((x0_1.length : Int) : Int):=dA_;replace p6:=eq_true p6;replace q6:=eq_true q6;have HX28:=Z_ (show Kd.R k114 114 w27 w0.heap.size (fun k_ => (P0_ k_ ∨ w.heap.size ≤ k_)) (.slice (some ⟨go5,0,none⟩) x0_1.length a2) y514 from (Rk_ a0));obtain ⟨ce28,hcl28,hM28,hcc28,hfr28⟩:=Kd.R_elem HX28.out z114 (x5_1 : Int) (dA_) (by have h_ : (x5_1 : Int) < ((x0_1.length : Int) : Int):=dA_;first | exact h_ | (have e_:=(Kd.R_reads' a0.out).1;omega) | simpa using h_);obtain rfl:=k114_openM hM28;have HP28:=Kd.R_seg HX28.out (x5_1 : Int) (dA_) (by have h_ : (x5_1 : Int) < ((x0_1.length : Int) : Int):=dA_;first | exact h_ | (have e_:=(Kd.R_reads' a0.out).1;omega) | simpa using h_) (seg:=[.int .i64 (wrap64 (x1_1 + 1))]) (j:=1) hcl28 hcc28 (show 2 ≤ 20 from by decide) (k114_mkM _ _ _ (⟨(rd_T114 y514 x5_1).f0,wrap64 (x1_1 + 1),(rd_T114 y514 x5_1).f2,(rd_T114 y514 x5_1).f3,(rd_T114 y514 x5_1).f4,(rd_T114 y514 x5_1).f5,(rd_T114 y514 x5_1).f6,(rd_T114 y514 x5_1).f7,(rd_T114 y514 x5_1).f8,(rd_T114 y514 x5_1).f9,(rd_T114 y514 x5_1).f10,(⟨(rd_T114 y514 x5_1).f11.f0,(rd_T114 y514 x5_1).f11.f1,(rd_T114 y514 x5_1).f11.f2,(rd_T114 y514 x5_1).f11.f3⟩ : S110),(rd_T114 y514 x5_1).f12,(rd_T114 y514 x5_1).f13,(rd_T114 y514 x5_1).f14,(⟨(rd_T114 y514 x5_1).f15.f0,(rd_T114 y514 x5_1).f15.f1⟩ : S112)⟩ : S114) ) (fun _ hk => hk);have hx28_1:=hcc28 1 _ rfl;(try simp only [show (k114).sz = 20 from rfl,Nat.mul_one,Nat.add_zero] at hx28_1);have hf28_1:=hfr28 1;(try simp only [show (k114).sz = 20 from rfl,Nat.mul_one,Nat.add_zero] at hf28_1);clear hcl28 hcc28 hfr28 hM28) | ((with_reducible refine gate_store (t:=2) (p:=23) rfl ?_);refine store_event (t:=2) (p:=23) (v:=?vo_w29) (w1:=(w27.setCell ⟨go5,(x5_1 : Int).toNat * 20 + 1,none⟩ (.int .i64 (wrap64 (x1_1 + 1))))) ?hg ?ho ?hn ?hr ?_;(case ho => rfl);(case hg => rfl);(case hn => rfl);(case hr => first | (go_simp;done) | (go_simp;rfl));intro w29 hw;have hg : w27.grownBy w29 (some go5):=(by rw [hw];exact HP28.2);have hp_ : Kd.R k114 114 w29 w0.heap.size (fun k_ => (P0_ k_ ∨ w.heap.size ≤ k_)) (.slice (some ⟨go5,0,none⟩) x0_1.length a2) y515:=(by rw [hw,a5.out];exact HP28.1);clear HP28;replace HB:=Z_ ((by rw [hw];exact lS1_ (HB.out) a3.out : Below w0.heap.size w0 w29));replace HK:=Z_ (Kept.of_grown (S:=(fun k_ => P0_ k_)) hg (by repeat (first | (with_reducible first | exact HK.out | apply Kept.alloc | apply Kept.drewN | apply Kept.drew) | exact HK.out)) (fun k_ e_ => (a0.out.1 k_ e_)));replace a0:=Z_ (hp_);clear hg hw hp_;have p7 : 0 ≤ (x5_1 : Int):=dA_;have q7 : (x5_1 : Int) < ((x0_1.length : Int) : Int):=dA_;replace p7:=eq_true p7;replace q7:=eq_true q7;have HX30:=Z_ (show Kd.R k114 114 w29 w0.heap.size (fun k_ => (P0_ k_ ∨ w.heap.size ≤ k_)) (.slice (some ⟨go5,0,none⟩) x0_1.length a2) y515 from a0.out);obtain ⟨ce30,hcl30,hM30,hcc30,hfr30⟩:=Kd.R_elem HX30.out z114 (x5_1 : Int) (dA_) (by have h_ : (x5_1 : Int) < ((x0_1.length : Int) : Int):=dA_;first | exact h_ | (have e_:=(Kd.R_reads' a0.out).1;omega) | simpa using h_);obtain rfl:=k114_openM hM30;have HP30:=Kd.R_seg HX30.out (x5_1 : Int) (dA_) (by have h_ : (x5_1 : Int) < ((x0_1.length : Int) : Int):=dA_;first | exact h_ | (have e_:=(Kd.R_reads' a0.out).1;omega) | simpa using h_) (seg:=[.int .i64 (wrap64 ((wrap64 (x1_1 + 1)) + 1))]) (j:=2) hcl30 hcc30 (show 3 ≤ 20 from by decide) (k114_mkM _ _ _ (⟨(rd_T114 y515 x5_1).f0,(rd_T114 y515 x5_1).f1,wrap64 ((wrap64 (x1_1 + 1)) + 1),(rd_T114 y515 x5_1).f3,(rd_T114 y515 x5_1).f4,(rd_T114 y515 x5_1).f5,(rd_T114 y515 x5_1).f6,(rd_T114 y515 x5_1).f7,(rd_T114 y515 x5_1).f8,(rd_T114 y515 x5_1).f9,(rd_T114 y515 x5_1).f10,(⟨(rd_T114 y515 x5_1).f11.f0,(rd_T114 y515 x5_1).f11.f1,(rd_T114 y515 x5_1).f11.f2,(rd_T114 y515 x5_1).f11.f3⟩ : S110),(rd_T114 y515 x5_1).f12,(rd_T114 y515 x5_1).f13,(rd_T114 y515 x5_1).f14,(⟨(rd_T114 y515 x5_1).f15.f0,(rd_T114 y515 x5_1).f15.f1⟩ : S112)⟩ : S114) ) (fun _ hk => hk);have hx30_2:=hcc30 2 _ rfl;(try simp only [show (k114).sz = 20 from rfl,Nat.mul_one,Nat.add_zero] at hx30_2);have hf30_2:=hfr30 2;(try simp only [show (k114).sz = 20 from rfl,Nat.mul_one,Nat.add_zero] at hf30_2);clear hcl30 hcc30 hfr30 hM30) | ((with_reducible refine gate_store (t:=2) (p:=30) rfl ?_);refine store_event (t:=2) (p:=30) (v:=?vo_w31) (w1:=(w29.setCell ⟨go5,(x5_1 : Int).toNat * 20 + 2,none⟩ (.int .i64 (wrap64 ((wrap64 (x1_1 + 1)) + 1))))) ?hg ?ho ?hn ?hr ?_;(case ho => rfl);(case hg => rfl);(case hn => rfl);(case hr => first | (go_simp;done) | (go_simp;rfl));intro w31 hw;have hg : w29.grownBy w31 (some go5):=(by rw [hw];exact HP30.2);have hp_ : Kd.R k114 114 w31 w0.heap.size (fun k_ => (P0_ k_ ∨ w.heap.size ≤ k_)) (.slice (some ⟨go5,0,none⟩) x0_1.length a2) y516:=(by rw [hw,a6.out];exact HP30.1);clear HP30;replace HB:=Z_ ((by rw [hw];exact lS1_ (HB.out) a3.out : Below w0.heap.size w0 w31));replace HK:=Z_ (Kept.of_grown (S:=(fun k_ => P0_ k_)) hg (by repeat (first | (with_reducible first | exact HK.out | apply Kept.alloc | apply Kept.drewN | apply Kept.drew) | exact HK.out)) (fun k_ e_ => (a0.out.1 k_ e_)));replace a0:=Z_ (hp_);clear hg hw hp_;have p8 : 0 ≤ (x5_1 : Int):=dA_;have q8 : (x5_1 : Int) < ((x0_1.length : Int) : Int):=dA_;replace p8:=eq_true p8;replace q8:=eq_true q8;have HX32:=Z_ (show Kd.R k114 114 w31 w0.heap.size (fun k_ => (P0_ k_ ∨ w.heap.size ≤ k_)) (.slice (some ⟨go5,0,none⟩) x0_1.length a2) y516 from a0.out);obtain ⟨ce32,hcl32,hM32,hcc32,hfr32⟩:=Kd.R_elem HX32.out z114 (x5_1 : Int) (dA_) (by have h_ : (x5_1 : Int) < ((x0_1.length : Int) : Int):=dA_;first | exact h_ | (have e_:=(Kd.R_reads' a0.out).1;omega) | simpa using h_);obtain rfl:=k114_openM hM32;have HP32:=Kd.R_seg HX32.out (x5_1 : Int) (dA_) (by have h_ : (x5_1 : Int) < ((x0_1.length : Int) : Int):=dA_;first | exact h_ | (have e_:=(Kd.R_reads' a0.out).1;omega) | simpa using h_) (seg:=[.int .i64 (wrap64 ((wrap64 ((wrap64 (x1_1 + 1)) + 1)) + 1))]) (j:=3) hcl32 hcc32 (show 4 ≤ 20 from by decide) (k114_mkM _ _ _ (⟨(rd_T114 y516 x5_1).f0,(rd_T114 y516 x5_1).f1,(rd_T114 y516 x5_1).f2,wrap64 ((wrap64 ((wrap64 (x1_1 + 1)) + 1)) + 1),(rd_T114 y516 x5_1).f4,(rd_T114 y516 x5_1).f5,(rd_T114 y516 x5_1).f6,(rd_T114 y516 x5_1).f7,(rd_T114 y516 x5_1).f8,(rd_T114 y516 x5_1).f9,(rd_T114 y516 x5_1).f10,(⟨(rd_T114 y516 x5_1).f11.f0,(rd_T114 y516 x5_1).f11.f1,(rd_T114 y516 x5_1).f11.f2,(rd_T114 y516 x5_1).f11.f3⟩ : S110),(rd_T114 y516 x5_1).f12,(rd_T114 y516 x5_1).f13,(rd_T114 y516 x5_1).f14,(⟨(rd_T114 y516 x5_1).f15.f0,(rd_T114 y516 x5_1).f15.f1⟩ : S112)⟩ : S114) ) (fun _ hk => hk);have hx32_3:=hcc32 3 _ rfl;(try simp only [show (k114).sz = 20 from rfl,Nat.mul_one,Nat.add_zero] at hx32_3);have hf32_3:=hfr32 3;(try simp only [show (k114).sz = 20 from rfl,Nat.mul_one,Nat.add_zero] at hf32_3);clear hcl32 hcc32 hfr32 hM32) | ((with_reducible refine gate_store (t:=2) (p:=37) rfl ?_);refine store_event (t:=2) (p:=37) (v:=?vo_w33) (w1:=(w31.setCell ⟨go5,(x5_1 : Int).toNat * 20 + 3,none⟩ (.int .i64 (wrap64 ((wrap64 ((wrap64 (x1_1 + 1)) + 1)) + 1))))) ?hg ?ho ?hn ?hr ?_;(case ho => rfl);(case hg => rfl);(case hn => rfl);(case hr => first | (go_simp;done) | (go_simp;rfl));intro w33 hw;have hg : w31.grownBy w33 (some go5):=(by rw [hw];exact HP32.2);have hp_ : Kd.R k114 114 w33 w0.heap.size (fun k_ => (P0_ k_ ∨ w.heap.size ≤ k_)) (.slice (some ⟨go5,0,none⟩) x0_1.length a2) y517:=(by rw [hw,a7.out];exact HP32.1);clear HP32;replace HB:=Z_ ((by rw [hw];exact lS1_ (HB.out) a3.out : Below w0.heap.size w0 w33));replace HK:=Z_ (Kept.of_grown (S:=(fun k_ => P0_ k_)) hg (by repeat (first | (with_reducible first | exact HK.out | apply Kept.alloc | apply Kept.drewN | apply Kept.drew) | exact HK.out)) (fun k_ e_ => (a0.out.1 k_ e_)));replace a0:=Z_ (hp_);clear hg hw hp_;have p9 : 0 ≤ (x5_1 : Int):=dA_;have q9 : (x5_1 : Int) < ((x0_1.length : Int) : Int):=dA_;replace p9:=eq_true p9;replace q9:=eq_true q9;have HX34:=Z_ (show Kd.R k114 114 w33 w0.heap.size (fun k_ => (P0_ k_ ∨ w.heap.size ≤ k_)) (.slice (some ⟨go5,0,none⟩) x0_1.length a2) y517 from a0.out);obtain ⟨ce34,hcl34,hM34,hcc34,hfr34⟩:=Kd.R_elem HX34.out z114 (x5_1 : Int) (dA_) (by have h_ : (x5_1 : Int) < ((x0_1.length : Int) : Int):=dA_;first | exact h_ | (have e_:=(Kd.R_reads' a0.out).1;omega) | simpa using h_);obtain rfl:=k114_openM hM34;have HP34:=Kd.R_seg HX34.out (x5_1 : Int) (dA_) (by have h_ : (x5_1 : Int) < ((x0_1.length : Int) : Int):=dA_;first | exact h_ | (have e_:=(Kd.R_reads' a0.out).1;omega) | simpa using h_) (seg:=[.int .i64 (wrap64 ((wrap64 ((wrap64 ((wrap64 (x1_1 + 1)) + 1)) + 1)) + 1))]) (j:=4) hcl34 hcc34 (show 5 ≤ 20 from by decide) (k114_mkM _ _ _ (⟨(rd_T114 y517 x5_1).f0,(rd_T114 y517 x5_1).f1,(rd_T114 y517 x5_1).f2,(rd_T114 y517 x5_1).f3,wrap64 ((wrap64 ((wrap64 ((wrap64 (x1_1 + 1)) + 1)) + 1)) + 1),(rd_T114 y517 x5_1).f5,(rd_T114 y517 x5_1).f6,(rd_T114 y517 x5_1).f7,(rd_T114 y517 x5_1).f8,(rd_T114 y517 x5_1).f9,(rd_T114 y517 x5_1).f10,(⟨(rd_T114 y517 x5_1).f11.f0,(rd_T114 y517 x5_1).f11.f1,(rd_T114 y517 x5_1).f11.f2,(rd_T114 y517 x5_1).f11.f3⟩ : S110),(rd_T114 y517 x5_1).f12,(rd_T114 y517 x5_1).f13,(rd_T114 y517 x5_1).f14,(⟨(rd_T114 y517 x5_1).f15.f0,(rd_T114 y517 x5_1).f15.f1⟩ : S112)⟩ : S114) ) (fun _ hk => hk);have hx34_4:=hcc34 4 _ rfl;(try simp only [show (k114).sz = 20 from rfl,Nat.mul_one,Nat.add_zero] at hx34_4);have hf34_4:=hfr34 4;(try simp only [show (k114).sz = 20 from rfl,Nat.mul_one,Nat.add_zero] at hf34_4);clear hcl34 hcc34 hfr34 hM34) | ((with_reducible refine gate_store (t:=2) (p:=44) rfl ?_);refine store_event (t:=2) (p:=44) (v:=?vo_w35) (w1:=(w33.setCell ⟨go5,(x5_1 : Int).toNat * 20 + 4,none⟩ (.int .i64 (wrap64 ((wrap64 ((wrap64 ((wrap64 (x1_1 + 1)) + 1)) + 1)) + 1))))) ?hg ?ho ?hn ?hr ?_;(case ho => rfl);(case hg => rfl);(case hn => rfl);(case hr => first | (go_simp;done) | (go_simp;rfl));intro w35 hw;have hg : w33.grownBy w35 (some go5):=(by rw [hw];exact HP34.2);have hp_ : Kd.R k114 114 w35 w0.heap.size (fun k_ => (P0_ k_ ∨ w.heap.size ≤ k_)) (.slice (some ⟨go5,0,none⟩) x0_1.length a2) y518:=(by rw [hw,a8.out];exact HP34.1);clear HP34;replace HB:=Z_ ((by rw [hw];exact lS1_ (HB.out) a3.out : Below w0.heap.size w0 w35));replace HK:=Z_ (Kept.of_grown (S:=(fun k_ => P0_ k_)) hg (by repeat (first | (with_reducible first | exact HK.out | apply Kept.alloc | apply Kept.drewN | apply Kept.drew) | exact HK.out)) (fun k_ e_ => (a0.out.1 k_ e_)));replace a0:=Z_ (hp_);clear hg hw hp_;have p10 : 0 ≤ (x5_1 : Int):=dA_;have q10 : (x5_1 : Int) < ((x0_1.length : Int) : Int):=dA_;replace p10:=eq_true p10;replace q10:=eq_true q10;have HX36:=Z_ (show Kd.R k114 114 w35 w0.heap.size (fun k_ => (P0_ k_ ∨ w.heap.size ≤ k_)) (.slice (some ⟨go5,0,none⟩) x0_1.length a2) y518 from a0.out);obtain ⟨ce36,hcl36,hM36,hcc36,hfr36⟩:=Kd.R_elem HX36.out z114 (x5_1 : Int) (dA_) (by have h_ : (x5_1 : Int) < ((x0_1.length : Int) : Int):=dA_;first | exact h_ | (have e_:=(Kd.R_reads' a0.out).1;omega) | simpa using h_);obtain rfl:=k114_openM hM36;have HP36:=Kd.R_seg HX36.out (x5_1 : Int) (dA_) (by have h_ : (x5_1 : Int) < ((x0_1.length : Int) : Int):=dA_;first | exact h_ | (have e_:=(Kd.R_reads' a0.out).1;omega) | simpa using h_) (seg:=[.int .i64 (wrap64 ((wrap64 ((wrap64 ((wrap64 ((wrap64 (x1_1 + 1)) + 1)) + 1)) + 1)) + 1))]) (j:=5) hcl36 hcc36 (show 6 ≤ 20 from by decide) (k114_mkM _ _ _ (⟨(rd_T114 y518 x5_1).f0,(rd_T114 y518 x5_1).f1,(rd_T114 y518 x5_1).f2,(rd_T114 y518 x5_1).f3,(rd_T114 y518 x5_1).f4,wrap64 ((wrap64 ((wrap64 ((wrap64 ((wrap64 (x1_1 + 1)) + 1)) + 1)) + 1)) + 1),(rd_T114 y518 x5_1).f6,(rd_T114 y518 x5_1).f7,(rd_T114 y518 x5_1).f8,(rd_T114 y518 x5_1).f9,(rd_T114 y518 x5_1).f10,(⟨(rd_T114 y518 x5_1).f11.f0,(rd_T114 y518 x5_1).f11.f1,(rd_T114 y518 x5_1).f11.f2,(rd_T114 y518 x5_1).f11.f3⟩ : S110),(rd_T114 y518 x5_1).f12,(rd_T114 y518 x5_1).f13,(rd_T114 y518 x5_1).f14,(⟨(rd_T114 y518 x5_1).f15.f0,(rd_T114 y518 x5_1).f15.f1⟩ : S112)⟩ : S114) ) (fun _ hk => hk);have hx36_5:=hcc36 5 _ rfl;(try simp only [show (k114).sz = 20 from rfl,Nat.mul_one,Nat.add_zero] at hx36_5);have hf36_5:=hfr36 5;(try simp only [show (k114).sz = 20 from rfl,Nat.mul_one,Nat.add_zero] at hf36_5);clear hcl36 hcc36 hfr36 hM36) | ((with_reducible refine gate_store (t:=2) (p:=51) rfl ?_);refine store_event (t:=2) (p:=51) (v:=?vo_w37) (w1:=(w35.setCell ⟨go5,(x5_1 : Int).toNat * 20 + 5,none⟩ (.int .i64 (wrap64 ((wrap64 ((wrap64 ((wrap64 ((wrap64 (x1_1 + 1)) + 1)) + 1)) + 1)) + 1))))) ?hg ?ho ?hn ?hr ?_;(case ho => rfl);(case hg => rfl);(case hn => rfl);(case hr => first | (go_simp;done) | (go_simp;rfl));intro w37 hw;have hg : w35.grownBy w37 (some go5):=(by rw [hw];exact HP36.2);have hp_ : Kd.R k114 114 w37 w0.heap.size (fun k_ => (P0_ k_ ∨ w.heap.size ≤ k_)) (.slice (some ⟨go5,0,none⟩) x0_1.length a2) y519:=(by rw [hw,a9.out];exact HP36.1);clear HP36;replace HB:=Z_ ((by rw [hw];exact lS1_ (HB.out) a3.out : Below w0.heap.size w0 w37));replace HK:=Z_ (Kept.of_grown (S:=(fun k_ => P0_ k_)) hg (by repeat (first | (with_reducible first | exact HK.out | apply Kept.alloc | apply Kept.drewN | apply Kept.drew) | exact HK.out)) (fun k_ e_ => (a0.out.1 k_ e_)));replace a0:=Z_ (hp_);clear hg hw hp_;have p11 : 0 ≤ (x5_1 : Int):=dA_;have q11 : (x5_1 : Int) < ((x0_1.length : Int) : Int):=dA_;replace p11:=eq_true p11;replace q11:=eq_true q11;have HX38:=Z_ (show Kd.R k114 114 w37 w0.heap.size (fun k_ => (P0_ k_ ∨ w.heap.size ≤ k_)) (.slice (some ⟨go5,0,none⟩) x0_1.length a2) y519 from a0.out);obtain ⟨ce38,hcl38,hM38,hcc38,hfr38⟩:=Kd.R_elem HX38.out z114 (x5_1 : Int) (dA_) (by have h_ : (x5_1 : Int) < ((x0_1.length : Int) : Int):=dA_;first | exact h_ | (have e_:=(Kd.R_reads' a0.out).1;omega) | simpa using h_);obtain rfl:=k114_openM hM38;have HP38:=Kd.R_seg HX38.out (x5_1 : Int) (dA_) (by have h_ : (x5_1 : Int) < ((x0_1.length : Int) : Int):=dA_;first | exact h_ | (have e_:=(Kd.R_reads' a0.out).1;omega) | simpa using h_) (seg:=[.int .i64 (wrap64 ((wrap64 ((wrap64 ((wrap64 ((wrap64 ((wrap64 (x1_1 + 1)) + 1)) + 1)) + 1)) + 1)) + 1))]) (j:=6) hcl38 hcc38 (show 7 ≤ 20 from by decide) (k114_mkM _ _ _ (⟨(rd_T114 y519 x5_1).f0,(rd_T114 y519 x5_1).f1,(rd_T114 y519 x5_1).f2,(rd_T114 y519 x5_1).f3,(rd_T114 y519 x5_1).f4,(rd_T114 y519 x5_1).f5,wrap64 ((wrap64 ((wrap64 ((wrap64 ((wrap64 ((wrap64 (x1_1 + 1)) + 1)) + 1)) + 1)) + 1)) + 1),(rd_T114 y519 x5_1).f7,(rd_T114 y519 x5_1).f8,(rd_T114 y519 x5_1).f9,(rd_T114 y519 x5_1).f10,(⟨(rd_T114 y519 x5_1).f11.f0,(rd_T114 y519 x5_1).f11.f1,(rd_T114 y519 x5_1).f11.f2,(rd_T114 y519 x5_1).f11.f3⟩ : S110),(rd_T114 y519 x5_1).f12,(rd_T114 y519 x5_1).f13,(rd_T114 y519 x5_1).f14,(⟨(rd_T114 y519 x5_1).f15.f0,(rd_T114 y519 x5_1).f15.f1⟩ : S112)⟩ : S114) ) (fun _ hk => hk);have hx38_6:=hcc38 6 _ rfl;(try simp only [show (k114).sz = 20 from rfl,Nat.mul_one,Nat.add_zero] at hx38_6);have hf38_6:=hfr38 6;(try simp only [show (k114).sz = 20 from rfl,Nat.mul_one,Nat.add_zero] at hf38_6);clear hcl38 hcc38 hfr38 hM38) | ((with_reducible refine gate_store (t:=2) (p:=58) rfl ?_);refine store_event (t:=2) (p:=58) (v:=?vo_w39) (w1:=(w37.setCell ⟨go5,(x5_1 : Int).toNat * 20 + 6,none⟩ (.int .i64 (wrap64 ((wrap64 ((wrap64 ((wrap64 ((wrap64 ((wrap64 (x1_1 + 1)) + 1)) + 1)) + 1)) + 1)) + 1))))) ?hg ?ho ?hn ?hr ?_;(case ho => rfl);(case hg => rfl);(case hn => rfl);(case hr => first | (go_simp;done) | (go_simp;rfl));intro w39 hw;have hg : w37.grownBy w39 (some go5):=(by rw [hw];exact HP38.2);have hp_ : Kd.R k114 114 w39 w0.heap.size (fun k_ => (P0_ k_ ∨ w.heap.size ≤ k_)) (.slice (some ⟨go5,0,none⟩) x0_1.length a2) y520:=(by rw [hw,aa.out];exact HP38.1);clear HP38;replace HB:=Z_ ((by rw [hw];exact lS1_ (HB.out) a3.out : Below w0.heap.size w0 w39));replace HK:=Z_ (Kept.of_grown (S:=(fun k_ => P0_ k_)) hg (by repeat (first | (with_reducible first | exact HK.out | apply Kept.alloc | apply Kept.drewN | apply Kept.drew) | exact HK.out)) (fun k_ e_ => (a0.out.1 k_ e_)));replace a0:=Z_ (hp_);clear hg hw hp_;have p12 : 0 ≤ (x5_1 : Int):=dA_;have q12 : (x5_1 : Int) < ((x0_1.length : Int) : Int):=dA_;replace p12:=eq_true p12;replace q12:=eq_true q12;have HX40:=Z_ (show Kd.R k114 114 w39 w0.heap.size (fun k_ => (P0_ k_ ∨ w.heap.size ≤ k_)) (.slice (some ⟨go5,0,none⟩) x0_1.length a2) y520 from a0.out);obtain ⟨ce40,hcl40,hM40,hcc40,hfr40⟩:=Kd.R_elem HX40.out z114 (x5_1 : Int) (dA_) (by have h_ : (x5_1 : Int) < ((x0_1.length : Int) : Int):=dA_;first | exact h_ | (have e_:=(Kd.R_reads' a0.out).1;omega) | simpa using h_);obtain rfl:=k114_openM hM40;have HP40:=Kd.R_seg HX40.out (x5_1 : Int) (dA_) (by have h_ : (x5_1 : Int) < ((x0_1.length : Int) : Int):=dA_;first | exact h_ | (have e_:=(Kd.R_reads' a0.out).1;omega) | simpa using h_) (seg:=[.int .i64 (wrap64 ((wrap64 ((wrap64 ((wrap64 ((wrap64 ((wrap64 ((wrap64 (x1_1 + 1)) + 1)) + 1)) + 1)) + 1)) + 1)) + 1))]) (j:=7) hcl40 hcc40 (show 8 ≤ 20 from by decide) (k114_mkM _ _ _ (⟨(rd_T114 y520 x5_1).f0,(rd_T114 y520 x5_1).f1,(rd_T114 y520 x5_1).f2,(rd_T114 y520 x5_1).f3,(rd_T114 y520 x5_1).f4,(rd_T114 y520 x5_1).f5,(rd_T114 y520 x5_1).f6,wrap64 ((wrap64 ((wrap64 ((wrap64 ((wrap64 ((wrap64 ((wrap64 (x1_1 + 1)) + 1)) + 1)) + 1)) + 1)) + 1)) + 1),(rd_T114 y520 x5_1).f8,(rd_T114 y520 x5_1).f9,(rd_T114 y520 x5_1).f10,(⟨(rd_T114 y520 x5_1).f11.f0,(rd_T114 y520 x5_1).f11.f1,(rd_T114 y520 x5_1).f11.f2,(rd_T114 y520 x5_1).f11.f3⟩ : S110),(rd_T114 y520 x5_1).f12,(rd_T114 y520 x5_1).f13,(rd_T114 y520 x5_1).f14,(⟨(rd_T114 y520 x5_1).f15.f0,(rd_T114 y520 x5_1).f15.f1⟩ : S112)⟩ : S114) ) (fun _ hk => hk);have hx40_7:=hcc40 7 _ rfl;(try simp only [show (k114).sz = 20 from rfl,Nat.mul_one,Nat.add_zero] at hx40_7);have hf40_7:=hfr40 7;(try simp only [show (k114).sz = 20 from rfl,Nat.mul_one,Nat.add_zero] at hf40_7);clear hcl40 hcc40 hfr40 hM40) | ((with_reducible refine gate_store (t:=2) (p:=65) rfl ?_);refine store_event (t:=2) (p:=65) (v:=?vo_w41) (w1:=(w39.setCell ⟨go5,(x5_1 : Int).toNat * 20 + 7,none⟩ (.int .i64 (wrap64 ((wrap64 ((wrap64 ((wrap64 ((wrap64 ((wrap64 ((wrap64 (x1_1 + 1)) + 1)) + 1)) + 1)) + 1)) + 1)) + 1))))) ?hg ?ho ?hn ?hr ?_;(case ho => rfl);(case hg => rfl);(case hn => rfl);(case hr => first | (go_simp;done) | (go_simp;rfl));intro w41 hw;have hg : w39.grownBy w41 (some go5):=(by rw [hw];exact HP40.2);have hp_ : Kd.R k114 114 w41 w0.heap.size (fun k_ => (P0_ k_ ∨ w.heap.size ≤ k_)) (.slice (some ⟨go5,0,none⟩) x0_1.length a2) y521:=(by rw [hw,ab.out];exact HP40.1);clear HP40;replace HB:=Z_ ((by rw [hw];exact lS1_ (HB.out) a3.out : Below w0.heap.size w0 w41));replace HK:=Z_ (Kept.of_grown (S:=(fun k_ => P0_ k_)) hg (by repeat (first | (with_reducible first | exact HK.out | apply Kept.alloc | apply Kept.drewN | apply Kept.drew) | exact HK.out)) (fun k_ e_ => (a0.out.1 k_ e_)));replace a0:=Z_ (hp_);clear hg hw hp_;have p13 : 0 ≤ (x5_1 : Int):=dA_;have q13 : (x5_1 : Int) < ((x0_1.length : Int) : Int):=dA_;replace p13:=eq_true p13;replace q13:=eq_true q13;have HX42:=Z_ (show Kd.R k114 114 w41 w0.heap.size (fun k_ => (P0_ k_ ∨ w.heap.size ≤ k_)) (.slice (some ⟨go5,0,none⟩) x0_1.length a2) y521 from a0.out);obtain ⟨ce42,hcl42,hM42,hcc42,hfr42⟩:=Kd.R_elem HX42.out z114 (x5_1 : Int) (dA_) (by have h_ : (x5_1 : Int) < ((x0_1.length : Int) : Int):=dA_;first | exact h_ | (have e_:=(Kd.R_reads' a0.out).1;omega) | simpa using h_);obtain rfl:=k114_openM hM42;have HP42:=Kd.R_seg HX42.out (x5_1 : Int) (dA_) (by have h_ : (x5_1 : Int) < ((x0_1.length : Int) : Int):=dA_;first | exact h_ | (have e_:=(Kd.R_reads' a0.out).1;omega) | simpa using h_) (seg:=[.int .i64 (wrap64 ((wrap64 ((wrap64 ((wrap64 ((wrap64 ((wrap64 ((wrap64 ((wrap64 (x1_1 + 1)) + 1)) + 1)) + 1)) + 1)) + 1)) + 1)) + 1))]) (j:=8) hcl42 hcc42 (show 9 ≤ 20 from by decide) (k114_mkM _ _ _ (⟨(rd_T114 y521 x5_1).f0,(rd_T114 y521 x5_1).f1,(rd_T114 y521 x5_1).f2,(rd_T114 y521 x5_1).f3,(rd_T114 y521 x5_1).f4,(rd_T114 y521 x5_1).f5,(rd_T114 y521 x5_1).f6,(rd_T114 y521 x5_1).f7,wrap64 ((wrap64 ((wrap64 ((wrap64 ((wrap64 ((wrap64 ((wrap64 ((wrap64 (x1_1 + 1)) + 1)) + 1)) + 1)) + 1)) + 1)) + 1)) + 1),(rd_T114 y521 x5_1).f9,(rd_T114 y521 x5_1).f10,(⟨(rd_T114 y521 x5_1).f11.f0,(rd_T114 y521 x5_1).f11.f1,(rd_T114 y521 x5_1).f11.f2,(rd_T114 y521 x5_1).f11.f3⟩ : S110),(rd_T114 y521 x5_1).f12,(rd_T114 y521 x5_1).f13,(rd_T114 y521 x5_1).f14,(⟨(rd_T114 y521 x5_1).f15.f0,(rd_T114 y521 x5_1).f15.f1⟩ : S112)⟩ : S114) ) (fun _ hk => hk);have hx42_8:=hcc42 8 _ rfl;(try simp only [show (k114).sz = 20 from rfl,Nat.mul_one,Nat.add_zero] at hx42_8);have hf42_8:=hfr42 8;(try simp only [show (k114).sz = 20 from rfl,Nat.mul_one,Nat.add_zero] at hf42_8);clear hcl42 hcc42 hfr42 hM42) | ((with_reducible refine gate_store (t:=2) (p:=72) rfl ?_);refine store_event (t:=2) (p:=72) (v:=?vo_w43) (w1:=(w41.setCell ⟨go5,(x5_1 : Int).toNat * 20 + 8,none⟩ (.int .i64 (wrap64 ((wrap64 ((wrap64 ((wrap64 ((wrap64 ((wrap64 ((wrap64 ((wrap64 (x1_1 + 1)) + 1)) + 1)) + 1)) + 1)) + 1)) + 1)) + 1))))) ?hg ?ho ?hn ?hr ?_;(case ho => rfl);(case hg => rfl);(case hn => rfl);(case hr => first | (go_simp;done) | (go_simp;rfl));intro w43 hw;have hg : w41.grownBy w43 (some go5):=(by rw [hw];exact HP42.2);have hp_ : Kd.R k114 114 w43 w0.heap.size (fun k_ => (P0_ k_ ∨ w.heap.size ≤ k_)) (.slice (some ⟨go5,0,none⟩) x0_1.length a2) y522:=(by rw [hw,ac.out];exact HP42.1);clear HP42;replace HB:=Z_ ((by rw [hw];exact lS1_ (HB.out) a3.out : Below w0.heap.size w0 w43));replace HK:=Z_ (Kept.of_grown (S:=(fun k_ => P0_ k_)) hg (by repeat (first | (with_reducible first | exact HK.out | apply Kept.alloc | apply Kept.drewN | apply Kept.drew) | exact HK.out)) (fun k_ e_ => (a0.out.1 k_ e_)));replace a0:=Z_ (hp_);clear hg hw hp_;have p14 : 0 ≤ (x5_1 : Int):=dA_;have q14 : (x5_1 : Int) < ((x0_1.length : Int) : Int):=dA_;replace p14:=eq_true p14;replace q14:=eq_true q14;have HX44:=Z_ (show Kd.R k114 114 w43 w0.heap.size (fun k_ => (P0_ k_ ∨ w.heap.size ≤ k_)) (.slice (some ⟨go5,0,none⟩) x0_1.length a2) y522 from a0.out);obtain ⟨ce44,hcl44,hM44,hcc44,hfr44⟩:=Kd.R_elem HX44.out z114 (x5_1 : Int) (dA_) (by have h_ : (x5_1 : Int) < ((x0_1.length : Int) : Int):=dA_;first | exact h_ | (have e_:=(Kd.R_reads' a0.out).1;omega) | simpa using h_);obtain rfl:=k114_openM hM44;have HP44:=Kd.R_seg HX44.out (x5_1 : Int) (dA_) (by have h_ : (x5_1 : Int) < ((x0_1.length : Int) : Int):=dA_;first | exact h_ | (have e_:=(Kd.R_reads' a0.out).1;omega) | simpa using h_) (seg:=[.int .i64 (wrap64 ((wrap64 ((wrap64 ((wrap64 ((wrap64 ((wrap64 ((wrap64 ((wrap64 ((wrap64 (x1_1 + 1)) + 1)) + 1)) + 1)) + 1)) + 1)) + 1)) + 1)) + 1))]) (j:=9) hcl44 hcc44 (show 10 ≤ 20 from by decide) (k114_mkM _ _ _ (⟨(rd_T114 y522 x5_1).f0,(rd_T114 y522 x5_1).f1,(rd_T114 y522 x5_1).f2,(rd_T114 y522 x5_1).f3,(rd_T114 y522 x5_1).f4,(rd_T114 y522 x5_1).f5,(rd_T114 y522 x5_1).f6,(rd_T114 y522 x5_1).f7,(rd_T114 y522 x5_1).f8,wrap64 ((wrap64 ((wrap64 ((wrap64 ((wrap64 ((wrap64 ((wrap64 ((wrap64 ((wrap64 (x1_1 + 1)) + 1)) + 1)) + 1)) + 1)) + 1)) + 1)) + 1)) + 1),(rd_T114 y522 x5_1).f10,(⟨(rd_T114 y522 x5_1).f11.f0,(rd_T114 y522 x5_1).f11.f1,(rd_T114 y522 x5_1).f11.f2,(rd_T114 y522 x5_1).f11.f3⟩ : S110),(rd_T114 y522 x5_1).f12,(rd_T114 y522 x5_1).f13,(rd_T114 y522 x5_1).f14,(⟨(rd_T114 y522 x5_1).f15.f0,(rd_T114 y522 x5_1).f15.f1⟩ : S112)⟩ : S114) ) (fun _ hk => hk);have hx44_9:=hcc44 9 _ rfl;(try simp only [show (k114).sz = 20 from rfl,Nat.mul_one,Nat.add_zero] at hx44_9);have hf44_9:=hfr44 9;(try simp only [show (k114).sz = 20 from rfl,Nat.mul_one,Nat.add_zero] at hf44_9);clear hcl44 hcc44 hfr44 hM44) | ((with_reducible refine gate_store (t:=2) (p:=79) rfl ?_);refine store_event (t:=2) (p:=79) (v:=?vo_w45) (w1:=(w43.setCell ⟨go5,(x5_1 : Int).toNat * 20 + 9,none⟩ (.int .i64 (wrap64 ((wrap64 ((wrap64 ((wrap64 ((wrap64 ((wrap64 ((wrap64 ((wrap64 ((wrap64 (x1_1 + 1)) + 1)) + 1)) + 1)) + 1)) + 1)) + 1)) + 1)) + 1))))) ?hg ?ho ?hn ?hr ?_;(case ho => rfl);(case hg => rfl);(case hn => rfl);(case hr => first | (go_simp;done) | (go_simp;rfl));intro w45 hw;have hg : w43.grownBy w45 (some go5):=(by rw [hw];exact HP44.2);have hp_ : Kd.R k114 114 w45 w0.heap.size (fun k_ => (P0_ k_ ∨ w.heap.size ≤ k_)) (.slice (some ⟨go5,0,none⟩) x0_1.length a2) y523:=(by rw [hw,ad.out];exact HP44.1);clear HP44;replace HB:=Z_ ((by rw [hw];exact lS1_ (HB.out) a3.out : Below w0.heap.size w0 w45));replace HK:=Z_ (Kept.of_grown (S:=(fun k_ => P0_ k_)) hg (by repeat (first | (with_reducible first | exact HK.out | apply Kept.alloc | apply Kept.drewN | apply Kept.drew) | exact HK.out)) (fun k_ e_ => (a0.out.1 k_ e_)));replace a0:=Z_ (hp_);clear hg hw hp_;have p15 : 0 ≤ (x5_1 : Int):=dA_;have q15 : (x5_1 : Int) < ((x0_1.length : Int) : Int):=dA_;replace p15:=eq_true p15;replace q15:=eq_true q15;have HX46:=Z_ (show Kd.R k114 114 w45 w0.heap.size (fun k_ => (P0_ k_ ∨ w.heap.size ≤ k_)) (.slice (some ⟨go5,0,none⟩) x0_1.length a2) y523 from a0.out);obtain ⟨ce46,hcl46,hM46,hcc46,hfr46⟩:=Kd.R_elem HX46.out z114 (x5_1 : Int) (dA_) (by have h_ : (x5_1 : Int) < ((x0_1.length : Int) : Int):=dA_;first | exact h_ | (have e_:=(Kd.R_reads' a0.out).1;omega) | simpa using h_);obtain rfl:=k114_openM hM46;have HP46:=Kd.R_seg HX46.out (x5_1 : Int) (dA_) (by have h_ : (x5_1 : Int) < ((x0_1.length : Int) : Int):=dA_;first | exact h_ | (have e_:=(Kd.R_reads' a0.out).1;omega) | simpa using h_) (seg:=[.int .i64 (wrap64 ((wrap64 ((wrap64 ((wrap64 ((wrap64 ((wrap64 ((wrap64 ((wrap64 ((wrap64 ((wrap64 (x1_1 + 1)) + 1)) + 1)) + 1)) + 1)) + 1)) + 1)) + 1)) + 1)) + 1))]) (j:=10) hcl46 hcc46 (show 11 ≤ 20 from by decide) (k114_mkM _ _ _ (⟨(rd_T114 y523 x5_1).f0,(rd_T114 y523 x5_1).f1,(rd_T114 y523 x5_1).f2,(rd_T114 y523 x5_1).f3,(rd_T114 y523 x5_1).f4,(rd_T114 y523 x5_1).f5,(rd_T114 y523 x5_1).f6,(rd_T114 y523 x5_1).f7,(rd_T114 y523 x5_1).f8,(rd_T114 y523 x5_1).f9,wrap64 ((wrap64 ((wrap64 ((wrap64 ((wrap64 ((wrap64 ((wrap64 ((wrap64 ((wrap64 ((wrap64 (x1_1 + 1)) + 1)) + 1)) + 1)) + 1)) + 1)) + 1)) + 1)) + 1)) + 1),(⟨(rd_T114 y523 x5_1).f11.f0,(rd_T114 y523 x5_1).f11.f1,(rd_T114 y523 x5_1).f11.f2,(rd_T114 y523 x5_1).f11.f3⟩ : S110),(rd_T114 y523 x5_1).f12,(rd_T114 y523 x5_1).f13,(rd_T114 y523 x5_1).f14,(⟨(rd_T114 y523 x5_1).f15.f0,(rd_T114 y523 x5_1).f15.f1⟩ : S112)⟩ : S114) ) (fun _ hk => hk);have hx46_10:=hcc46 10 _ rfl;(try simp only [show (k114).sz = 20 from rfl,Nat.mul_one,Nat.add_zero] at hx46_10);have hf46_10:=hfr46 10;(try simp only [show (k114).sz = 20 from rfl,Nat.mul_one,Nat.add_zero] at hf46_10);clear hcl46 hcc46 hfr46 hM46) | ((with_reducible refine gate_store (t:=2) (p:=86) rfl ?_);refine store_event (t:=2) (p:=86) (v:=?vo_w47) (w1:=(w45.setCell ⟨go5,(x5_1 : Int).toNat * 20 + 10,none⟩ (.int .i64 (wrap64 ((wrap64 ((wrap64 ((wrap64 ((wrap64 ((wrap64 ((wrap64 ((wrap64 ((wrap64 ((wrap64 (x1_1 + 1)) + 1)) + 1)) + 1)) + 1)) + 1)) + 1)) + 1)) + 1)) + 1))))) ?hg ?ho ?hn ?hr ?_;(case ho => rfl);(case hg => rfl);(case hn => rfl);(case hr => first | (go_simp;done) | (go_simp;rfl));intro w47 hw;have hg : w45.grownBy w47 (some go5):=(by rw [hw];exact HP46.2);have hp_ : Kd.R k114 114 w47 w0.heap.size (fun k_ => (P0_ k_ ∨ w.heap.size ≤ k_)) (.slice (some ⟨go5,0,none⟩) x0_1.length a2) y524:=(by rw [hw,ae.out];exact HP46.1);clear HP46;replace HB:=Z_ ((by rw [hw];exact lS1_ (HB.out) a3.out : Below w0.heap.size w0 w47));replace HK:=Z_ (Kept.of_grown (S:=(fun k_ => P0_ k_)) hg (by repeat (first | (with_reducible first | exact HK.out | apply Kept.alloc | apply Kept.drewN | apply Kept.drew) | exact HK.out)) (fun k_ e_ => (a0.out.1 k_ e_)));replace a0:=Z_ (hp_);clear hg hw hp_;have p16 : 0 ≤ (x5_1 : Int):=dA_;have q16 : (x5_1 : Int) < ((x0_1.length : Int) : Int):=dA_;replace p16:=eq_true p16;replace q16:=eq_true q16;have HX48:=Z_ (show Kd.R k114 114 w47 w0.heap.size (fun k_ => (P0_ k_ ∨ w.heap.size ≤ k_)) (.slice (some ⟨go5,0,none⟩) x0_1.length a2) y524 from a0.out);obtain ⟨ce48,hcl48,hM48,hcc48,hfr48⟩:=Kd.R_elem HX48.out z114 (x5_1 : Int) (dA_) (by have h_ : (x5_1 : Int) < ((x0_1.length : Int) : Int):=dA_;first | exact h_ | (have e_:=(Kd.R_reads' a0.out).1;omega) | simpa using h_);obtain rfl:=k114_openM hM48;have HP48:=Kd.R_seg HX48.out (x5_1 : Int) (dA_) (by have h_ : (x5_1 : Int) < ((x0_1.length : Int) : Int):=dA_;first | exact h_ | (have e_:=(Kd.R_reads' a0.out).1;omega) | simpa using h_) (seg:=[.int .i64 (wrap64 ((wrap64 ((wrap64 ((wrap64 ((wrap64 ((wrap64 ((wrap64 ((wrap64 ((wrap64 ((wrap64 ((wrap64 (x1_1 + 1)) + 1)) + 1)) + 1)) + 1)) + 1)) + 1)) + 1)) + 1)) + 1)) + 1))]) (j:=11) hcl48 hcc48 (show 12 ≤ 20 from by decide) (k114_mkM _ _ _ (⟨(rd_T114 y524 x5_1).f0,(rd_T114 y524 x5_1).f1,(rd_T114 y524 x5_1).f2,(rd_T114 y524 x5_1).f3,(rd_T114 y524 x5_1).f4,(rd_T114 y524 x5_1).f5,(rd_T114 y524 x5_1).f6,(rd_T114 y524 x5_1).f7,(rd_T114 y524 x5_1).f8,(rd_T114 y524 x5_1).f9,(rd_T114 y524 x5_1).f10,(⟨wrap64 ((wrap64 ((wrap64 ((wrap64 ((wrap64 ((wrap64 ((wrap64 ((wrap64 ((wrap64 ((wrap64 ((wrap64 (x1_1 + 1)) + 1)) + 1)) + 1)) + 1)) + 1)) + 1)) + 1)) + 1)) + 1)) + 1),(rd_T114 y524 x5_1).f11.f1,(rd_T114 y524 x5_1).f11.f2,(rd_T114 y524 x5_1).f11.f3⟩ : S110),(rd_T114 y524 x5_1).f12,(rd_T114 y524 x5_1).f13,(rd_T114 y524 x5_1).f14,(⟨(rd_T114 y524 x5_1).f15.f0,(rd_T114 y524 x5_1).f15.f1⟩ : S112)⟩ : S114) ) (fun _ hk => hk);have hx48_11:=hcc48 11 _ rfl;(try simp only [show (k114).sz = 20 from rfl,Nat.mul_one,Nat.add_zero] at hx48_11);have hf48_11:=hfr48 11;(try simp only [show (k114).sz = 20 from rfl,Nat.mul_one,Nat.add_zero] at hf48_11);clear hcl48 hcc48 hfr48 hM48) | ((with_reducible refine gate_store (t:=2) (p:=94) rfl ?_);refine store_event (t:=2) (p:=94) (v:=?vo_w49) (w1:=(w47.setCell ⟨go5,(x5_1 : Int).toNat * 20 + 11,none⟩ (.int .i64 (wrap64 ((wrap64 ((wrap64 ((wrap64 ((wrap64 ((wrap64 ((wrap64 ((wrap64 ((wrap64 ((wrap64 ((wrap64 (x1_1 + 1)) + 1)) + 1)) + 1)) + 1)) + 1)) + 1)) + 1)) + 1)) + 1)) + 1))))) ?hg ?ho ?hn ?hr ?_;(case ho => rfl);(case hg => rfl);(case hn => rfl);(case hr => first | (go_simp;done) | (go_simp;rfl));intro w49 hw;have hg : w47.grownBy w49 (some go5):=(by rw [hw];exact HP48.2);have hp_ : Kd.R k114 114 w49 w0.heap.size (fun k_ => (P0_ k_ ∨ w.heap.size ≤ k_)) (.slice (some ⟨go5,0,none⟩) x0_1.length a2) y525:=(by rw [hw,af.out];exact HP48.1);clear HP48;replace HB:=Z_ ((by rw [hw];exact lS1_ (HB.out) a3.out : Below w0.heap.size w0 w49));replace HK:=Z_ (Kept.of_grown (S:=(fun k_ => P0_ k_)) hg (by repeat (first | (with_reducible first | exact HK.out | apply Kept.alloc | apply Kept.drewN | apply Kept.drew) | exact HK.out)) (fun k_ e_ => (a0.out.1 k_ e_)));replace a0:=Z_ (hp_);clear hg hw hp_;have p17 : 0 ≤ (x5_1 : Int):=dA_;have q17 : (x5_1 : Int) < ((x0_1.length : Int) : Int):=dA_;replace p17:=eq_true p17;replace q17:=eq_true q17;have HX50:=Z_ (show Kd.R k114 114 w49 w0.heap.size (fun k_ => (P0_ k_ ∨ w.heap.size ≤ k_)) (.slice (some ⟨go5,0,none⟩) x0_1.length a2) y525 from a0.out);obtain ⟨ce50,hcl50,hM50,hcc50,hfr50⟩:=Kd.R_elem HX50.out z114 (x5_1 : Int) (dA_) (by have h_ : (x5_1 : Int) < ((x0_1.length : Int) : Int):=dA_;first | exact h_ | (have e_:=(Kd.R_reads' a0.out).1;omega) | simpa using h_);obtain rfl:=k114_openM hM50;have HP50:=Kd.R_seg HX50.out (x5_1 : Int) (dA_) (by have h_ : (x5_1 : Int) < ((x0_1.length : Int) : Int):=dA_;first | exact h_ | (have e_:=(Kd.R_reads' a0.out).1;omega) | simpa using h_) (seg:=[.int .i64 (wrap64 ((wrap64 ((wrap64 ((wrap64 ((wrap64 ((wrap64 ((wrap64 ((wrap64 ((wrap64 ((wrap64 ((wrap64 ((wrap64 (x1_1 + 1)) + 1)) + 1)) + 1)) + 1)) + 1)) + 1)) + 1)) + 1)) + 1)) + 1)) + 1))]) (j:=12) hcl50 hcc50 (show 13 ≤ 20 from by decide) (k114_mkM _ _ _ (⟨(rd_T114 y525 x5_1).f0,(rd_T114 y525 x5_1).f1,(rd_T114 y525 x5_1).f2,(rd_T114 y525 x5_1).f3,(rd_T114 y525 x5_1).f4,(rd_T114 y525 x5_1).f5,(rd_T114 y525 x5_1).f6,(rd_T114 y525 x5_1).f7,(rd_T114 y525 x5_1).f8,(rd_T114 y525 x5_1).f9,(rd_T114 y525 x5_1).f10,(⟨(rd_T114 y525 x5_1).f11.f0,wrap64 ((wrap64 ((wrap64 ((wrap64 ((wrap64 ((wrap64 ((wrap64 ((wrap64 ((wrap64 ((wrap64 ((wrap64 ((wrap64 (x1_1 + 1)) + 1)) + 1)) + 1)) + 1)) + 1)) + 1)) + 1)) + 1)) + 1)) + 1)) + 1),(rd_T114 y525 x5_1).f11.f2,(rd_T114 y525 x5_1).f11.f3⟩ : S110),(rd_T114 y525 x5_1).f12,(rd_T114 y525 x5_1).f13,(rd_T114 y525 x5_1).f14,(⟨(rd_T114 y525 x5_1).f15.f0,(rd_T114 y525 x5_1).f15.f1⟩ : S112)⟩ : S114) ) (fun _ hk => hk);have hx50_12:=hcc50 12 _ rfl;(try simp only [show (k114).sz = 20 from rfl,Nat.mul_one,Nat.add_zero] at hx50_12);have hf50_12:=hfr50 12;(try simp only [show (k114).sz = 20 from rfl,Nat.mul_one,Nat.add_zero] at hf50_12);clear hcl50 hcc50 hfr50 hM50) | ((with_reducible refine gate_store (t:=2) (p:=102) rfl ?_);refine store_event (t:=2) (p:=102) (v:=?vo_w51) (w1:=(w49.setCell ⟨go5,(x5_1 : Int).toNat * 20 + 12,none⟩ (.int .i64 (wrap64 ((wrap64 ((wrap64 ((wrap64 ((wrap64 ((wrap64 ((wrap64 ((wrap64 ((wrap64 ((wrap64 ((wrap64 ((wrap64 (x1_1 + 1)) + 1)) + 1)) + 1)) + 1)) + 1)) + 1)) + 1)) + 1)) + 1)) + 1)) + 1))))) ?hg ?ho ?hn ?hr ?_;(case ho => rfl);(case hg => rfl);(case hn => rfl);(case hr => first | (go_simp;done) | (go_simp;rfl));intro w51 hw;have hg : w49.grownBy w51 (some go5):=(by rw [hw];exact HP50.2);have hp_ : Kd.R k114 114 w51 w0.heap.size (fun k_ => (P0_ k_ ∨ w.heap.size ≤ k_)) (.slice (some ⟨go5,0,none⟩) x0_1.length a2) y526:=(by rw [hw,ag.out];exact HP50.1);clear HP50;replace HB:=Z_ ((by rw [hw];exact lS1_ (HB.out) a3.out : Below w0.heap.size w0 w51));replace HK:=Z_ (Kept.of_grown (S:=(fun k_ => P0_ k_)) hg (by repeat (first | (with_reducible first | exact HK.out | apply Kept.alloc | apply Kept.drewN | apply Kept.drew) | exact HK.out)) (fun k_ e_ => (a0.out.1 k_ e_)));replace a0:=Z_ (hp_);clear hg hw hp_;have p18 : 0 ≤ (x5_1 : Int):=dA_;have q18 : (x5_1 : Int) < ((x0_1.length : Int) : Int):=dA_;replace p18:=eq_true p18;replace q18:=eq_true q18;have HX52:=Z_ (show Kd.R k114 114 w51 w0.heap.size (fun k_ => (P0_ k_ ∨ w.heap.size ≤ k_)) (.slice (some ⟨go5,0,none⟩) x0_1.length a2) y526 from a0.out);obtain ⟨ce52,hcl52,hM52,hcc52,hfr52⟩:=Kd.R_elem HX52.out z114 (x5_1 : Int) (dA_) (by have h_ : (x5_1 : Int) < ((x0_1.length : Int) : Int):=dA_;first | exact h_ | (have e_:=(Kd.R_reads' a0.out).1;omega) | simpa using h_);obtain rfl:=k114_openM hM52;have HP52:=Kd.R_seg HX52.out (x5_1 : Int) (dA_) (by have h_ : (x5_1 : Int) < ((x0_1.length : Int) : Int):=dA_;first | exact h_ | (have e_:=(Kd.R_reads' a0.out).1;omega) | simpa using h_) (seg:=[.int .i64 (wrap64 ((wrap64 ((wrap64 ((wrap64 ((wrap64 ((wrap64 ((wrap64 ((wrap64 ((wrap64 ((wrap64 ((wrap64 ((wrap64 ((wrap64 (x1_1 + 1)) + 1)) + 1)) + 1)) + 1)) + 1)) + 1)) + 1)) + 1)) + 1)) + 1)) + 1)) + 1))]) (j:=13) hcl52 hcc52 (show 14 ≤ 20 from by decide) (k114_mkM _ _ _ (⟨(rd_T114 y526 x5_1).f0,(rd_T114 y526 x5_1).f1,(rd_T114 y526 x5_1).f2,(rd_T114 y526 x5_1).f3,(rd_T114 y526 x5_1).f4,(rd_T114 y526 x5_1).f5,(rd_T114 y526 x5_1).f6,(rd_T114 y526 x5_1).f7,(rd_T114 y526 x5_1).f8,(rd_T114 y526 x5_1).f9,(rd_T114 y526 x5_1).f10,(⟨(rd_T114 y526 x5_1).f11.f0,(rd_T114 y526 x5_1).f11.f1,wrap64 ((wrap64 ((wrap64 ((wrap64 ((wrap64 ((wrap64 ((wrap64 ((wrap64 ((wrap64 ((wrap64 ((wrap64 ((wrap64 ((wrap64 (x1_1 + 1)) + 1)) + 1)) + 1)) + 1)) + 1)) + 1)) + 1)) + 1)) + 1)) + 1)) + 1)) + 1),(rd_T114 y526 x5_1).f11.f3⟩ : S110),(rd_T114 y526 x5_1).f12,(rd_T114 y526 x5_1).f13,(rd_T114 y526 x5_1).f14,(⟨(rd_T114 y526 x5_1).f15.f0,(rd_T114 y526 x5_1).f15.f1⟩ : S112)⟩ : S114) ) (fun _ hk => hk);have hx52_13:=hcc52 13 _ rfl;(try simp only [show (k114).sz = 20 from rfl,Nat.mul_one,Nat.add_zero] at hx52_13);have hf52_13:=hfr52 13;(try simp only [show (k114).sz = 20 from rfl,Nat.mul_one,Nat.add_zero] at hf52_13);clear hcl52 hcc52 hfr52 hM52) | ((with_reducible refine gate_store (t:=2) (p:=110) rfl ?_);refine store_event (t:=2) (p:=110) (v:=?vo_w53) (w1:=(w51.setCell ⟨go5,(x5_1 : Int).toNat * 20 + 13,none⟩ (.int .i64 (wrap64 ((wrap64 ((wrap64 ((wrap64 ((wrap64 ((wrap64 ((wrap64 ((wrap64 ((wrap64 ((wrap64 ((wrap64 ((wrap64 ((wrap64 (x1_1 + 1)) + 1)) + 1)) + 1)) + 1)) + 1)) + 1)) + 1)) + 1)) + 1)) + 1)) + 1)) + 1))))) ?hg ?ho ?hn ?hr ?_;(case ho => rfl);(case hg => rfl);(case hn => rfl);(case hr => first | (go_simp;done) | (go_simp;rfl));intro w53 hw;have hg : w51.grownBy w53 (some go5):=(by rw [hw];exact HP52.2);have hp_ : Kd.R k114 114 w53 w0.heap.size (fun k_ => (P0_ k_ ∨ w.heap.size ≤ k_)) (.slice (some ⟨go5,0,none⟩) x0_1.length a2) y527:=(by rw [hw,ah.out];exact HP52.1);clear HP52;replace HB:=Z_ ((by rw [hw];exact lS1_ (HB.out) a3.out : Below w0.heap.size w0 w53));replace HK:=Z_ (Kept.of_grown (S:=(fun k_ => P0_ k_)) hg (by repeat (first | (with_reducible first | exact HK.out | apply Kept.alloc | apply Kept.drewN | apply Kept.drew) | exact HK.out)) (fun k_ e_ => (a0.out.1 k_ e_)));replace a0:=Z_ (hp_);clear hg hw hp_;have p19 : 0 ≤ (x5_1 : Int):=dA_;have q19 : (x5_1 : Int) < ((x0_1.length : Int) : Int):=dA_;replace p19:=eq_true p19;replace q19:=eq_true q19;have HX54:=Z_ (show Kd.R k114 114 w53 w0.heap.size (fun k_ => (P0_ k_ ∨ w.heap.size ≤ k_)) (.slice (some ⟨go5,0,none⟩) x0_1.length a2) y527 from a0.out);obtain ⟨ce54,hcl54,hM54,hcc54,hfr54⟩:=Kd.R_elem HX54.out z114 (x5_1 : Int) (dA_) (by have h_ : (x5_1 : Int) < ((x0_1.length : Int) : Int):=dA_;first | exact h_ | (have e_:=(Kd.R_reads' a0.out).1;omega) | simpa using h_);obtain rfl:=k114_openM hM54;have HP54:=Kd.R_seg HX54.out (x5_1 : Int) (dA_) (by have h_ : (x5_1 : Int) < ((x0_1.length : Int) : Int):=dA_;first | exact h_ | (have e_:=(Kd.R_reads' a0.out).1;omega) | simpa using h_) (seg:=[.int .i64 (wrap64 ((wrap64 ((wrap64 ((wrap64 ((wrap64 ((wrap64 ((wrap64 ((wrap64 ((wrap64 ((wrap64 ((wrap64 ((wrap64 ((wrap64 ((wrap64 (x1_1 + 1)) + 1)) + 1)) + 1)) + 1)) + 1)) + 1)) + 1)) + 1)) + 1)) + 1)) + 1)) + 1)) + 1))]) (j:=14) hcl54 hcc54 (show 15 ≤ 20 from by decide) (k114_mkM _ _ _ (⟨(rd_T114 y527 x5_1).f0,(rd_T114 y527 x5_1).f1,(rd_T114 y527 x5_1).f2,(rd_T114 y527 x5_1).f3,(rd_T114 y527 x5_1).f4,(rd_T114 y527 x5_1).f5,(rd_T114 y527 x5_1).f6,(rd_T114 y527 x5_1).f7,(rd_T114 y527 x5_1).f8,(rd_T114 y527 x5_1).f9,(rd_T114 y527 x5_1).f10,(⟨(rd_T114 y527 x5_1).f11.f0,(rd_T114 y527 x5_1).f11.f1,(rd_T114 y527 x5_1).f11.f2,wrap64 ((wrap64 ((wrap64 ((wrap64 ((wrap64 ((wrap64 ((wrap64 ((wrap64 ((wrap64 ((wrap64 ((wrap64 ((wrap64 ((wrap64 ((wrap64 (x1_1 + 1)) + 1)) + 1)) + 1)) + 1)) + 1)) + 1)) + 1)) + 1)) + 1)) + 1)) + 1)) + 1)) + 1)⟩ : S110),(rd_T114 y527 x5_1).f12,(rd_T114 y527 x5_1).f13,(rd_T114 y527 x5_1).f14,(⟨(rd_T114 y527 x5_1).f15.f0,(rd_T114 y527 x5_1).f15.f1⟩ : S112)⟩ : S114) ) (fun _ hk => hk);have hx54_14:=hcc54 14 _ rfl;(try simp only [show (k114).sz = 20 from rfl,Nat.mul_one,Nat.add_zero] at hx54_14);have hf54_14:=hfr54 14;(try simp only [show (k114).sz = 20 from rfl,Nat.mul_one,Nat.add_zero] at hf54_14);clear hcl54 hcc54 hfr54 hM54) | ((with_reducible refine gate_store (t:=2) (p:=118) rfl ?_);refine store_event (t:=2) (p:=118) (v:=?vo_w55) (w1:=(w53.setCell ⟨go5,(x5_1 : Int).toNat * 20 + 14,none⟩ (.int .i64 (wrap64 ((wrap64 ((wrap64 ((wrap64 ((wrap64 ((wrap64 ((wrap64 ((wrap64 ((wrap64 ((wrap64 ((wrap64 ((wrap64 ((wrap64 ((wrap64 (x1_1 + 1)) + 1)) + 1)) + 1)) + 1)) + 1)) + 1)) + 1)) + 1)) + 1)) + 1)) + 1)) + 1)) + 1))))) ?hg ?ho ?hn ?hr ?_;(case ho => rfl);(case hg => rfl);(case hn => rfl);(case hr => first | (go_simp;done) | (go_simp;rfl));intro w55 hw;have hg : w53.grownBy w55 (some go5):=(by rw [hw];exact HP54.2);have hp_ : Kd.R k114 114 w55 w0.heap.size (fun k_ => (P0_ k_ ∨ w.heap.size ≤ k_)) (.slice (some ⟨go5,0,none⟩) x0_1.length a2) y528:=(by rw [hw,ai.out];exact HP54.1);clear HP54;replace HB:=Z_ ((by rw [hw];exact lS1_ (HB.out) a3.out : Below w0.heap.size w0 w55));replace HK:=Z_ (Kept.of_grown (S:=(fun k_ => P0_ k_)) hg (by repeat (first | (with_reducible first | exact HK.out | apply Kept.alloc | apply Kept.drewN | apply Kept.drew) | exact HK.out)) (fun k_ e_ => (a0.out.1 k_ e_)));replace a0:=Z_ (hp_);clear hg hw hp_;have p20 : 0 ≤ (x5_1 : Int):=dA_;have q20 : (x5_1 : Int) < ((x0_1.length : Int) : Int):=dA_;replace p20:=eq_true p20;replace q20:=eq_true q20;have HX56:=Z_ (show Kd.R k114 114 w55 w0.heap.size (fun k_ => (P0_ k_ ∨ w.heap.size ≤ k_)) (.slice (some ⟨go5,0,none⟩) x0_1.length a2) y528 from a0.out);obtain ⟨ce56,hcl56,hM56,hcc56,hfr56⟩:=Kd.R_elem HX56.out z114 (x5_1 : Int) (dA_) (by have h_ : (x5_1 : Int) < ((x0_1.length : Int) : Int):=dA_;first | exact h_ | (have e_:=(Kd.R_reads' a0.out).1;omega) | simpa using h_);obtain rfl:=k114_openM hM56;have HP56:=Kd.R_seg HX56.out (x5_1 : Int) (dA_) (by have h_ : (x5_1 : Int) < ((x0_1.length : Int) : Int):=dA_;first | exact h_ | (have e_:=(Kd.R_reads' a0.out).1;omega) | simpa using h_) (seg:=[.int .i64 (wrap64 ((wrap64 ((wrap64 ((wrap64 ((wrap64 ((wrap64 ((wrap64 ((wrap64 ((wrap64 ((wrap64 ((wrap64 ((wrap64 ((wrap64 ((wrap64 ((wrap64 (x1_1 + 1)) + 1)) + 1)) + 1)) + 1)) + 1)) + 1)) + 1)) + 1)) + 1)) + 1)) + 1)) + 1)) + 1)) + 1))]) (j:=15) hcl56 hcc56 (show 16 ≤ 20 from by decide) (k114_mkM _ _ _ (⟨(rd_T114 y528 x5_1).f0,(rd_T114 y528 x5_1).f1,(rd_T114 y528 x5_1).f2,(rd_T114 y528 x5_1).f3,(rd_T114 y528 x5_1).f4,(rd_T114 y528 x5_1).f5,(rd_T114 y528 x5_1).f6,(rd_T114 y528 x5_1).f7,(rd_T114 y528 x5_1).f8,(rd_T114 y528 x5_1).f9,(rd_T114 y528 x5_1).f10,(⟨(rd_T114 y528 x5_1).f11.f0,(rd_T114 y528 x5_1).f11.f1,(rd_T114 y528 x5_1).f11.f2,(rd_T114 y528 x5_1).f11.f3⟩ : S110),wrap64 ((wrap64 ((wrap64 ((wrap64 ((wrap64 ((wrap64 ((wrap64 ((wrap64 ((wrap64 ((wrap64 ((wrap64 ((wrap64 ((wrap64 ((wrap64 ((wrap64 (x1_1 + 1)) + 1)) + 1)) + 1)) + 1)) + 1)) + 1)) + 1)) + 1)) + 1)) + 1)) + 1)) + 1)) + 1)) + 1),(rd_T114 y528 x5_1).f13,(rd_T114 y528 x5_1).f14,(⟨(rd_T114 y528 x5_1).f15.f0,(rd_T114 y528 x5_1).f15.f1⟩ : S112)⟩ : S114) ) (fun _ hk => hk);have hx56_15:=hcc56 15 _ rfl;(try simp only [show (k114).sz = 20 from rfl,Nat.mul_one,Nat.add_zero] at hx56_15);have hf56_15:=hfr56 15;(try simp only [show (k114).sz = 20 from rfl,Nat.mul_one,Nat.add_zero] at hf56_15);clear hcl56 hcc56 hfr56 hM56) | ((with_reducible refine gate_store (t:=2) (p:=125) rfl ?_);refine store_event (t:=2) (p:=125) (v:=?vo_w57) (w1:=(w55.setCell ⟨go5,(x5_1 : Int).toNat * 20 + 15,none⟩ (.int .i64 (wrap64 ((wrap64 ((wrap64 ((wrap64 ((wrap64 ((wrap64 ((wrap64 ((wrap64 ((wrap64 ((wrap64 ((wrap64 ((wrap64 ((wrap64 ((wrap64 ((wrap64 (x1_1 + 1)) + 1)) + 1)) + 1)) + 1)) + 1)) + 1)) + 1)) + 1)) + 1)) + 1)) + 1)) + 1)) + 1)) + 1))))) ?hg ?ho ?hn ?hr ?_;(case ho => rfl);(case hg => rfl);(case hn => rfl);(case hr => first | (go_simp;done) | (go_simp;rfl));intro w57 hw;have hg : w55.grownBy w57 (some go5):=(by rw [hw];exact HP56.2);have hp_ : Kd.R k114 114 w57 w0.heap.size (fun k_ => (P0_ k_ ∨ w.heap.size ≤ k_)) (.slice (some ⟨go5,0,none⟩) x0_1.length a2) y529:=(by rw [hw,aj.out];exact HP56.1);clear HP56;replace HB:=Z_ ((by rw [hw];exact lS1_ (HB.out) a3.out : Below w0.heap.size w0 w57));replace HK:=Z_ (Kept.of_grown (S:=(fun k_ => P0_ k_)) hg (by repeat (first | (with_reducible first | exact HK.out | apply Kept.alloc | apply Kept.drewN | apply Kept.drew) | exact HK.out)) (fun k_ e_ => (a0.out.1 k_ e_)));replace a0:=Z_ (hp_);clear hg hw hp_;have p21 : 0 ≤ (x5_1 : Int):=dA_;have q21 : (x5_1 : Int) < ((x0_1.length : Int) : Int):=dA_;replace p21:=eq_true p21;replace q21:=eq_true q21;have HX58:=Z_ (show Kd.R k114 114 w57 w0.heap.size (fun k_ => (P0_ k_ ∨ w.heap.size ≤ k_)) (.slice (some ⟨go5,0,none⟩) x0_1.length a2) y529 from a0.out);obtain ⟨ce58,hcl58,hM58,hcc58,hfr58⟩:=Kd.R_elem HX58.out z114 (x5_1 : Int) (dA_) (by have h_ : (x5_1 : Int) < ((x0_1.length : Int) : Int):=dA_;first | exact h_ | (have e_:=(Kd.R_reads' a0.out).1;omega) | simpa using h_);obtain rfl:=k114_openM hM58;have HP58:=Kd.R_seg HX58.out (x5_1 : Int) (dA_) (by have h_ : (x5_1 : Int) < ((x0_1.length : Int) : Int):=dA_;first | exact h_ | (have e_:=(Kd.R_reads' a0.out).1;omega) | simpa using h_) (seg:=[.int .i64 (wrap64 ((wrap64 ((wrap64 ((wrap64 ((wrap64 ((wrap64 ((wrap64 ((wrap64 ((wrap64 ((wrap64 ((wrap64 ((wrap64 ((wrap64 ((wrap64 ((wrap64 ((wrap64 (x1_1 + 1)) + 1)) + 1)) + 1)) + 1)) + 1)) + 1)) + 1)) + 1)) + 1)) + 1)) + 1)) + 1)) + 1)) + 1)) + 1))]) (j:=16) hcl58 hcc58 (show 17 ≤ 20 from by decide) (k114_mkM _ _ _ (⟨(rd_T114 y529 x5_1).f0,(rd_T114 y529 x5_1).f1,(rd_T114 y529 x5_1).f2,(rd_T114 y529 x5_1).f3,(rd_T114 y529 x5_1).f4,(rd_T114 y529 x5_1).f5,(rd_T114 y529 x5_1).f6,(rd_T114 y529 x5_1).f7,(rd_T114 y529 x5_1).f8,(rd_T114 y529 x5_1).f9,(rd_T114 y529 x5_1).f10,(⟨(rd_T114 y529 x5_1).f11.f0,(rd_T114 y529 x5_1).f11.f1,(rd_T114 y529 x5_1).f11.f2,(rd_T114 y529 x5_1).f11.f3⟩ : S110),(rd_T114 y529 x5_1).f12,wrap64 ((wrap64 ((wrap64 ((wrap64 ((wrap64 ((wrap64 ((wrap64 ((wrap64 ((wrap64 ((wrap64 ((wrap64 ((wrap64 ((wrap64 ((wrap64 ((wrap64 ((wrap64 (x1_1 + 1)) + 1)) + 1)) + 1)) + 1)) + 1)) + 1)) + 1)) + 1)) + 1)) + 1)) + 1)) + 1)) + 1)) + 1)) + 1),(rd_T114 y529 x5_1).f14,(⟨(rd_T114 y529 x5_1).f15.f0,(rd_T114 y529 x5_1).f15.f1⟩ : S112)⟩ : S114) ) (fun _ hk => hk);have hx58_16:=hcc58 16 _ rfl;(try simp only [show (k114).sz = 20 from rfl,Nat.mul_one,Nat.add_zero] at hx58_16);have hf58_16:=hfr58 16;(try simp only [show (k114).sz = 20 from rfl,Nat.mul_one,Nat.add_zero] at hf58_16);clear hcl58 hcc58 hfr58 hM58) | ((with_reducible refine gate_store (t:=2) (p:=132) rfl ?_);refine store_event (t:=2) (p:=132) (v:=?vo_w59) (w1:=(w57.setCell ⟨go5,(x5_1 : Int).toNat * 20 + 16,none⟩ (.int .i64 (wrap64 ((wrap64 ((wrap64 ((wrap64 ((wrap64 ((wrap64 ((wrap64 ((wrap64 ((wrap64 ((wrap64 ((wrap64 ((wrap64 ((wrap64 ((wrap64 ((wrap64 ((wrap64 (x1_1 + 1)) + 1)) + 1)) + 1)) + 1)) + 1)) + 1)) + 1)) + 1)) + 1)) + 1)) + 1)) + 1)) + 1)) + 1)) + 1))))) ?hg ?ho ?hn ?hr ?_;(case ho => rfl);(case hg => rfl);(case hn => rfl);(case hr => first | (go_simp;done) | (go_simp;rfl));intro w59 hw;have hg : w57.grownBy w59 (some go5):=(by rw [hw];exact HP58.2);have hp_ : Kd.R k114 114 w59 w0.heap.size (fun k_ => (P0_ k_ ∨ w.heap.size ≤ k_)) (.slice (some ⟨go5,0,none⟩) x0_1.length a2) y530:=(by rw [hw,ak.out];exact HP58.1);clear HP58;replace HB:=Z_ ((by rw [hw];exact lS1_ (HB.out) a3.out : Below w0.heap.size w0 w59));replace HK:=Z_ (Kept.of_grown (S:=(fun k_ => P0_ k_)) hg (by repeat (first | (with_reducible first | exact HK.out | apply Kept.alloc | apply Kept.drewN | apply Kept.drew) | exact HK.out)) (fun k_ e_ => (a0.out.1 k_ e_)));replace a0:=Z_ (hp_);clear hg hw hp_;have p22 : 0 ≤ (x5_1 : Int):=dA_;have q22 : (x5_1 : Int) < ((x0_1.length : Int) : Int):=dA_;replace p22:=eq_true p22;replace q22:=eq_true q22;have HX60:=Z_ (show Kd.R k114 114 w59 w0.heap.size (fun k_ => (P0_ k_ ∨ w.heap.size ≤ k_)) (.slice (some ⟨go5,0,none⟩) x0_1.length a2) y530 from a0.out);obtain ⟨ce60,hcl60,hM60,hcc60,hfr60⟩:=Kd.R_elem HX60.out z114 (x5_1 : Int) (dA_) (by have h_ : (x5_1 : Int) < ((x0_1.length : Int) : Int):=dA_;first | exact h_ | (have e_:=(Kd.R_reads' a0.out).1;omega) | simpa using h_);obtain rfl:=k114_openM hM60;have HP60:=Kd.R_seg HX60.out (x5_1 : Int) (dA_) (by have h_ : (x5_1 : Int) < ((x0_1.length : Int) : Int):=dA_;first | exact h_ | (have e_:=(Kd.R_reads' a0.out).1;omega) | simpa using h_) (seg:=[.int .i64 (wrap64 ((wrap64 ((wrap64 ((wrap64 ((wrap64 ((wrap64 ((wrap64 ((wrap64 ((wrap64 ((wrap64 ((wrap64 ((wrap64 ((wrap64 ((wrap64 ((wrap64 ((wrap64 ((wrap64 (x1_1 + 1)) + 1)) + 1)) + 1)) + 1)) + 1)) + 1)) + 1)) + 1)) + 1)) + 1)) + 1)) + 1)) + 1)) + 1)) + 1)) + 1))]) (j:=17) hcl60 hcc60 (show 18 ≤ 20 from by decide) (k114_mkM _ _ _ (⟨(rd_T114 y530 x5_1).f0,(rd_T114 y530 x5_1).f1,(rd_T114 y530 x5_1).f2,(rd_T114 y530 x5_1).f3,(rd_T114 y530 x5_1).f4,(rd_T114 y530 x5_1).f5,(rd_T114 y530 x5_1).f6,(rd_T114 y530 x5_1).f7,(rd_T114 y530 x5_1).f8,(rd_T114 y530 x5_1).f9,(rd_T114 y530 x5_1).f10,(⟨(rd_T114 y530 x5_1).f11.f0,(rd_T114 y530 x5_1).f11.f1,(rd_T114 y530 x5_1).f11.f2,(rd_T114 y530 x5_1).f11.f3⟩ : S110),(rd_T114 y530 x5_1).f12,(rd_T114 y530 x5_1).f13,wrap64 ((wrap64 ((wrap64 ((wrap64 ((wrap64 ((wrap64 ((wrap64 ((wrap64 ((wrap64 ((wrap64 ((wrap64 ((wrap64 ((wrap64 ((wrap64 ((wrap64 ((wrap64 ((wrap64 (x1_1 + 1)) + 1)) + 1)) + 1)) + 1)) + 1)) + 1)) + 1)) + 1)) + 1)) + 1)) + 1)) + 1)) + 1)) + 1)) + 1)) + 1),(⟨(rd_T114 y530 x5_1).f15.f0,(rd_T114 y530 x5_1).f15.f1⟩ : S112)⟩ : S114) ) (fun _ hk => hk);have hx60_17:=hcc60 17 _ rfl;(try simp only [show (k114).sz = 20 from rfl,Nat.mul_one,Nat.add_zero] at hx60_17);have hf60_17:=hfr60 17;(try simp only [show (k114).sz = 20 from rfl,Nat.mul_one,Nat.add_zero] at hf60_17);clear hcl60 hcc60 hfr60 hM60) | ((with_reducible refine gate_store (t:=2) (p:=139) rfl ?_);refine store_event (t:=2) (p:=139) (v:=?vo_w61) (w1:=(w59.setCell ⟨go5,(x5_1 : Int).toNat * 20 + 17,none⟩ (.int .i64 (wrap64 ((wrap64 ((wrap64 ((wrap64 ((wrap64 ((wrap64 ((wrap64 ((wrap64 ((wrap64 ((wrap64 ((wrap64 ((wrap64 ((wrap64 ((wrap64 ((wrap64 ((wrap64 ((wrap64 (x1_1 + 1)) + 1)) + 1)) + 1)) + 1)) + 1)) + 1)) + 1)) + 1)) + 1)) + 1)) + 1)) + 1)) + 1)) + 1)) + 1)) + 1))))) ?hg ?ho ?hn ?hr ?_;(case ho => rfl);(case hg => rfl);(case hn => rfl);(case hr => first | (go_simp;done) | (go_simp;rfl));intro w61 hw;have hg : w59.grownBy w61 (some go5):=(by rw [hw];exact HP60.2);have hp_ : Kd.R k114 114 w61 w0.heap.size (fun k_ => (P0_ k_ ∨ w.heap.size ≤ k_)) (.slice (some ⟨go5,0,none⟩) x0_1.length a2) y531:=(by rw [hw,al.out];exact HP60.1);clear HP60;replace HB:=Z_ ((by rw [hw];exact lS1_ (HB.out) a3.out : Below w0.heap.size w0 w61));replace HK:=Z_ (Kept.of_grown (S:=(fun k_ => P0_ k_)) hg (by repeat (first | (with_reducible first | exact HK.out | apply Kept.alloc | apply Kept.drewN | apply Kept.drew) | exact HK.out)) (fun k_ e_ => (a0.out.1 k_ e_)));replace a0:=Z_ (hp_);clear hg hw hp_;have p23 : 0 ≤ (x5_1 : Int):=dA_;have q23 : (x5_1 : Int) < ((x0_1.length : Int) : Int):=dA_;replace p23:=eq_true p23;replace q23:=eq_true q23;have HX62:=Z_ (show Kd.R k114 114 w61 w0.heap.size (fun k_ => (P0_ k_ ∨ w.heap.size ≤ k_)) (.slice (some ⟨go5,0,none⟩) x0_1.length a2) y531 from a0.out);obtain ⟨ce62,hcl62,hM62,hcc62,hfr62⟩:=Kd.R_elem HX62.out z114 (x5_1 : Int) (dA_) (by have h_ : (x5_1 : Int) < ((x0_1.length : Int) : Int):=dA_;first | exact h_ | (have e_:=(Kd.R_reads' a0.out).1;omega) | simpa using h_);obtain rfl:=k114_openM hM62;have HP62:=Kd.R_seg HX62.out (x5_1 : Int) (dA_) (by have h_ : (x5_1 : Int) < ((x0_1.length : Int) : Int):=dA_;first | exact h_ | (have e_:=(Kd.R_reads' a0.out).1;omega) | simpa using h_) (seg:=[.int .i64 (wrap64 ((wrap64 ((wrap64 ((wrap64 ((wrap64 ((wrap64 ((wrap64 ((wrap64 ((wrap64 ((wrap64 ((wrap64 ((wrap64 ((wrap64 ((wrap64 ((wrap64 ((wrap64 ((wrap64 ((wrap64 (x1_1 + 1)) + 1)) + 1)) + 1)) + 1)) + 1)) + 1)) + 1)) + 1)) + 1)) + 1)) + 1)) + 1)) + 1)) + 1)) + 1)) + 1)) + 1))]) (j:=18) hcl62 hcc62 (show 19 ≤ 20 from by decide) (k114_mkM _ _ _ (⟨(rd_T114 y531 x5_1).f0,(rd_T114 y531 x5_1).f1,(rd_T114 y531 x5_1).f2,(rd_T114 y531 x5_1).f3,(rd_T114 y531 x5_1).f4,(rd_T114 y531 x5_1).f5,(rd_T114 y531 x5_1).f6,(rd_T114 y531 x5_1).f7,(rd_T114 y531 x5_1).f8,(rd_T114 y531 x5_1).f9,(rd_T114 y531 x5_1).f10,(⟨(rd_T114 y531 x5_1).f11.f0,(rd_T114 y531 x5_1).f11.f1,(rd_T114 y531 x5_1).f11.f2,(rd_T114 y531 x5_1).f11.f3⟩ : S110),(rd_T114 y531 x5_1).f12,(rd_T114 y531 x5_1).f13,(rd_T114 y531 x5_1).f14,(⟨wrap64 ((wrap64 ((wrap64 ((wrap64 ((wrap64 ((wrap64 ((wrap64 ((wrap64 ((wrap64 ((wrap64 ((wrap64 ((wrap64 ((wrap64 ((wrap64 ((wrap64 ((wrap64 ((wrap64 ((wrap64 (x1_1 + 1)) + 1)) + 1)) + 1)) + 1)) + 1)) + 1)) + 1)) + 1)) + 1)) + 1)) + 1)) + 1)) + 1)) + 1)) + 1)) + 1)) + 1),(rd_T114 y531 x5_1).f15.f1⟩ : S112)⟩ : S114) ) (fun _ hk => hk);have hx62_18:=hcc62 18 _ rfl;(try simp only [show (k114).sz = 20 from rfl,Nat.mul_one,Nat.add_zero] at hx62_18);have hf62_18:=hfr62 18;(try simp only [show (k114).sz = 20 from rfl,Nat.mul_one,Nat.add_zero] at hf62_18);clear hcl62 hcc62 hfr62 hM62) | ((with_reducible refine gate_store (t:=2) (p:=147) rfl ?_);refine store_event (t:=2) (p:=147) (v:=?vo_w63) (w1:=(w61.setCell ⟨go5,(x5_1 : Int).toNat * 20 + 18,none⟩ (.int .i64 (wrap64 ((wrap64 ((wrap64 ((wrap64 ((wrap64 ((wrap64 ((wrap64 ((wrap64 ((wrap64 ((wrap64 ((wrap64 ((wrap64 ((wrap64 ((wrap64 ((wrap64 ((wrap64 ((wrap64 ((wrap64 (x1_1 + 1)) + 1)) + 1)) + 1)) + 1)) + 1)) + 1)) + 1)) + 1)) + 1)) + 1)) + 1)) + 1)) + 1)) + 1)) + 1)) + 1)) + 1))))) ?hg ?ho ?hn ?hr ?_;(case ho => rfl);(case hg => rfl);(case hn => rfl);(case hr => first | (go_simp;done) | (go_simp;rfl));intro w63 hw;have hg : w61.grownBy w63 (some go5):=(by rw [hw];exact HP62.2);have hp_ : Kd.R k114 114 w63 w0.heap.size (fun k_ => (P0_ k_ ∨ w.heap.size ≤ k_)) (.slice (some ⟨go5,0,none⟩) x0_1.length a2) y532:=(by rw [hw,am.out];exact HP62.1);clear HP62;replace HB:=Z_ ((by rw [hw];exact lS1_ (HB.out) a3.out : Below w0.heap.size w0 w63));replace HK:=Z_ (Kept.of_grown (S:=(fun k_ => P0_ k_)) hg (by repeat (first | (with_reducible first | exact HK.out | apply Kept.alloc | apply Kept.drewN | apply Kept.drew) | exact HK.out)) (fun k_ e_ => (a0.out.1 k_ e_)));replace a0:=Z_ (hp_);clear hg hw hp_;have p24 : 0 ≤ (x5_1 : Int):=dA_;have q24 : (x5_1 : Int) < ((x0_1.length : Int) : Int):=dA_;replace p24:=eq_true p24;replace q24:=eq_true q24;have HX64:=Z_ (show Kd.R k114 114 w63 w0.heap.size (fun k_ => (P0_ k_ ∨ w.heap.size ≤ k_)) (.slice (some ⟨go5,0,none⟩) x0_1.length a2) y532 from a0.out);obtain ⟨ce64,hcl64,hM64,hcc64,hfr64⟩:=Kd.R_elem HX64.out z114 (x5_1 : Int) (dA_) (by have h_ : (x5_1 : Int) < ((x0_1.length : Int) : Int):=dA_;first | exact h_ | (have e_:=(Kd.R_reads' a0.out).1;omega) | simpa using h_);obtain rfl:=k114_openM hM64;have HP64:=Kd.R_seg HX64.out (x5_1 : Int) (dA_) (by have h_ : (x5_1 : Int) < ((x0_1.length : Int) : Int):=dA_;first | exact h_ | (have e_:=(Kd.R_reads' a0.out).1;omega) | simpa using h_) (seg:=[.int .i64 (wrap64 ((wrap64 ((wrap64 ((wrap64 ((wrap64 ((wrap64 ((wrap64 ((wrap64 ((wrap64 ((wrap64 ((wrap64 ((wrap64 ((wrap64 ((wrap64 ((wrap64 ((wrap64 ((wrap64 ((wrap64 ((wrap64 (x1_1 + 1)) + 1)) + 1)) + 1)) + 1)) + 1)) + 1)) + 1)) + 1)) + 1)) + 1)) + 1)) + 1)) + 1)) + 1)) + 1)) + 1)) + 1)) + 1))]) (j:=19) hcl64 hcc64 (show 20 ≤ 20 from by decide) (k114_mkM _ _ _ (⟨(rd_T114 y532 x5_1).f0,(rd_T114 y532 x5_1).f1,(rd_T114 y532 x5_1).f2,(rd_T114 y532 x5_1).f3,(rd_T114 y532 x5_1).f4,(rd_T114 y532 x5_1).f5,(rd_T114 y532 x5_1).f6,(rd_T114 y532 x5_1).f7,(rd_T114 y532 x5_1).f8,(rd_T114 y532 x5_1).f9,(rd_T114 y532 x5_1).f10,(⟨(rd_T114 y532 x5_1).f11.f0,(rd_T114 y532 x5_1).f11.f1,(rd_T114 y532 x5_1).f11.f2,(rd_T114 y532 x5_1).f11.f3⟩ : S110),(rd_T114 y532 x5_1).f12,(rd_T114 y532 x5_1).f13,(rd_T114 y532 x5_1).f14,(⟨(rd_T114 y532 x5_1).f15.f0,wrap64 ((wrap64 ((wrap64 ((wrap64 ((wrap64 ((wrap64 ((wrap64 ((wrap64 ((wrap64 ((wrap64 ((wrap64 ((wrap64 ((wrap64 ((wrap64 ((wrap64 ((wrap64 ((wrap64 ((wrap64 ((wrap64 (x1_1 + 1)) + 1)) + 1)) + 1)) + 1)) + 1)) + 1)) + 1)) + 1)) + 1)) + 1)) + 1)) + 1)) + 1)) + 1)) + 1)) + 1)) + 1)) + 1)⟩ : S112)⟩ : S114) ) (fun _ hk => hk);have hx64_19:=hcc64 19 _ rfl;(try simp only [show (k114).sz = 20 from rfl,Nat.mul_one,Nat.add_zero] at hx64_19);have hf64_19:=hfr64 19;(try simp only [show (k114).sz = 20 from rfl,Nat.mul_one,Nat.add_zero] at hf64_19);clear hcl64 hcc64 hfr64 hM64) | ((with_reducible refine gate_store (t:=2) (p:=155) rfl ?_);refine store_event (t:=2) (p:=155) (v:=?vo_w65) (w1:=(w63.setCell ⟨go5,(x5_1 : Int).toNat * 20 + 19,none⟩ (.int .i64 (wrap64 ((wrap64 ((wrap64 ((wrap64 ((wrap64 ((wrap64 ((wrap64 ((wrap64 ((wrap64 ((wrap64 ((wrap64 ((wrap64 ((wrap64 ((wrap64 ((wrap64 ((wrap64 ((wrap64 ((wrap64 ((wrap64 (x1_1 + 1)) + 1)) + 1)) + 1)) + 1)) + 1)) + 1)) + 1)) + 1)) + 1)) + 1)) + 1)) + 1)) + 1)) + 1)) + 1)) + 1)) + 1)) + 1))))) ?hg ?ho ?hn ?hr ?_;(case ho => rfl);(case hg => rfl);(case hn => rfl);(case hr => first | (go_simp;done) | (go_simp;rfl));intro w65 hw;have hg : w63.grownBy w65 (some go5):=(by rw [hw];exact HP64.2);have hp_ : Kd.R k114 114 w65 w0.heap.size (fun k_ => (P0_ k_ ∨ w.heap.size ≤ k_)) (.slice (some ⟨go5,0,none⟩) x0_1.length a2) y533:=(by rw [hw,an.out];exact HP64.1);clear HP64;replace HB:=Z_ ((by rw [hw];exact lS1_ (HB.out) a3.out : Below w0.heap.size w0 w65));replace HK:=Z_ (Kept.of_grown (S:=(fun k_ => P0_ k_)) hg (by repeat (first | (with_reducible first | exact HK.out | apply Kept.alloc | apply Kept.drewN | apply Kept.drew) | exact HK.out)) (fun k_ e_ => (a0.out.1 k_ e_)));replace a0:=Z_ (hp_);clear hg hw hp_))
   go_roundg k1
   case measure => have:=HK1.out;omega
   case rel => exact ⟨(y533),(wrap64 ((wrap64 ((wrap64 ((wrap64 ((wrap64 ((wrap64 ((wrap64 ((wrap64 ((wrap64 ((wrap64 ((wrap64 ((wrap64 ((wrap64 ((wrap64 ((wrap64 ((wrap64 ((wrap64 ((wrap64 ((wrap64 ((wrap64 (x1_1 + 1)) + 1)) + 1)) + 1)) + 1)) + 1)) + 1)) + 1)) + 1)) + 1)) + 1)) + 1)) + 1)) + 1)) + 1)) + 1)) + 1)) + 1)) + 1)) + 1)),(wrap64 (x5_1 + 1)),Sr_,Sr_,H',⟨by have:=HK1.out;omega⟩,⟨Rk_ a0⟩,⟨by repeat (first | (with_reducible first | exact HK.out | apply Kept.alloc | apply Kept.drewN | apply Kept.drew) | exact HK.out)⟩,⟨Lb_⟩⟩
theorem mg_seg {W W' : World} {base g n cap i o : Nat} {ok oki : Nat → Prop} {xs : List S76} {c : List Value} (h : Kd.H k76 76 W base ok (.slice (some ⟨g,0,none⟩) n cap) xs (i : Int) oki c) (hi : i < n) (j : Nat) (v : Value) (hj : j < 3) (h1 : v.oneCell' = true) (hw : W' = W.setCell ⟨g,o,none⟩ v) (ho : o = i * 3 + j) : Kd.H k76 76 W' base ok (.slice (some ⟨g,0,none⟩) n cap) xs (i : Int) oki (c.take j ++ [v] ++ c.drop (j + 1)) ∧ W.grownBy W' (some g):=by
  have:=Kd.H_seg h (by omega) (by omega) (seg:=[v]) (j:=j) (show j + 1 ≤ 3 by omega) (by simpa using h1)
  rw [hw,ho]
  exact this
theorem mg_at {W : World} {base g n cap i : Nat} {ok oki : Nat → Prop} {xs : List S76} {c : List Value} (h : Kd.H k76 76 W base ok (.slice (some ⟨g,0,none⟩) n cap) xs (i : Int) oki c) (hi : i < n) (j : Nat) (v : Value) (hv : c[j]? = some v) : W.cell? ⟨g,i * 3 + j,none⟩ = some v:=(Kd.H_at h (by omega) (by omega)).1 j v hv
theorem mg_fr {W : World} {base g n cap i : Nat} {ok oki : Nat → Prop} {xs : List S76} {c : List Value} (h : Kd.H k76 76 W base ok (.slice (some ⟨g,0,none⟩) n cap) xs (i : Int) oki c) (hi : i < n) (j : Nat) : W.frozen? ⟨g,i * 3 + j,none⟩ = false:=(Kd.H_at h (by omega) (by omega)).2 j
theorem mg_get (l : List S76) (kk : Nat) (h : kk < l.length) : l.drop kk = rd_T76 l (kk : Int) :: l.drop (kk + 1):=by
  rw [List.drop_eq_getElem_cons h]
  simp [rd_T76,List.getD,List.getElem?_eq_getElem h]
def mgG (k : Nat) : List S76 → Int → Option Int
  | [],a => some a
  | t :: ts,a => (laws_markTalkS.f k t.f2 (wrap64 (wrap64 (a + 1) + 1))).bind fun p => mgG k ts p.1
def laws_markGateS.f (k : Nat) (l0 : List S76) (a1 : Int) : Option Int:=mgG k l0 a1
set_option maxHeartbeats 8000000 in
set_option maxRecDepth 100000 in
theorem laws_markGateS.calls (k : Nat) (P0_ : Nat → Prop) (u : Value) (l0 : List S76) (a1 r1 : Int) (w0 w : World) (hB : Below w0.heap.size w0 w) (ho0 : Kd.S k76 76 w w0.heap.size P0_ u l0) (h : laws_markGateS.f k l0 a1 = some r1) :
    Calls Tryz.prog 37 #[u,.int .i64 a1] w fun e w' => e = .returned (.int .i64 r1) ∧ Below w0.heap.size w0 w' ∧ Kept w w' (fun k_ => P0_ k_):=by
 have hu2:=Tryz.underlying76
 have HS:=Z_ (show Kd.S k76 76 w w0.heap.size (fun k_ => P0_ k_ ∨ w.heap.size ≤ k_) u l0 from Kd.S_mono ho0 (fun k_ hk => .inl hk))
 have HN:=Z_ (show l0.length ≤ 9223372036854775807 from by obtain ⟨_,_,_,_,hc⟩:=Kd.S_reads ho0;exact hc.2.1)
 obtain ⟨A0,c0,eu⟩:=Kd.S_slice ho0
 subst eu
 have HK:=Z_ (Kept.refl w (fun k_ => P0_ k_))
 have HB:=Z_ hB
 have HW0:=Z_ hB.size
 clear hB ho0
 unfold laws_markGateS.f at h
 have H':=Z_ h
 clear h
 go_enter Tryz.func37,Tryz.ntmps37
 go_wp2
 go_loopg [1,5] l0.length (fun gg v1 v5 wr => ∃ (i : Nat) (a : Int) (xs : List S76),i ≤ l0.length ∧ l0.length - i ≤ gg ∧ v1 = .int .i64 a ∧ v5 = .int .i64 i ∧ Aside0 (xs.length = l0.length ∧ xs.drop i = l0.drop i) ∧ Aside0 (Kd.S k76 76 wr w0.heap.size (fun k_ => P0_ k_ ∨ w.heap.size ≤ k_) (.slice A0 l0.length c0) xs) ∧ Aside0 (Kept w wr (fun k_ => P0_ k_)) ∧ Aside0 (Below w0.heap.size w0 wr) ∧ Aside0 (mgG k (l0.drop i) a = some r1))
 case atStart => exact ⟨0,a1,l0,Nat.zero_le _,by omega,rfl,rfl,⟨rfl,rfl⟩,HS,HK,HB,H'⟩
 case round =>
  clear H' HS HB HK
  obtain ⟨i,a,xs,hin,hgg,rfl,rfl,HX,HS,HK,HB,H⟩:=hrel
  by_cases hlt : i < l0.length
  rotate_left
  ·have hltz : ¬ (i : Int) < (l0.length : Int):=by omega
   obtain rfl : i = l0.length:=by omega
   have h:=H.out
   rw [List.drop_length] at h
   obtain rfl:=Option.some.inj h
   clear h H
   go_wp2
   go_ret
   exact ⟨rfl,HB.out,HK.out⟩
  have hltz : (i : Int) < (l0.length : Int):=by omega
  have h:=H.out
  clear H
  rw [← HX.out.2,mg_get xs i (by rw [HX.out.1];exact hlt)] at h
  unfold mgG at h
  obtain ⟨⟨r_,l2_⟩,hm,h⟩:=Option.bind_eq_some_iff.mp h
  obtain ⟨g,cap,eg,hgb,hgl,_⟩:=Kd.S_form HS.out (by rw [HX.out.1];omega)
  rw [HX.out.1] at eg
  injection eg with eg _ eg2
  subst eg
  subst eg2
  obtain ⟨oki,c,hcl,hM,hcc,hcf,hoki,hH⟩:=Kd.S_elem HS.out z76 (i : Int) (by omega) (by omega)
  obtain ⟨v2,rfl,hr2⟩:=k76_openM hM
  change k114.R 114 wr w0.heap.size oki v2 (rd_T76 xs (i : Int)).f2 at hr2
  change laws_markTalkS.f k (rd_T76 xs (i : Int)).f2 _ = _ at hm
  obtain ⟨A2,c2,e2⟩:=Kd.R_slice hr2
  generalize (rd_T76 xs (i : Int)).f2 = l2 at hr2 hm e2
  have pg : P0_ g ∨ w.heap.size ≤ g:=(Kd.S_R HS.out).1 g (by simp [Value.ownBlock])
  have HP:=Z_ pg
  have HGB:=Z_ hgb
  have HO:=Z_ hoki
  have HR:=Z_ hr2
  have HM:=Z_ hm
  have HH:=Z_ hH
  have H:=Z_ h
  clear pg hgb hgl hoki hr2 hm hH h HS hM hcc hcf hcl
  subst e2
  have hwi : IntKind.i64.wrap ((i : Int) + 1) = (i : Int) + 1:=by rw [i64_w,w64k (by omega) (by have:=HN.out;omega)]
  have hc0 : (wr).cell? ⟨g,i * 3,none⟩ = some _:=mg_at HH.out hlt 0 _ rfl;have hf0 : (wr).frozen? ⟨g,i * 3,none⟩ = false:=mg_fr HH.out hlt 0;have hc1 : (wr).cell? ⟨g,i * 3 + 1,none⟩ = some _:=mg_at HH.out hlt 1 _ rfl;have hf1 : (wr).frozen? ⟨g,i * 3 + 1,none⟩ = false:=mg_fr HH.out hlt 1;have hc2 : (wr).cell? ⟨g,i * 3 + 2,none⟩ = some _:=mg_at HH.out hlt 2 _ rfl;have hf2 : (wr).frozen? ⟨g,i * 3 + 2,none⟩ = false:=mg_fr HH.out hlt 2
  go_wp2_with (first | ((with_reducible refine gate_store (t:=2) (p:=16) rfl ?_);refine stH 2 ?_;intro w6 hw;obtain ⟨hh_,hg_⟩:=mg_seg HH.out hlt 0 (.int .i64 a) (by decide) rfl hw (by omega);replace HR:=Z_ (Kd.R_grown HR.out hg_ (fun k hk e => (HO.out k hk).2 (by injection e)));replace HK:=Z_ (Kept.of_grown hg_ HK.out (fun k e => by injection e with e;subst e;exact HP.out));replace HB:=Z_ (show Below w0.heap.size w0 w6 by rw [hw];exact lS1_ HB.out HGB.out);replace HH:=Z_ hh_;clear hh_ hg_ hw hc0 hf0 hc1 hf1 hc2 hf2;have hc0 : (w6).cell? ⟨g,i * 3,none⟩ = some _:=mg_at HH.out hlt 0 _ rfl;have hf0 : (w6).frozen? ⟨g,i * 3,none⟩ = false:=mg_fr HH.out hlt 0;have hc1 : (w6).cell? ⟨g,i * 3 + 1,none⟩ = some _:=mg_at HH.out hlt 1 _ rfl;have hf1 : (w6).frozen? ⟨g,i * 3 + 1,none⟩ = false:=mg_fr HH.out hlt 1;have hc2 : (w6).cell? ⟨g,i * 3 + 2,none⟩ = some _:=mg_at HH.out hlt 2 _ rfl;have hf2 : (w6).frozen? ⟨g,i * 3 + 2,none⟩ = false:=mg_fr HH.out hlt 2) | ((with_reducible refine gate_store (t:=2) (p:=23) rfl ?_);refine stH 2 ?_;intro w6 hw;obtain ⟨hh_,hg_⟩:=mg_seg HH.out hlt 1 (.int .i64 (wrap64 (a + 1))) (by decide) rfl hw (by omega);replace HR:=Z_ (Kd.R_grown HR.out hg_ (fun k hk e => (HO.out k hk).2 (by injection e)));replace HK:=Z_ (Kept.of_grown hg_ HK.out (fun k e => by injection e with e;subst e;exact HP.out));replace HB:=Z_ (show Below w0.heap.size w0 w6 by rw [hw];exact lS1_ HB.out HGB.out);replace HH:=Z_ hh_;clear hh_ hg_ hw hc0 hf0 hc1 hf1 hc2 hf2;have hc0 : (w6).cell? ⟨g,i * 3,none⟩ = some _:=mg_at HH.out hlt 0 _ rfl;have hf0 : (w6).frozen? ⟨g,i * 3,none⟩ = false:=mg_fr HH.out hlt 0;have hc1 : (w6).cell? ⟨g,i * 3 + 1,none⟩ = some _:=mg_at HH.out hlt 1 _ rfl;have hf1 : (w6).frozen? ⟨g,i * 3 + 1,none⟩ = false:=mg_fr HH.out hlt 1;have hc2 : (w6).cell? ⟨g,i * 3 + 2,none⟩ = some _:=mg_at HH.out hlt 2 _ rfl;have hf2 : (w6).frozen? ⟨g,i * 3 + 2,none⟩ = false:=mg_fr HH.out hlt 2) | (go_at_call 72;refine (laws_markTalkS.calls k oki (.slice A2 l2.length c2) l2 _ r_ l2_ w0 _ HB.out HR.out HM.out).mono ?_;rintro e w7 ⟨rfl,hr,hb,hk⟩;replace HH:=Z_ (Kd.H_kept (Kd.H_widen HH.out) hk (fun k ho hn hs => hn (.inl hs)));have HS:=Z_ (Kd.H_back HH.out (x':=⟨a,wrap64 (a + 1),l2_⟩) (k76_mkM _ _ _ ⟨a,wrap64 (a + 1),l2_⟩ hr) (fun k hk2 => hk2.elim .inl (fun h => .inr ⟨.inr (Nat.le_trans HK.out.1 h),h⟩)));replace HK:=Z_ (Kept.then_ HK.out hk (fun k h => (HO.out k h).1));replace HB:=Z_ hb;clear hr hb hk HH HR hc0 hf0 hc1 hf1 hc2 hf2))
  have hx : xs.drop (i + 1) = l0.drop (i + 1):=by rw [← List.drop_drop,← List.drop_drop,HX.out.2]
  go_roundg (l0.length - (i + 1))
  case measure => omega
  case rel => exact ⟨i + 1,r_,xs.set i ⟨a,wrap64 (a + 1),l2_⟩,by omega,by omega,rfl,(by first | rfl | (rw [hwi];push_cast;rfl) | (push_cast;rfl)),⟨by rw [List.length_set];exact HX.out.1,by rw [← hx,List.drop_set_of_lt (by omega)]⟩,⟨by simpa using HS.out⟩,HK,HB,⟨by rw [← hx];exact H.out⟩⟩
def laws_markInt64S.l0 : Nat → List Int → Int → Int → Option (Int × List Int)
 | 0,_,_,_ => none
 | k + 1,x0,x1,x5 => if x5 < (x0.length : Int) then (if 0 ≤ x5 then (laws_markInt64S.l0 k (x0.set (x5 : Int).toNat x1) (wrap64 (x1 + 1)) (wrap64 (x5 + 1))) else (none)) else (some (x1,x0))
def laws_markInt64S.f (k : Nat) (l0 : List Int) (a1 : Int) : Option (Int × List Int):=laws_markInt64S.l0 k l0 a1 0
set_option maxHeartbeats 8000000 in
set_option maxRecDepth 100000 in
theorem laws_markInt64S.calls (k : Nat) (P0_ : Nat → Prop) (u9000_ : Value) (l0 : List Int) (a1 r1 : Int) (r2 : List Int) (w0 w : World) (hB : Below w0.heap.size w0 w) (ho0 : Kd.R (Kd.int .i64) 2 w w0.heap.size P0_ u9000_ l0) (h : laws_markInt64S.f k l0 a1 = some (r1,r2)) :
  Calls Tryz.prog 38 #[u9000_,.int .i64 a1] w fun e w' => e = .returned (.int .i64 r1) ∧ Kd.R (Kd.int .i64) 2 w' w0.heap.size (fun k_ => (P0_ k_ ∨ w.heap.size ≤ k_)) u9000_ r2 ∧ Below w0.heap.size w0 w' ∧ Kept w w' (fun k_ => P0_ k_):=by
 have a4:=Z_ (show Kd.R (Kd.int .i64) 2 w w0.heap.size (fun k_ => (P0_ k_ ∨ w.heap.size ≤ k_)) u9000_ l0 from Kd.R_mono ho0 (fun k_ hk => (.inl hk)))
 have HK:=Z_ (Kept.refl w (fun k_ => P0_ k_))
 have HW0:=Z_ hB.size
 have HB:=Z_ hB
 clear hB
 unfold laws_markInt64S.f at h
 have H:=h
 clear h
 have H':=Z_ H
 clear H
 go_enter Tryz.func38,Tryz.ntmps38
 go_wp2
 go_loopg [1,5] k (fun kq v1 v5 w' => ∃ (x0_1 : List Int) (x1_1 : Int) (x5_1 : Int),v1 = .int .i64 x1_1 ∧ v5 = .int .i64 x5_1 ∧ Aside0 (laws_markInt64S.l0 kq x0_1 x1_1 x5_1 = some (r1,r2)) ∧ Aside0 (kq ≤ k) ∧ Aside0 (Kd.R (Kd.int .i64) 2 w' w0.heap.size (fun k_ => (P0_ k_ ∨ w.heap.size ≤ k_)) u9000_ x0_1) ∧ Aside0 (Kept w w' (fun k_ => P0_ k_)) ∧ Aside0 (Below w0.heap.size w0 w'))
 case atStart => exact ⟨(l0),(a1),(0),Sr_,Sr_,H',⟨Nat.le_refl _⟩,⟨Rk_ a4⟩,⟨by repeat (first | (with_reducible first | exact HK.out | apply Kept.alloc | apply Kept.drewN | apply Kept.drew) | exact HK.out)⟩,⟨Lb_⟩⟩
 case round =>
  clear H'
  try clear p2
  obtain ⟨x0_1,x1_1,x5_1,rfl,rfl,HA,HK1,a0,HK,HB⟩:=hrel
  cases gk with
  | zero => exact absurd HA.out (by simp [laws_markInt64S.l0])
  | succ k1 =>
   have H:=HA.out
   clear HA
   simp only [laws_markInt64S.l0] at H
   replace H:=iD_ H
   obtain ⟨c3b0,H⟩ | ⟨c3b0,H⟩:=H
   rotate_left
   ·simp only [Option.some.injEq,Prod.mk.injEq] at H
    obtain ⟨rfl,rfl⟩:=H
    obtain ⟨a9,aa,eo9⟩:=Kd.R_slice a0.out
    subst eo9
    go_wp2
    go_ret
    exact ⟨Er_,Rk_ a0,Lb_,by repeat (first | (with_reducible first | exact HK.out | apply Kept.alloc | apply Kept.drewN | apply Kept.drew) | exact HK.out)⟩
   rotate_right
   replace H:=iM_ H
   obtain ⟨c4b0,H⟩:=H
   obtain ⟨y534,hy534⟩ : ∃ y_ : List Int,y_ = (x0_1.set (x5_1 : Int).toNat x1_1):=⟨_,rfl⟩
   replace H : (laws_markInt64S.l0 k1 y534 (wrap64 (x1_1 + 1)) (wrap64 (x5_1 + 1))) = some (r1,r2):=by first | (rw [hy534];with_reducible exact H) | (have H2_:=(Option.bind_some _ _).symm.trans H;rw [hy534];with_reducible exact H2_) | (have H2_:=(Option.bind_some _ _).symm.trans H;with_reducible exact H2_) | with_reducible exact H | (rw [hy534];exact H) | exact H
   have a2:=Z_ hy534
   clear hy534
   have H':=Z_ H
   clear H
   obtain ⟨a7,a5,eo6⟩:=Kd.R_slice a0.out
   subst eo6
   have p5 : 0 ≤ (x5_1 : Int):=dA_
   have q5 : (x5_1 : Int) < ((x0_1.length : Int) : Int):=dA_
   obtain ⟨go5,a8,eo5,a3,gl5,cl5,HG5⟩:=Kd.R_form a0.out (by omega)
   (first | cases eo5 | (injection eo5 with ea_ en_ ec_;(first | subst ea_ | (injection ea_ with ea_;subst ea_));subst ec_;clear en_))
   have a6:=Z_ a3
   have GG5:=Z_ HG5
   clear a3 gl5 HG5
   have HMgo5:=Z_ (show (P0_ go5 ∨ w.heap.size ≤ go5) from (a0.out.1 _ rfl))
   obtain ⟨hx5_0,hf5_0⟩:=Kd.R_celln 0 a0.out (x5_1 : Int) p5 q5
   replace p5:=eq_true p5
   replace q5:=eq_true q5
   have HP7:=Kd.R_putg a0.out (x5_1 : Int) x1_1
   go_wp2_with (first | ((with_reducible refine gate_store (t:=2) (p:=15) rfl ?_);refine store_event (t:=2) (p:=15) (v:=?vo_w8) (w1:=(wr.setCell ⟨go5,(x5_1 : Int).toNat,none⟩ (.int .i64 x1_1))) ?hg ?ho ?hn ?hr ?_;(case ho => rfl);(case hg => rfl);(case hn => rfl);(case hr => first | (go_simp;done) | (go_simp;rfl));intro w8 hw;have hg : wr.grownBy w8 (some go5):=(by rw [hw];exact HP7.2);have hp_ : Kd.R (Kd.int .i64) 2 w8 w0.heap.size (fun k_ => (P0_ k_ ∨ w.heap.size ≤ k_)) (.slice (some ⟨go5,0,none⟩) x0_1.length a5) y534:=(by rw [hw,a2.out];exact HP7.1);clear HP7;replace HB:=Z_ ((by rw [hw];exact lS1_ (HB.out) a6.out : Below w0.heap.size w0 w8));replace HK:=Z_ (Kept.of_grown (S:=(fun k_ => P0_ k_)) hg (by repeat (first | (with_reducible first | exact HK.out | apply Kept.alloc | apply Kept.drewN | apply Kept.drew) | exact HK.out)) (fun k_ e_ => (a0.out.1 k_ e_)));replace a0:=Z_ (hp_);clear hg hw hp_))
   go_roundg k1
   case measure => have:=HK1.out;omega
   case rel => exact ⟨(y534),(wrap64 (x1_1 + 1)),(wrap64 (x5_1 + 1)),Sr_,Sr_,H',⟨by have:=HK1.out;omega⟩,⟨Rk_ a0⟩,⟨by repeat (first | (with_reducible first | exact HK.out | apply Kept.alloc | apply Kept.drewN | apply Kept.drew) | exact HK.out)⟩,⟨Lb_⟩⟩
def laws_markGivenS.l0 : Nat → List (S88) → Int → Int → Option (Int × (List (S88)))
 | 0,_,_,_ => none
 | k + 1,x0,x1,x5 => if x5 < (x0.length : Int) then (if 0 ≤ x5 then ((some (x0.set (x5 : Int).toNat (⟨x1,(rd_T88 x0 x5).f1,(rd_T88 x0 x5).f2,(rd_T88 x0 x5).f3⟩ : S88) : List (S88))).bind fun y535 => ((some (y535.set (x5 : Int).toNat (⟨(rd_T88 y535 x5).f0,wrap64 (x1 + 1),(rd_T88 y535 x5).f2,(rd_T88 y535 x5).f3⟩ : S88) : List (S88))).bind fun y536 => ((some (y536.set (x5 : Int).toNat (⟨(rd_T88 y536 x5).f0,(rd_T88 y536 x5).f1,wrap64 ((wrap64 (x1 + 1)) + 1),(rd_T88 y536 x5).f3⟩ : S88) : List (S88))).bind fun y537 => (laws_markGivenS.l0 k (y537.set (x5 : Int).toNat (⟨(rd_T88 y537 x5).f0,(rd_T88 y537 x5).f1,(rd_T88 y537 x5).f2,wrap64 ((wrap64 ((wrap64 (x1 + 1)) + 1)) + 1)⟩ : S88)) (wrap64 ((wrap64 ((wrap64 ((wrap64 (x1 + 1)) + 1)) + 1)) + 1)) (wrap64 (x5 + 1)))))) else (none)) else (some (x1,x0))
def laws_markGivenS.f (k : Nat) (l0 : List (S88)) (a1 : Int) : Option (Int × (List (S88))):=laws_markGivenS.l0 k l0 a1 0
set_option maxHeartbeats 8000000 in
set_option maxRecDepth 100000 in
theorem laws_markGivenS.calls (k : Nat) (P0_ : Nat → Prop) (u9000_ : Value) (l0 : List (S88)) (a1 r1 : Int) (r2 : List (S88)) (w0 w : World) (hB : Below w0.heap.size w0 w) (ho0 : Kd.R k88 88 w w0.heap.size P0_ u9000_ l0) (h : laws_markGivenS.f k l0 a1 = some (r1,r2)) :
  Calls Tryz.prog 39 #[u9000_,.int .i64 a1] w fun e w' => e = .returned (.int .i64 r1) ∧ Kd.R k88 88 w' w0.heap.size (fun k_ => (P0_ k_ ∨ w.heap.size ≤ k_)) u9000_ r2 ∧ Below w0.heap.size w0 w' ∧ Kept w w' (fun k_ => P0_ k_):=by
 have a9:=Z_ (show Kd.R k88 88 w w0.heap.size (fun k_ => (P0_ k_ ∨ w.heap.size ≤ k_)) u9000_ l0 from Kd.R_mono ho0 (fun k_ hk => (.inl hk)))
 have HK:=Z_ (Kept.refl w (fun k_ => P0_ k_))
 have HW0:=Z_ hB.size
 have HB:=Z_ hB
 clear hB
 unfold laws_markGivenS.f at h
 have H:=h
 clear h
 have H':=Z_ H
 clear H
 go_enter Tryz.func39,Tryz.ntmps39
 go_wp2
 go_loopg [1,5] k (fun kq v1 v5 w' => ∃ (x0_1 : List (S88)) (x1_1 : Int) (x5_1 : Int),v1 = .int .i64 x1_1 ∧ v5 = .int .i64 x5_1 ∧ Aside0 (laws_markGivenS.l0 kq x0_1 x1_1 x5_1 = some (r1,r2)) ∧ Aside0 (kq ≤ k) ∧ Aside0 (Kd.R k88 88 w' w0.heap.size (fun k_ => (P0_ k_ ∨ w.heap.size ≤ k_)) u9000_ x0_1) ∧ Aside0 (Kept w w' (fun k_ => P0_ k_)) ∧ Aside0 (Below w0.heap.size w0 w'))
 case atStart => exact ⟨(l0),(a1),(0),Sr_,Sr_,H',⟨Nat.le_refl _⟩,⟨Rk_ a9⟩,⟨by repeat (first | (with_reducible first | exact HK.out | apply Kept.alloc | apply Kept.drewN | apply Kept.drew) | exact HK.out)⟩,⟨Lb_⟩⟩
 case round =>
  clear H'
  try clear p2
  obtain ⟨x0_1,x1_1,x5_1,rfl,rfl,HA,HK1,a0,HK,HB⟩:=hrel
  cases gk with
  | zero => exact absurd HA.out (by simp [laws_markGivenS.l0])
  | succ k1 =>
   have H:=HA.out
   clear HA
   simp only [laws_markGivenS.l0] at H
   replace H:=iD_ H
   obtain ⟨c3b0,H⟩ | ⟨c3b0,H⟩:=H
   rotate_left
   ·simp only [Option.some.injEq,Prod.mk.injEq] at H
    obtain ⟨rfl,rfl⟩:=H
    obtain ⟨aa,ab,eo18⟩:=Kd.R_slice a0.out
    subst eo18
    go_wp2
    go_ret
    exact ⟨Er_,Rk_ a0,Lb_,by repeat (first | (with_reducible first | exact HK.out | apply Kept.alloc | apply Kept.drewN | apply Kept.drew) | exact HK.out)⟩
   rotate_right
   replace H:=iM_ H
   obtain ⟨c4b0,H⟩:=H
   obtain ⟨y535,hy535⟩ : ∃ y_ : List (S88),y_ = (x0_1.set (x5_1 : Int).toNat (⟨x1_1,(rd_T88 x0_1 x5_1).f1,(rd_T88 x0_1 x5_1).f2,(rd_T88 x0_1 x5_1).f3⟩ : S88)):=⟨_,rfl⟩
   replace H : ((some (y535.set (x5_1 : Int).toNat (⟨(rd_T88 y535 x5_1).f0,wrap64 (x1_1 + 1),(rd_T88 y535 x5_1).f2,(rd_T88 y535 x5_1).f3⟩ : S88) : List (S88))).bind fun y536 => ((some (y536.set (x5_1 : Int).toNat (⟨(rd_T88 y536 x5_1).f0,(rd_T88 y536 x5_1).f1,wrap64 ((wrap64 (x1_1 + 1)) + 1),(rd_T88 y536 x5_1).f3⟩ : S88) : List (S88))).bind fun y537 => (laws_markGivenS.l0 k1 (y537.set (x5_1 : Int).toNat (⟨(rd_T88 y537 x5_1).f0,(rd_T88 y537 x5_1).f1,(rd_T88 y537 x5_1).f2,wrap64 ((wrap64 ((wrap64 (x1_1 + 1)) + 1)) + 1)⟩ : S88)) (wrap64 ((wrap64 ((wrap64 ((wrap64 (x1_1 + 1)) + 1)) + 1)) + 1)) (wrap64 (x5_1 + 1))))) = some (r1,r2):=by first | (rw [hy535];with_reducible exact H) | (have H2_:=(Option.bind_some _ _).symm.trans H;rw [hy535];with_reducible exact H2_) | (have H2_:=(Option.bind_some _ _).symm.trans H;with_reducible exact H2_) | with_reducible exact H | (rw [hy535];exact H) | exact H
   have a4:=Z_ hy535
   clear hy535
   obtain ⟨y536,hy536⟩ : ∃ y_ : List (S88),y_ = (y535.set (x5_1 : Int).toNat (⟨(rd_T88 y535 x5_1).f0,wrap64 (x1_1 + 1),(rd_T88 y535 x5_1).f2,(rd_T88 y535 x5_1).f3⟩ : S88)):=⟨_,rfl⟩
   replace H : ((some (y536.set (x5_1 : Int).toNat (⟨(rd_T88 y536 x5_1).f0,(rd_T88 y536 x5_1).f1,wrap64 ((wrap64 (x1_1 + 1)) + 1),(rd_T88 y536 x5_1).f3⟩ : S88) : List (S88))).bind fun y537 => (laws_markGivenS.l0 k1 (y537.set (x5_1 : Int).toNat (⟨(rd_T88 y537 x5_1).f0,(rd_T88 y537 x5_1).f1,(rd_T88 y537 x5_1).f2,wrap64 ((wrap64 ((wrap64 (x1_1 + 1)) + 1)) + 1)⟩ : S88)) (wrap64 ((wrap64 ((wrap64 ((wrap64 (x1_1 + 1)) + 1)) + 1)) + 1)) (wrap64 (x5_1 + 1)))) = some (r1,r2):=by first | (rw [hy536];with_reducible exact H) | (have H2_:=(Option.bind_some _ _).symm.trans H;rw [hy536];with_reducible exact H2_) | (have H2_:=(Option.bind_some _ _).symm.trans H;with_reducible exact H2_) | with_reducible exact H | (rw [hy536];exact H) | exact H
   have a5:=Z_ hy536
   clear hy536
   obtain ⟨y537,hy537⟩ : ∃ y_ : List (S88),y_ = (y536.set (x5_1 : Int).toNat (⟨(rd_T88 y536 x5_1).f0,(rd_T88 y536 x5_1).f1,wrap64 ((wrap64 (x1_1 + 1)) + 1),(rd_T88 y536 x5_1).f3⟩ : S88)):=⟨_,rfl⟩
   replace H : (laws_markGivenS.l0 k1 (y537.set (x5_1 : Int).toNat (⟨(rd_T88 y537 x5_1).f0,(rd_T88 y537 x5_1).f1,(rd_T88 y537 x5_1).f2,wrap64 ((wrap64 ((wrap64 (x1_1 + 1)) + 1)) + 1)⟩ : S88)) (wrap64 ((wrap64 ((wrap64 ((wrap64 (x1_1 + 1)) + 1)) + 1)) + 1)) (wrap64 (x5_1 + 1))) = some (r1,r2):=by first | (rw [hy537];with_reducible exact H) | (have H2_:=(Option.bind_some _ _).symm.trans H;rw [hy537];with_reducible exact H2_) | (have H2_:=(Option.bind_some _ _).symm.trans H;with_reducible exact H2_) | with_reducible exact H | (rw [hy537];exact H) | exact H
   have a6:=Z_ hy537
   clear hy537
   obtain ⟨y538,hy538⟩ : ∃ y_ : List (S88),y_ = (y537.set (x5_1 : Int).toNat (⟨(rd_T88 y537 x5_1).f0,(rd_T88 y537 x5_1).f1,(rd_T88 y537 x5_1).f2,wrap64 ((wrap64 ((wrap64 (x1_1 + 1)) + 1)) + 1)⟩ : S88)):=⟨_,rfl⟩
   replace H : (laws_markGivenS.l0 k1 y538 (wrap64 ((wrap64 ((wrap64 ((wrap64 (x1_1 + 1)) + 1)) + 1)) + 1)) (wrap64 (x5_1 + 1))) = some (r1,r2):=by first | (rw [hy538];with_reducible exact H) | (have H2_:=(Option.bind_some _ _).symm.trans H;rw [hy538];with_reducible exact H2_) | (have H2_:=(Option.bind_some _ _).symm.trans H;with_reducible exact H2_) | with_reducible exact H | (rw [hy538];exact H) | exact H
   have a7:=Z_ hy538
   clear hy538
   have H':=Z_ H
   clear H
   obtain ⟨ac,a2,eo9⟩:=Kd.R_slice a0.out
   subst eo9
   have p5 : 0 ≤ (x5_1 : Int):=dA_
   have q5 : (x5_1 : Int) < ((x0_1.length : Int) : Int):=dA_
   obtain ⟨go5,ad,eo5,a8,gl5,cl5,HG5⟩:=Kd.R_form a0.out (by omega)
   (first | cases eo5 | (injection eo5 with ea_ en_ ec_;(first | subst ea_ | (injection ea_ with ea_;subst ea_));subst ec_;clear en_))
   have a3:=Z_ a8
   have GG5:=Z_ HG5
   clear a8 gl5 HG5
   have HMgo5:=Z_ (show (P0_ go5 ∨ w.heap.size ≤ go5) from (a0.out.1 _ rfl))
   obtain ⟨ce5,hcl5,hM5,hcc5,hfr5⟩:=Kd.R_elem a0.out z88 (x5_1 : Int) p5 q5
   obtain rfl:=k88_openM hM5
   have hx5_0 : wr.cell? ⟨go5,(x5_1 : Int).toNat * 4,none⟩ = some (.int .i64 ((rd_T88 x0_1 x5_1).f0)):=hcc5 0 _ rfl
   have hx5_1 : wr.cell? ⟨go5,(x5_1 : Int).toNat * 4 + 1,none⟩ = some (.int .i64 ((rd_T88 x0_1 x5_1).f1)):=hcc5 1 _ rfl
   have hx5_2 : wr.cell? ⟨go5,(x5_1 : Int).toNat * 4 + 2,none⟩ = some (.int .i64 ((rd_T88 x0_1 x5_1).f2)):=hcc5 2 _ rfl
   have hx5_3 : wr.cell? ⟨go5,(x5_1 : Int).toNat * 4 + 3,none⟩ = some (.int .i64 ((rd_T88 x0_1 x5_1).f3)):=hcc5 3 _ rfl
   have hf5_0 : wr.frozen? ⟨go5,(x5_1 : Int).toNat * 4,none⟩ = false:=hfr5 0
   have hf5_1 : wr.frozen? ⟨go5,(x5_1 : Int).toNat * 4 + 1,none⟩ = false:=hfr5 1
   have hf5_2 : wr.frozen? ⟨go5,(x5_1 : Int).toNat * 4 + 2,none⟩ = false:=hfr5 2
   have hf5_3 : wr.frozen? ⟨go5,(x5_1 : Int).toNat * 4 + 3,none⟩ = false:=hfr5 3
   clear hcl5 hcc5 hfr5 hM5
   replace p5:=eq_true p5
   replace q5:=eq_true q5
   have HX10:=Z_ (show Kd.R k88 88 wr w0.heap.size (fun k_ => (P0_ k_ ∨ w.heap.size ≤ k_)) (.slice (some ⟨go5,0,none⟩) x0_1.length a2) x0_1 from (Rk_ a0))
   obtain ⟨ce10,hcl10,hM10,hcc10,hfr10⟩:=Kd.R_elem HX10.out z88 (x5_1 : Int) (dA_) (by have h_ : (x5_1 : Int) < ((x0_1.length : Int) : Int):=dA_;first | exact h_ | (have e_:=(Kd.R_reads' a0.out).1;omega) | simpa using h_)
   obtain rfl:=k88_openM hM10
   have HP10:=Kd.R_seg HX10.out (x5_1 : Int) (dA_) (by have h_ : (x5_1 : Int) < ((x0_1.length : Int) : Int):=dA_;first | exact h_ | (have e_:=(Kd.R_reads' a0.out).1;omega) | simpa using h_) (seg:=[.int .i64 x1_1]) (j:=0) hcl10 hcc10 (show 1 ≤ 4 from by decide) (x':=(⟨x1_1,(rd_T88 x0_1 x5_1).f1,(rd_T88 x0_1 x5_1).f2,(rd_T88 x0_1 x5_1).f3⟩ : S88)) (k88_mkM _ _ _ (⟨x1_1,(rd_T88 x0_1 x5_1).f1,(rd_T88 x0_1 x5_1).f2,(rd_T88 x0_1 x5_1).f3⟩ : S88) ) (fun _ hk => hk)
   have hx10_0:=hcc10 0 _ rfl
   (try simp only [show (k88).sz = 4 from rfl,Nat.mul_one,Nat.add_zero] at hx10_0)
   have hf10_0:=hfr10 0
   (try simp only [show (k88).sz = 4 from rfl,Nat.mul_one,Nat.add_zero] at hf10_0)
   clear hcl10 hcc10 hfr10 hM10
   go_wp2_with (first | ((with_reducible refine gate_store (t:=2) (p:=16) rfl ?_);refine store_event (t:=2) (p:=16) (v:=?vo_w11) (w1:=(wr.setCell ⟨go5,(x5_1 : Int).toNat * 4,none⟩ (.int .i64 x1_1))) ?hg ?ho ?hn ?hr ?_;(case ho => rfl);(case hg => rfl);(case hn => rfl);(case hr => first | (go_simp;done) | (go_simp;rfl));intro w11 hw;have hg : wr.grownBy w11 (some go5):=(by rw [hw];exact HP10.2);have hp_ : Kd.R k88 88 w11 w0.heap.size (fun k_ => (P0_ k_ ∨ w.heap.size ≤ k_)) (.slice (some ⟨go5,0,none⟩) x0_1.length a2) y535:=(by rw [hw,a4.out];exact HP10.1);clear HP10;replace HB:=Z_ ((by rw [hw];exact lS1_ (HB.out) a3.out : Below w0.heap.size w0 w11));replace HK:=Z_ (Kept.of_grown (S:=(fun k_ => P0_ k_)) hg (by repeat (first | (with_reducible first | exact HK.out | apply Kept.alloc | apply Kept.drewN | apply Kept.drew) | exact HK.out)) (fun k_ e_ => (a0.out.1 k_ e_)));replace a0:=Z_ (hp_);clear hg hw hp_;have p6 : 0 ≤ (x5_1 : Int):=dA_;have q6 : (x5_1 : Int) < ((x0_1.length : Int) : Int):=dA_;obtain ⟨ce6,hcl6,hM6,hcc6,hfr6⟩:=Kd.R_elem a0.out z88 (x5_1 : Int) p6 q6;obtain rfl:=k88_openM hM6;have hx6_0 : w11.cell? ⟨go5,(x5_1 : Int).toNat * 4,none⟩ = some (.int .i64 ((rd_T88 y535 x5_1).f0)):=hcc6 0 _ rfl;have hx6_1 : w11.cell? ⟨go5,(x5_1 : Int).toNat * 4 + 1,none⟩ = some (.int .i64 ((rd_T88 y535 x5_1).f1)):=hcc6 1 _ rfl;have hx6_2 : w11.cell? ⟨go5,(x5_1 : Int).toNat * 4 + 2,none⟩ = some (.int .i64 ((rd_T88 y535 x5_1).f2)):=hcc6 2 _ rfl;have hx6_3 : w11.cell? ⟨go5,(x5_1 : Int).toNat * 4 + 3,none⟩ = some (.int .i64 ((rd_T88 y535 x5_1).f3)):=hcc6 3 _ rfl;have hf6_0 : w11.frozen? ⟨go5,(x5_1 : Int).toNat * 4,none⟩ = false:=hfr6 0;have hf6_1 : w11.frozen? ⟨go5,(x5_1 : Int).toNat * 4 + 1,none⟩ = false:=hfr6 1;have hf6_2 : w11.frozen? ⟨go5,(x5_1 : Int).toNat * 4 + 2,none⟩ = false:=hfr6 2;have hf6_3 : w11.frozen? ⟨go5,(x5_1 : Int).toNat * 4 + 3,none⟩ = false:=hfr6 3;clear hcl6 hcc6 hfr6 hM6;replace p6:=eq_true p6;replace q6:=eq_true q6;have HX12:=Z_ (show Kd.R k88 88 w11 w0.heap.size (fun k_ => (P0_ k_ ∨ w.heap.size ≤ k_)) (.slice (some ⟨go5,0,none⟩) x0_1.length a2) y535 from (Rk_ a0));obtain ⟨ce12,hcl12,hM12,hcc12,hfr12⟩:=Kd.R_elem HX12.out z88 (x5_1 : Int) (dA_) (by have h_ : (x5_1 : Int) < ((x0_1.length : Int) : Int):=dA_;first | exact h_ | (have e_:=(Kd.R_reads' a0.out).1;omega) | simpa using h_);obtain rfl:=k88_openM hM12;have HP12:=Kd.R_seg HX12.out (x5_1 : Int) (dA_) (by have h_ : (x5_1 : Int) < ((x0_1.length : Int) : Int):=dA_;first | exact h_ | (have e_:=(Kd.R_reads' a0.out).1;omega) | simpa using h_) (seg:=[.int .i64 (wrap64 (x1_1 + 1))]) (j:=1) hcl12 hcc12 (show 2 ≤ 4 from by decide) (x':=(⟨(rd_T88 y535 x5_1).f0,wrap64 (x1_1 + 1),(rd_T88 y535 x5_1).f2,(rd_T88 y535 x5_1).f3⟩ : S88)) (k88_mkM _ _ _ (⟨(rd_T88 y535 x5_1).f0,wrap64 (x1_1 + 1),(rd_T88 y535 x5_1).f2,(rd_T88 y535 x5_1).f3⟩ : S88) ) (fun _ hk => hk);have hx12_1:=hcc12 1 _ rfl;(try simp only [show (k88).sz = 4 from rfl,Nat.mul_one,Nat.add_zero] at hx12_1);have hf12_1:=hfr12 1;(try simp only [show (k88).sz = 4 from rfl,Nat.mul_one,Nat.add_zero] at hf12_1);clear hcl12 hcc12 hfr12 hM12) | ((with_reducible refine gate_store (t:=2) (p:=23) rfl ?_);refine store_event (t:=2) (p:=23) (v:=?vo_w13) (w1:=(w11.setCell ⟨go5,(x5_1 : Int).toNat * 4 + 1,none⟩ (.int .i64 (wrap64 (x1_1 + 1))))) ?hg ?ho ?hn ?hr ?_;(case ho => rfl);(case hg => rfl);(case hn => rfl);(case hr => first | (go_simp;done) | (go_simp;rfl));intro w13 hw;have hg : w11.grownBy w13 (some go5):=(by rw [hw];exact HP12.2);have hp_ : Kd.R k88 88 w13 w0.heap.size (fun k_ => (P0_ k_ ∨ w.heap.size ≤ k_)) (.slice (some ⟨go5,0,none⟩) x0_1.length a2) y536:=(by rw [hw,a5.out];exact HP12.1);clear HP12;replace HB:=Z_ ((by rw [hw];exact lS1_ (HB.out) a3.out : Below w0.heap.size w0 w13));replace HK:=Z_ (Kept.of_grown (S:=(fun k_ => P0_ k_)) hg (by repeat (first | (with_reducible first | exact HK.out | apply Kept.alloc | apply Kept.drewN | apply Kept.drew) | exact HK.out)) (fun k_ e_ => (a0.out.1 k_ e_)));replace a0:=Z_ (hp_);clear hg hw hp_;have p7 : 0 ≤ (x5_1 : Int):=dA_;have q7 : (x5_1 : Int) < ((x0_1.length : Int) : Int):=dA_;obtain ⟨ce7,hcl7,hM7,hcc7,hfr7⟩:=Kd.R_elem a0.out z88 (x5_1 : Int) p7 q7;obtain rfl:=k88_openM hM7;have hx7_0 : w13.cell? ⟨go5,(x5_1 : Int).toNat * 4,none⟩ = some (.int .i64 ((rd_T88 y536 x5_1).f0)):=hcc7 0 _ rfl;have hx7_1 : w13.cell? ⟨go5,(x5_1 : Int).toNat * 4 + 1,none⟩ = some (.int .i64 ((rd_T88 y536 x5_1).f1)):=hcc7 1 _ rfl;have hx7_2 : w13.cell? ⟨go5,(x5_1 : Int).toNat * 4 + 2,none⟩ = some (.int .i64 ((rd_T88 y536 x5_1).f2)):=hcc7 2 _ rfl;have hx7_3 : w13.cell? ⟨go5,(x5_1 : Int).toNat * 4 + 3,none⟩ = some (.int .i64 ((rd_T88 y536 x5_1).f3)):=hcc7 3 _ rfl;have hf7_0 : w13.frozen? ⟨go5,(x5_1 : Int).toNat * 4,none⟩ = false:=hfr7 0;have hf7_1 : w13.frozen? ⟨go5,(x5_1 : Int).toNat * 4 + 1,none⟩ = false:=hfr7 1;have hf7_2 : w13.frozen? ⟨go5,(x5_1 : Int).toNat * 4 + 2,none⟩ = false:=hfr7 2;have hf7_3 : w13.frozen? ⟨go5,(x5_1 : Int).toNat * 4 + 3,none⟩ = false:=hfr7 3;clear hcl7 hcc7 hfr7 hM7;replace p7:=eq_true p7;replace q7:=eq_true q7;have HX14:=Z_ (show Kd.R k88 88 w13 w0.heap.size (fun k_ => (P0_ k_ ∨ w.heap.size ≤ k_)) (.slice (some ⟨go5,0,none⟩) x0_1.length a2) y536 from a0.out);obtain ⟨ce14,hcl14,hM14,hcc14,hfr14⟩:=Kd.R_elem HX14.out z88 (x5_1 : Int) (dA_) (by have h_ : (x5_1 : Int) < ((x0_1.length : Int) : Int):=dA_;first | exact h_ | (have e_:=(Kd.R_reads' a0.out).1;omega) | simpa using h_);obtain rfl:=k88_openM hM14;have HP14:=Kd.R_seg HX14.out (x5_1 : Int) (dA_) (by have h_ : (x5_1 : Int) < ((x0_1.length : Int) : Int):=dA_;first | exact h_ | (have e_:=(Kd.R_reads' a0.out).1;omega) | simpa using h_) (seg:=[.int .i64 (wrap64 ((wrap64 (x1_1 + 1)) + 1))]) (j:=2) hcl14 hcc14 (show 3 ≤ 4 from by decide) (x':=(⟨(rd_T88 y536 x5_1).f0,(rd_T88 y536 x5_1).f1,wrap64 ((wrap64 (x1_1 + 1)) + 1),(rd_T88 y536 x5_1).f3⟩ : S88)) (k88_mkM _ _ _ (⟨(rd_T88 y536 x5_1).f0,(rd_T88 y536 x5_1).f1,wrap64 ((wrap64 (x1_1 + 1)) + 1),(rd_T88 y536 x5_1).f3⟩ : S88) ) (fun _ hk => hk);have hx14_2:=hcc14 2 _ rfl;(try simp only [show (k88).sz = 4 from rfl,Nat.mul_one,Nat.add_zero] at hx14_2);have hf14_2:=hfr14 2;(try simp only [show (k88).sz = 4 from rfl,Nat.mul_one,Nat.add_zero] at hf14_2);clear hcl14 hcc14 hfr14 hM14) | ((with_reducible refine gate_store (t:=2) (p:=30) rfl ?_);refine store_event (t:=2) (p:=30) (v:=?vo_w15) (w1:=(w13.setCell ⟨go5,(x5_1 : Int).toNat * 4 + 2,none⟩ (.int .i64 (wrap64 ((wrap64 (x1_1 + 1)) + 1))))) ?hg ?ho ?hn ?hr ?_;(case ho => rfl);(case hg => rfl);(case hn => rfl);(case hr => first | (go_simp;done) | (go_simp;rfl));intro w15 hw;have hg : w13.grownBy w15 (some go5):=(by rw [hw];exact HP14.2);have hp_ : Kd.R k88 88 w15 w0.heap.size (fun k_ => (P0_ k_ ∨ w.heap.size ≤ k_)) (.slice (some ⟨go5,0,none⟩) x0_1.length a2) y537:=(by rw [hw,a6.out];exact HP14.1);clear HP14;replace HB:=Z_ ((by rw [hw];exact lS1_ (HB.out) a3.out : Below w0.heap.size w0 w15));replace HK:=Z_ (Kept.of_grown (S:=(fun k_ => P0_ k_)) hg (by repeat (first | (with_reducible first | exact HK.out | apply Kept.alloc | apply Kept.drewN | apply Kept.drew) | exact HK.out)) (fun k_ e_ => (a0.out.1 k_ e_)));replace a0:=Z_ (hp_);clear hg hw hp_;have p8 : 0 ≤ (x5_1 : Int):=dA_;have q8 : (x5_1 : Int) < ((x0_1.length : Int) : Int):=dA_;obtain ⟨ce8,hcl8,hM8,hcc8,hfr8⟩:=Kd.R_elem a0.out z88 (x5_1 : Int) p8 q8;obtain rfl:=k88_openM hM8;have hx8_0 : w15.cell? ⟨go5,(x5_1 : Int).toNat * 4,none⟩ = some (.int .i64 ((rd_T88 y537 x5_1).f0)):=hcc8 0 _ rfl;have hx8_1 : w15.cell? ⟨go5,(x5_1 : Int).toNat * 4 + 1,none⟩ = some (.int .i64 ((rd_T88 y537 x5_1).f1)):=hcc8 1 _ rfl;have hx8_2 : w15.cell? ⟨go5,(x5_1 : Int).toNat * 4 + 2,none⟩ = some (.int .i64 ((rd_T88 y537 x5_1).f2)):=hcc8 2 _ rfl;have hx8_3 : w15.cell? ⟨go5,(x5_1 : Int).toNat * 4 + 3,none⟩ = some (.int .i64 ((rd_T88 y537 x5_1).f3)):=hcc8 3 _ rfl;have hf8_0 : w15.frozen? ⟨go5,(x5_1 : Int).toNat * 4,none⟩ = false:=hfr8 0;have hf8_1 : w15.frozen? ⟨go5,(x5_1 : Int).toNat * 4 + 1,none⟩ = false:=hfr8 1;have hf8_2 : w15.frozen? ⟨go5,(x5_1 : Int).toNat * 4 + 2,none⟩ = false:=hfr8 2;have hf8_3 : w15.frozen? ⟨go5,(x5_1 : Int).toNat * 4 + 3,none⟩ = false:=hfr8 3;clear hcl8 hcc8 hfr8 hM8;replace p8:=eq_true p8;replace q8:=eq_true q8;have HX16:=Z_ (show Kd.R k88 88 w15 w0.heap.size (fun k_ => (P0_ k_ ∨ w.heap.size ≤ k_)) (.slice (some ⟨go5,0,none⟩) x0_1.length a2) y537 from a0.out);obtain ⟨ce16,hcl16,hM16,hcc16,hfr16⟩:=Kd.R_elem HX16.out z88 (x5_1 : Int) (dA_) (by have h_ : (x5_1 : Int) < ((x0_1.length : Int) : Int):=dA_;first | exact h_ | (have e_:=(Kd.R_reads' a0.out).1;omega) | simpa using h_);obtain rfl:=k88_openM hM16;have HP16:=Kd.R_seg HX16.out (x5_1 : Int) (dA_) (by have h_ : (x5_1 : Int) < ((x0_1.length : Int) : Int):=dA_;first | exact h_ | (have e_:=(Kd.R_reads' a0.out).1;omega) | simpa using h_) (seg:=[.int .i64 (wrap64 ((wrap64 ((wrap64 (x1_1 + 1)) + 1)) + 1))]) (j:=3) hcl16 hcc16 (show 4 ≤ 4 from by decide) (x':=(⟨(rd_T88 y537 x5_1).f0,(rd_T88 y537 x5_1).f1,(rd_T88 y537 x5_1).f2,wrap64 ((wrap64 ((wrap64 (x1_1 + 1)) + 1)) + 1)⟩ : S88)) (k88_mkM _ _ _ (⟨(rd_T88 y537 x5_1).f0,(rd_T88 y537 x5_1).f1,(rd_T88 y537 x5_1).f2,wrap64 ((wrap64 ((wrap64 (x1_1 + 1)) + 1)) + 1)⟩ : S88) ) (fun _ hk => hk);have hx16_3:=hcc16 3 _ rfl;(try simp only [show (k88).sz = 4 from rfl,Nat.mul_one,Nat.add_zero] at hx16_3);have hf16_3:=hfr16 3;(try simp only [show (k88).sz = 4 from rfl,Nat.mul_one,Nat.add_zero] at hf16_3);clear hcl16 hcc16 hfr16 hM16) | ((with_reducible refine gate_store (t:=2) (p:=37) rfl ?_);refine store_event (t:=2) (p:=37) (v:=?vo_w17) (w1:=(w15.setCell ⟨go5,(x5_1 : Int).toNat * 4 + 3,none⟩ (.int .i64 (wrap64 ((wrap64 ((wrap64 (x1_1 + 1)) + 1)) + 1))))) ?hg ?ho ?hn ?hr ?_;(case ho => rfl);(case hg => rfl);(case hn => rfl);(case hr => first | (go_simp;done) | (go_simp;rfl));intro w17 hw;have hg : w15.grownBy w17 (some go5):=(by rw [hw];exact HP16.2);have hp_ : Kd.R k88 88 w17 w0.heap.size (fun k_ => (P0_ k_ ∨ w.heap.size ≤ k_)) (.slice (some ⟨go5,0,none⟩) x0_1.length a2) y538:=(by rw [hw,a7.out];exact HP16.1);clear HP16;replace HB:=Z_ ((by rw [hw];exact lS1_ (HB.out) a3.out : Below w0.heap.size w0 w17));replace HK:=Z_ (Kept.of_grown (S:=(fun k_ => P0_ k_)) hg (by repeat (first | (with_reducible first | exact HK.out | apply Kept.alloc | apply Kept.drewN | apply Kept.drew) | exact HK.out)) (fun k_ e_ => (a0.out.1 k_ e_)));replace a0:=Z_ (hp_);clear hg hw hp_))
   go_roundg k1
   case measure => have:=HK1.out;omega
   case rel => exact ⟨(y538),(wrap64 ((wrap64 ((wrap64 ((wrap64 (x1_1 + 1)) + 1)) + 1)) + 1)),(wrap64 (x5_1 + 1)),Sr_,Sr_,H',⟨by have:=HK1.out;omega⟩,⟨Rk_ a0⟩,⟨by repeat (first | (with_reducible first | exact HK.out | apply Kept.alloc | apply Kept.drewN | apply Kept.drew) | exact HK.out)⟩,⟨Lb_⟩⟩
def TyS (W : World) (S : Nat → Prop) (L : List Nat) : Prop:=∀ k,S k → ∃ q,q ∈ L ∧ ∃ cells,W.heap[k]? = some (.cells cells q (0,0))
theorem kp_R {α : Type} {d : Kd α} {e base : Nat} {ok S : Nat → Prop} {W W2 : World} {v : Value} {xs : List α} {L : List Nat} (h : d.R e W base ok v xs) (hk : Kept W W2 S) (hS : TyS W S L) (hL : ∀ q,q ∈ e :: d.E → q ∉ L) : d.R e W2 base ok v xs :=
  Kd.R_mono (Kd.R_move (Kd.R_bound h) (fun k hb => hk.2 k hb.2.2.1 (fun hs => by
    obtain ⟨_,_,_,q,hq,c1,e1⟩:=hb
    obtain ⟨q2,hq2,c2,e2⟩:=hS k hs
    rw [e1] at e2
    injection e2 with e2
    injection e2 with _ e2
    subst e2
    exact hL q hq hq2))) (fun _ hb => hb.1)
theorem kp_S {α : Type} {d : Kd α} {e base : Nat} {ok S : Nat → Prop} {W W2 : World} {v : Value} {xs : List α} {L : List Nat} (h : Kd.S d e W base ok v xs) (hk : Kept W W2 S) (hS : TyS W S L) (hL : ∀ q,q ∈ e :: d.E → q ∉ L) : Kd.S d e W2 base ok v xs:=by
  obtain ⟨f,h⟩:=h
  exact ⟨f,kp_R h hk hS hL⟩
theorem kp_B {W W2 : World} {S : Nat → Prop} {g t : Nat} {cs : Array Value} {L : List Nat} (h : W.heap[g]? = some (.cells cs t (0,0))) (hk : Kept W W2 S) (hS : TyS W S L) (hL : t ∉ L) : W2.heap[g]? = some (.cells cs t (0,0)) :=
  (hk.2 g (blk_lt h) (fun hs => by
    obtain ⟨q2,hq2,c2,e2⟩:=hS g hs
    rw [h] at e2
    injection e2 with e2
    injection e2 with _ e2
    subst e2
    exact hL hq2)).trans h
theorem kp_own {α : Type} {d : Kd α} {e base : Nat} {S : Nat → Prop} {W W2 : World} {v u : Value} {xs : List α} (h : d.R e W base (fun k => some k = v.ownBlock) v xs) (hk : Kept W W2 (fun k => some k = u.ownBlock)) (hne : ∀ k,u.ownBlock = some k → v.ownBlock ≠ some k) : d.R e W2 base (fun k => some k = v.ownBlock) v xs :=
  Kd.R_step h (fun k hb hlt => hk.2 k hlt (fun hs => hne k hs.symm hb.symm))
theorem S_tight {α : Type} {d : Kd α} {e base : Nat} {W : World} {v : Value} {xs : List α} {ok : Nat → Prop} (h : Kd.S d e W base ok v xs) : Kd.S d e W base (fun k => some k = v.ownBlock ∨ ∃ q,q ∈ d.E ∧ ∃ cells,W.heap[k]? = some (.cells cells q (0,0))) v xs:=by
  obtain ⟨f,h0,inner,ho,hr⟩:=h
  exact ⟨f,fun k hk => .inl hk.symm,inner,ho,hr.imp_ (fun p c hp => (Kd.tag f d).M_mono (fun k hk => ⟨.inr hk.2.2.2,hk.1.2⟩) ((Kd.tag f d).M_bound hp))⟩
def KeptN (L : List Nat) (w W : World) (S : Nat → Prop) : Prop:=w.heap.size ≤ W.heap.size ∧ ∀ i,i < w.heap.size → ¬ S i → (∀ q,q ∈ L → ∀ cells,w.heap[i]? ≠ some (.cells cells q (0,0))) → W.heap[i]? = w.heap[i]?
theorem R_keptN {α : Type} {d : Kd α} {e base : Nat} {ok S : Nat → Prop} {W W2 : World} {v : Value} {xs : List α} {L : List Nat} (h : d.R e W base ok v xs) (hk : KeptN L W W2 S) (hne : ∀ k,ok k → ¬ S k) (hL : ∀ q,q ∈ e :: d.E → q ∉ L:=by decide) : d.R e W2 base (fun k => ok k ∧ (¬ S k ∧ k < W.heap.size)) v xs :=
  Kd.R_mono (Kd.R_move (Kd.R_bound h) (fun k hb => hk.2 k hb.2.2.1 (hne k hb.1) (fun q hq cells e1 => by
    obtain ⟨_,_,_,q2,hq2,c2,e2⟩:=hb
    rw [e1] at e2
    injection e2 with e2
    injection e2 with _ e2
    subst e2
    exact hL q hq2 hq))) (fun k hb => ⟨hb.1,hne k hb.1,hb.2.2.1⟩)
theorem S_gone (W : World) {base : Nat} (ok : Nat → Prop) : Kd.S k76 76 W base ok (.slice none 0 0) []:=Kd.S_nil _ _ _ _ _
theorem blk_keptN {W W2 : World} {S : Nat → Prop} {g t : Nat} {cs : Array Value} {L : List Nat} (h : W.heap[g]? = some (.cells cs t (0,0))) (hk : KeptN L W W2 S) (hn : ¬ S g) (hL : t ∉ L:=by decide) : W2.heap[g]? = some (.cells cs t (0,0)) :=
  (hk.2 g (blk_lt h) hn (fun q hq cells e1 => by
    rw [h] at e1
    injection e1 with e1
    injection e1 with _ e1
    subst e1
    exact hL hq)).trans h
theorem tyS {α : Type} {d : Kd α} {e base : Nat} {W : World} {v : Value} {xs : List α} {ok : Nat → Prop} (h : Kd.S d e W base (fun k => ok k ∧ base ≤ k ∧ k < W.heap.size ∧ ∃ q,q ∈ e :: d.E ∧ ∃ cells,W.heap[k]? = some (.cells cells q (0,0))) v xs) : TyS W (fun k => ok k ∧ base ≤ k ∧ k < W.heap.size ∧ ∃ q,q ∈ e :: d.E ∧ ∃ cells,W.heap[k]? = some (.cells cells q (0,0))) (e :: d.E):=fun _ hk => hk.2.2.2
theorem tyR {α : Type} {d : Kd α} {e base : Nat} {W : World} {v : Value} {xs : List α} {ok : Nat → Prop} (h : d.R e W base ok v xs) : TyS W (fun k => some k = v.ownBlock) [e]:=fun k hk => ⟨e,List.mem_singleton.2 rfl,Kd.R_typed h k hk.symm⟩
def laws_markNet.f (k : Nat) (l0_0 : List S83) (l0_1 : List S76) (l0_2 l0_3 : List Int) (l0_4 : List S88) (l0_5 : List S88) (a1 : Int) : Option Int:=(laws_markTermS.f k l0_0 a1).bind fun p0 => (laws_markGateS.f k l0_1 p0.1).bind fun p1 => (laws_markInt64S.f k l0_2 p1).bind fun p2 => (laws_markInt64S.f k l0_3 p2.1).bind fun p3 => (laws_markGivenS.f k l0_4 p3.1).bind fun p4 => (laws_markGivenS.f k l0_5 p4.1).bind fun p5 => some p5.1
set_option maxHeartbeats 8000000 in
set_option maxRecDepth 100000 in
theorem laws_markNet.calls (k : Nat) (P0_0_ : Nat → Prop) (u9000_ : Value) (l0_0 : List (S83)) (P0_1_ : Nat → Prop) (u9001_ : Value) (l0_1 : List (S76)) (P0_2_ : Nat → Prop) (u9002_ : Value) (l0_2 : List Int) (P0_3_ : Nat → Prop) (u9003_ : Value) (l0_3 : List Int) (P0_4_ : Nat → Prop) (u9004_ : Value) (l0_4 : List (S88)) (P0_5_ : Nat → Prop) (u9005_ : Value) (l0_5 : List (S88)) (a1 r1 : Int) (w0 w : World) (hB : Below w0.heap.size w0 w) (ho0_0 : Kd.R k83 83 w w0.heap.size P0_0_ u9000_ l0_0) (ho0_1 : Kd.S k76 76 w w0.heap.size (fun _ => True) u9001_ l0_1 ∧ ∀ k_,some k_ = u9001_.ownBlock → P0_1_ k_) (ho0_2 : Kd.R (Kd.int .i64) 2 w w0.heap.size P0_2_ u9002_ l0_2) (hn2 : ∀ k_,P0_2_ k_ → ¬ P0_3_ k_) (ho0_3 : Kd.R (Kd.int .i64) 2 w w0.heap.size P0_3_ u9003_ l0_3) (hn3 : ∀ k_,P0_3_ k_ → ¬ P0_2_ k_) (ho0_4 : Kd.R k88 88 w w0.heap.size P0_4_ u9004_ l0_4) (hn4 : ∀ k_,P0_4_ k_ → ¬ P0_5_ k_) (ho0_5 : Kd.R k88 88 w w0.heap.size P0_5_ u9005_ l0_5) (hn5 : ∀ k_,P0_5_ k_ → ¬ P0_4_ k_) (h : laws_markNet.f k l0_0 l0_1 l0_2 l0_3 l0_4 l0_5 a1 = some r1) :
    Calls Tryz.prog 13 #[.agg #[u9000_,u9001_,u9002_,u9003_,u9004_,u9005_],.int .i64 a1] w fun e w' => e = .returned (.int .i64 r1) ∧ Below w0.heap.size w0 w' ∧ KeptN k76.E w w' (fun k_ => P0_0_ k_ ∨ P0_1_ k_ ∨ P0_2_ k_ ∨ P0_3_ k_ ∨ P0_4_ k_ ∨ P0_5_ k_):=by
 have hu1:=Tryz.underlying34
 have a6:=Z_ (Kd.R_tight rfl ho0_0)
 have HI0:=Z_ (show ∀ k,some k = u9000_.ownBlock → P0_0_ k from fun k hk => ho0_0.1 k hk.symm)
 obtain ⟨A0,c0,e0⟩:=Kd.R_slice ho0_0
 have a5:=Z_ (S_tight ho0_1.1)
 have HI1:=Z_ ho0_1.2
 obtain ⟨A1,c1,e1⟩:=Kd.S_slice ho0_1.1
 have a4:=Z_ (Kd.R_tight rfl ho0_2)
 have HI2:=Z_ (show ∀ k,some k = u9002_.ownBlock → P0_2_ k from fun k hk => ho0_2.1 k hk.symm)
 obtain ⟨A2,c2,e2⟩:=Kd.R_slice ho0_2
 have a3:=Z_ (Kd.R_tight rfl ho0_3)
 have HI3:=Z_ (show ∀ k,some k = u9003_.ownBlock → P0_3_ k from fun k hk => ho0_3.1 k hk.symm)
 obtain ⟨A3,c3,e3⟩:=Kd.R_slice ho0_3
 have a2:=Z_ (Kd.R_tight rfl ho0_4)
 have HI4:=Z_ (show ∀ k,some k = u9004_.ownBlock → P0_4_ k from fun k hk => ho0_4.1 k hk.symm)
 obtain ⟨A4,c4,e4⟩:=Kd.R_slice ho0_4
 have a0:=Z_ (Kd.R_tight rfl ho0_5)
 have HI5:=Z_ (show ∀ k,some k = u9005_.ownBlock → P0_5_ k from fun k hk => ho0_5.1 k hk.symm)
 obtain ⟨A5,c5,e5⟩:=Kd.R_slice ho0_5
 have HB:=Z_ hB
 have HW0:=Z_ hB.size
 have HK:=Z_ (Kept.refl w (fun k_ => P0_0_ k_ ∨ (P0_1_ k_ ∨ ∃ q,q ∈ k76.E ∧ ∃ cells,w.heap[k_]? = some (.cells cells q (0,0))) ∨ P0_2_ k_ ∨ P0_3_ k_ ∨ P0_4_ k_ ∨ P0_5_ k_))
 have D23:=Z_ (show ∀ k,u9002_.ownBlock = some k → u9003_.ownBlock ≠ some k from fun k e1 e2 => hn2 k (HI2.out k e1.symm) (HI3.out k e2.symm))
 have D45:=Z_ (show ∀ k,u9004_.ownBlock = some k → u9005_.ownBlock ≠ some k from fun k e1 e2 => hn4 k (HI4.out k e1.symm) (HI5.out k e2.symm))
 clear hB hn2 hn3 hn4 hn5 ho0_0 ho0_1 ho0_2 ho0_3 ho0_4 ho0_5
 subst e0 e1 e2 e3 e4 e5
 unfold laws_markNet.f at h
 obtain ⟨⟨q0,m0⟩,hf0,h⟩:=Option.bind_eq_some_iff.mp h
 have HF0:=Z_ hf0
 clear hf0
 try dsimp only at h
 obtain ⟨q1,hf1,h⟩:=Option.bind_eq_some_iff.mp h
 have HF1:=Z_ hf1
 clear hf1
 obtain ⟨⟨q2,m2⟩,hf2,h⟩:=Option.bind_eq_some_iff.mp h
 have HF2:=Z_ hf2
 clear hf2
 try dsimp only at h
 obtain ⟨⟨q3,m3⟩,hf3,h⟩:=Option.bind_eq_some_iff.mp h
 have HF3:=Z_ hf3
 clear hf3
 try dsimp only at h
 obtain ⟨⟨q4,m4⟩,hf4,h⟩:=Option.bind_eq_some_iff.mp h
 have HF4:=Z_ hf4
 clear hf4
 try dsimp only at h
 obtain ⟨⟨q5,m5⟩,hf5,h⟩:=Option.bind_eq_some_iff.mp h
 have HF5:=Z_ hf5
 clear hf5
 try dsimp only at h
 obtain rfl:=Option.some.inj h
 clear h
 go_enter Tryz.func13,Tryz.ntmps13
 go_wp2_with (first | ((with_reducible refine gD_ 2 rfl ?_);refine bx_ #[.slice A0 l0_0.length c0,.slice A1 l0_1.length c1,.slice A2 l0_2.length c2,.slice A3 l0_3.length c3,.slice A4 l0_4.length c4,.slice A5 l0_5.length c5] 34 ?_;intro g2 hg w3 hbox hb;replace a6:=Z_ (Kd.R_below a6.out hb);replace a5:=Z_ (Kd.S_below a5.out hb);replace a4:=Z_ (Kd.R_below a4.out hb);replace a3:=Z_ (Kd.R_below a3.out hb);replace a2:=Z_ (Kd.R_below a2.out hb);replace a0:=Z_ (Kd.R_below a0.out hb);have HK0:=Z_ HK.out.1;replace HK:=Z_ (Kept.below HK.out hb);have GE:=Z_ (show w.heap.size ≤ g2 by rw [hg];exact HK0.out);replace HB:=Z_ (lP_ HB.out hb);have BI:=Z_ hbox;clear hb hbox hg;obtain ⟨_,_,_,_,_,_,_,_,_,_,_,_⟩:=bc6 BI.out) | (go_at_call 36;have TY:=Z_ (tyR a6.out);refine (laws_markTermS.calls k (fun k_ => some k_ = (.slice A0 l0_0.length c0 : Value).ownBlock) (.slice A0 l0_0.length c0) l0_0 a1 q0 m0 w0 _ HB.out a6.out HF0.out).mono ?_;rintro e w9 ⟨rfl,_,hb,hk⟩;replace a5:=Z_ (kp_S a5.out hk TY.out (by decide));replace a4:=Z_ (kp_R a4.out hk TY.out (by decide));replace a3:=Z_ (kp_R a3.out hk TY.out (by decide));replace a2:=Z_ (kp_R a2.out hk TY.out (by decide));replace a0:=Z_ (kp_R a0.out hk TY.out (by decide));replace BI:=Z_ (kp_B BI.out hk TY.out (by decide));replace HK:=Z_ (Kept.then_ HK.out hk (fun k hk2 => .inl (.inl (HI0.out k hk2))));replace HB:=Z_ hb;clear hb hk HF0 a6 TY;obtain ⟨_,_,_,_,_,_,_,_,_,_,_,_⟩:=bc6 BI.out) | (go_at_call 37;have HQ:=Z_ (Kd.S_bound a5.out);have TY:=Z_ (tyS HQ.out);refine (laws_markGateS.calls k _ (.slice A1 l0_1.length c1) l0_1 q0 q1 w0 _ HB.out HQ.out HF1.out).mono ?_;rintro e w9 ⟨rfl,hb,hk⟩;replace a4:=Z_ (kp_R a4.out hk TY.out (by decide));replace a3:=Z_ (kp_R a3.out hk TY.out (by decide));replace a2:=Z_ (kp_R a2.out hk TY.out (by decide));replace a0:=Z_ (kp_R a0.out hk TY.out (by decide));replace BI:=Z_ (kp_B BI.out hk TY.out (by decide));replace HK:=Z_ (Kept.then_ HK.out hk (fun k hk2 => .inl (.inr (.inl (hk2.1.elim (fun h1 => .inl (HI1.out k h1)) .inr)))));replace HB:=Z_ hb;clear hb hk HF1 a5 TY HQ;obtain ⟨_,_,_,_,_,_,_,_,_,_,_,_⟩:=bc6 BI.out) | (go_at_call 38;have TY:=Z_ (tyR a4.out);refine (laws_markInt64S.calls k (fun k_ => some k_ = (.slice A2 l0_2.length c2 : Value).ownBlock) (.slice A2 l0_2.length c2) l0_2 q1 q2 m2 w0 _ HB.out a4.out HF2.out).mono ?_;rintro e w9 ⟨rfl,_,hb,hk⟩;replace a3:=Z_ (kp_own (S:=fun _ => False) a3.out hk D23.out);replace a2:=Z_ (kp_R a2.out hk TY.out (by decide));replace a0:=Z_ (kp_R a0.out hk TY.out (by decide));replace BI:=Z_ (kp_B BI.out hk TY.out (by decide));replace HK:=Z_ (Kept.then_ HK.out hk (fun k hk2 => .inl (.inr (.inr (.inl (HI2.out k hk2))))));replace HB:=Z_ hb;clear hb hk HF2 a4 TY;obtain ⟨_,_,_,_,_,_,_,_,_,_,_,_⟩:=bc6 BI.out) | (go_at_call 38;have TY:=Z_ (tyR a3.out);refine (laws_markInt64S.calls k (fun k_ => some k_ = (.slice A3 l0_3.length c3 : Value).ownBlock) (.slice A3 l0_3.length c3) l0_3 q2 q3 m3 w0 _ HB.out a3.out HF3.out).mono ?_;rintro e w9 ⟨rfl,_,hb,hk⟩;replace a2:=Z_ (kp_R a2.out hk TY.out (by decide));replace a0:=Z_ (kp_R a0.out hk TY.out (by decide));replace BI:=Z_ (kp_B BI.out hk TY.out (by decide));replace HK:=Z_ (Kept.then_ HK.out hk (fun k hk2 => .inl (.inr (.inr (.inr (.inl (HI3.out k hk2)))))));replace HB:=Z_ hb;clear hb hk HF3 a3 TY;obtain ⟨_,_,_,_,_,_,_,_,_,_,_,_⟩:=bc6 BI.out) | (go_at_call 39;have TY:=Z_ (tyR a2.out);refine (laws_markGivenS.calls k (fun k_ => some k_ = (.slice A4 l0_4.length c4 : Value).ownBlock) (.slice A4 l0_4.length c4) l0_4 q3 q4 m4 w0 _ HB.out a2.out HF4.out).mono ?_;rintro e w9 ⟨rfl,_,hb,hk⟩;replace a0:=Z_ (kp_own (S:=fun _ => False) a0.out hk D45.out);replace BI:=Z_ (kp_B BI.out hk TY.out (by decide));replace HK:=Z_ (Kept.then_ HK.out hk (fun k hk2 => .inl (.inr (.inr (.inr (.inr (.inl (HI4.out k hk2))))))));replace HB:=Z_ hb;clear hb hk HF4 a2 TY;obtain ⟨_,_,_,_,_,_,_,_,_,_,_,_⟩:=bc6 BI.out) | (go_at_call 39;have TY:=Z_ (tyR a0.out);refine (laws_markGivenS.calls k (fun k_ => some k_ = (.slice A5 l0_5.length c5 : Value).ownBlock) (.slice A5 l0_5.length c5) l0_5 q4 q5 m5 w0 _ HB.out a0.out HF5.out).mono ?_;rintro e w9 ⟨rfl,_,hb,hk⟩;replace BI:=Z_ (kp_B BI.out hk TY.out (by decide));replace HK:=Z_ (Kept.then_ HK.out hk (fun k hk2 => .inl (.inr (.inr (.inr (.inr (.inr (HI5.out k hk2))))))));replace HB:=Z_ hb;clear hb hk HF5 a0 TY;obtain ⟨_,_,_,_,_,_,_,_,_,_,_,_⟩:=bc6 BI.out))
 go_ret
 refine ⟨rfl,HB.out,HK.out.1,fun i hi hn hq => HK.out.2 i hi (fun h => ?_)⟩
 have F : ∀ q,q ∈ k76.E → ∀ cells,w.heap[i]? = some (.cells cells q (0,0)) → False:=fun q h1 cells h2 => hq q h1 cells h2
 rcases h with h | (h | ⟨q,h1,cells,h2⟩) | h | h | h | h
 ·exact hn (.inl h)
 ·exact hn (.inr (.inl h))
 ·exact F q h1 cells h2
 ·exact hn (.inr (.inr (.inl h)))
 ·exact hn (.inr (.inr (.inr (.inl h))))
 ·exact hn (.inr (.inr (.inr (.inr (.inl h)))))
 ·exact hn (.inr (.inr (.inr (.inr (.inr h)))))
def laws_markIntsResult.f (k : Nat) (a0_0 : Int) (l0_1 : List Int) (a1 : Int) : Option (Int × List Int):=(laws_markInt64S.f k l0_1 a1).bind fun bt540 => (some (bt540.1,bt540.2))
set_option maxHeartbeats 8000000 in
set_option maxRecDepth 100000 in
theorem laws_markIntsResult.calls (k : Nat) (a0_0 : Int) (P0_1_ : Nat → Prop) (u9000_ : Value) (l0_1 : List Int) (a1 r1 : Int) (r2 : List Int) (w0 w : World) (hB : Below w0.heap.size w0 w) (ho0_1 : Kd.R (Kd.int .i64) 2 w w0.heap.size P0_1_ u9000_ l0_1) (h : laws_markIntsResult.f k a0_0 l0_1 a1 = some (r1,r2)) :
  Calls Tryz.prog 14 #[.agg #[.int .i64 a0_0,u9000_],.int .i64 a1] w fun e w' => e = .returned (.int .i64 r1) ∧ Kd.R (Kd.int .i64) 2 w' w0.heap.size (fun k_ => (P0_1_ k_ ∨ w.heap.size ≤ k_)) u9000_ r2 ∧ Below w0.heap.size w0 w' ∧ Kept w w' (fun k_ => P0_1_ k_):=by
 have hu39:=Tryz.underlying39
 have HO0_1:=Z_ (show Kd.R (Kd.int .i64) 2 w w0.heap.size (fun k_ => (P0_1_ k_ ∨ w.heap.size ≤ k_)) u9000_ l0_1 from Kd.R_mono ho0_1 (fun k_ hk => (.inl hk)))
 have HK:=Z_ (Kept.refl w (fun k_ => P0_1_ k_))
 have HW0:=Z_ hB.size
 have HB:=Z_ hB
 clear hB
 unfold laws_markIntsResult.f at h
 have H:=h
 clear h
 replace H:=bS_ H
 obtain ⟨⟨t540,t541⟩,A3,H⟩:=H
 try dsimp only at H
 simp only [Option.some.injEq,Prod.mk.injEq] at H
 obtain ⟨rfl,rfl⟩:=H
 obtain ⟨Ao4,co4,eo4⟩:=Kd.R_slice HO0_1.out
 subst eo4
 go_enter Tryz.func14,Tryz.ntmps14
 go_wp2_with (first | ((with_reducible refine gD_ 2 rfl ?_);refine bx_ #[.int .i64 a0_0,.slice Ao4 l0_1.length co4] 39 ?_;intro gb539 hg w5 hbox hb;replace HO0_1:=Z_ (Kd.R_below HO0_1.out hb);have BK539:=Z_ hbox;have GW539:=Z_ ((by rw [hg];exact (by first | exact HK.out.1 | exact (show Kept w _ (fun k_ => P0_1_ k_) from by repeat (first | (with_reducible first | exact HK.out | apply Kept.alloc | apply Kept.drewN | apply Kept.drew) | exact HK.out)).1) : w.heap.size ≤ gb539));replace HK:=Z_ (Kept.below (S:=(fun k_ => P0_1_ k_)) (by repeat (first | (with_reducible first | exact HK.out | apply Kept.alloc | apply Kept.drewN | apply Kept.drew) | exact HK.out)) hb);have GE539:=Z_ ((by rw [hg];exact (below_size HB.out) : w0.heap.size ≤ gb539));replace HB:=Z_ (lP_ HB.out hb);clear hb hbox hg;obtain ⟨_,_,_,_⟩:=bc2 BK539.out) | ((with_reducible refine gate_callee (f:=38) rfl ?_);refine goesA_ (some 8) rfl rfl Tryz.func38 (by kernel_rfl) rfl #[.slice Ao4 l0_1.length co4,.int .i64 a1] rfl ?_;(with_reducible refine (laws_markInt64S.calls k (fun k_ => some k_ = (.slice Ao4 l0_1.length co4 : Value).ownBlock) (.slice Ao4 l0_1.length co4) l0_1 a1 t540 t541 w0 _ ?side1 ?side2 A3.out).mono ?_);(case side1 => repeat (first | (with_reducible first | exact HB.out | refine lS1_ ?_ GE539.out) | exact HB.out));(case side2 => exact Kd.R_tight rfl HO0_1.out);rintro e w7 ⟨rfl,hy0,hb,hkp⟩;refine ⟨_,rfl,?_⟩;replace HK:=Z_ (Kept.then_ (S:=(fun k_ => P0_1_ k_)) (by repeat (first | (with_reducible first | exact HK.out | apply Kept.alloc | apply Kept.drewN | apply Kept.drew | refine Kept.setCell ?_ (.inr GW539.out) _) | exact HK.out)) hkp (fun k_ hs_ => (fun e_ => (HO0_1.out.1 k_ e_.symm)) hs_));replace HO0_1:=Z_ (Kd.R_reok rfl hy0 (fun k_ e_ => HO0_1.out.1 k_ e_));replace HB:=Z_ (hb);(try clear hb);(try clear hkp);(try clear hy0)))
 go_ret
 exact ⟨Er_,Rk_ HO0_1,Lb_,by repeat (first | (with_reducible first | exact HK.out | apply Kept.alloc | apply Kept.drewN | apply Kept.drew | refine Kept.setCell ?_ (.inr GW539.out) _) | exact HK.out)⟩
def laws_heldInt64S.l0 : Nat → List Int → Int → Int → Option (Int)
 | 0,_,_,_ => none
 | k + 1,x0,x1,x5 => if x5 < (x0.length : Int) then (if 0 ≤ x5 then (if (rd x0 x5) = x1 then (laws_heldInt64S.l0 k x0 (wrap64 (x1 + 1)) (wrap64 (x5 + 1))) else (some (-1))) else (none)) else (some x1)
def laws_heldInt64S.f (k : Nat) (l0 : List Int) (a1 : Int) : Option (Int):=laws_heldInt64S.l0 k l0 a1 0
set_option maxHeartbeats 8000000 in
set_option maxRecDepth 100000 in
theorem laws_heldInt64S.calls (k : Nat) (A0 : Option Addr) (c0 : Nat) (l0 : List Int) (a1 r : Int) (w : World) (hr0 : Kd.C (Kd.int .i64) w A0 l0.length l0) (hc0 : l0.length ≤ c0) (h : laws_heldInt64S.f k l0 a1 = some r) :
  Calls Tryz.prog 40 #[.slice A0 l0.length c0,.int .i64 a1] w fun e w' => e = .returned (.int .i64 r) ∧ Drawn0 w w':=by
 have HR0:=Z_ hr0
 have HC0:=Z_ hc0
 clear hr0 hc0
 unfold laws_heldInt64S.f at h
 have H:=h
 clear h
 have H':=Z_ H
 clear H
 go_enter Tryz.func40,Tryz.ntmps40
 go_wp2
 go_loopg [1,5] k (fun kq v1 v5 w' => ∃ (x1_1 : Int) (x5_1 : Int),v1 = .int .i64 x1_1 ∧ v5 = .int .i64 x5_1 ∧ Aside0 (laws_heldInt64S.l0 kq l0 x1_1 x5_1 = some r) ∧ Aside0 (kq ≤ k) ∧ Drawn0 w w')
 case atStart => exact ⟨(a1),(0),Sr_,Sr_,H',⟨Nat.le_refl _⟩,by repeat (first | exact Drawn0.refl _ | apply Drawn0.step)⟩
 case round =>
  clear H'
  try clear p2
  obtain ⟨x1_1,x5_1,rfl,rfl,HA,HK1,⟨m1,rfl⟩⟩:=hrel
  cases gk with
  | zero => exact absurd HA.out (by simp [laws_heldInt64S.l0])
  | succ k1 =>
   have H:=HA.out
   clear HA
   simp only [laws_heldInt64S.l0] at H
   replace H:=iD_ H
   obtain ⟨c3b0,H⟩ | ⟨c3b0,H⟩:=H
   rotate_left
   ·obtain rfl:=Option.some.inj H
    go_wp2
    go_ret
    exact ⟨by first | rfl | (simp;done) | (simp [*];done),by repeat (first | exact Drawn0.refl _ | apply Drawn0.step)⟩
   rotate_right
   replace H:=iM_ H
   obtain ⟨c4b0,H⟩:=H
   replace H:=iE_ H
   obtain ⟨c5b0,c5b1,H⟩ | ⟨c5b0,c5b1,H⟩:=H
   rotate_left
   ·obtain rfl:=Option.some.inj H
    have p542 : 0 ≤ (x5_1 : Int):=dA_
    have q542 : x5_1 < (l0.length : Int):=dA_
    obtain ⟨ad542,e542,hx542_0⟩:=Kd.at_int HR0.out x5_1 p542 q542
    cases e542
    replace p542:=eq_true p542
    replace q542:=eq_true q542
    go_wp2
    go_ret
    exact ⟨by first | rfl | (simp;done) | (simp [*];done),by repeat (first | exact Drawn0.refl _ | apply Drawn0.step)⟩
   rotate_right
   have H':=Z_ H
   clear H
   have p542 : 0 ≤ (x5_1 : Int):=dA_
   have q542 : x5_1 < (l0.length : Int):=dA_
   obtain ⟨ad542,e542,hx542_0⟩:=Kd.at_int HR0.out x5_1 p542 q542
   cases e542
   replace p542:=eq_true p542
   replace q542:=eq_true q542
   go_wp2
   go_roundg k1
   case measure => have:=HK1.out;omega
   case rel => exact ⟨(wrap64 (x1_1 + 1)),(wrap64 (x5_1 + 1)),Sr_,Sr_,H',⟨by have:=HK1.out;omega⟩,by repeat (first | exact Drawn0.refl _ | apply Drawn0.step)⟩
def laws_heldIntsResult.f (k : Nat) (a0_0 : Int) (l0_1 : List Int) (a1 : Int) : Option (Int):=(laws_heldInt64S.f k l0_1 a1).bind fun t544 => (if t544 < 0 then (some (-1)) else (some t544))
set_option maxHeartbeats 8000000 in
set_option maxRecDepth 100000 in
theorem laws_heldIntsResult.calls (k : Nat) (a0_0 : Int) (A0_1 : Option Addr) (c0_1 : Nat) (l0_1 : List Int) (a1 r : Int) (w : World) (hr0_1 : Kd.C (Kd.int .i64) w A0_1 l0_1.length l0_1) (hc0_1 : l0_1.length ≤ c0_1) (h : laws_heldIntsResult.f k a0_0 l0_1 a1 = some r) :
  Calls Tryz.prog 15 #[.agg #[.int .i64 a0_0,.slice A0_1 l0_1.length c0_1],.int .i64 a1] w fun e w' => e = .returned (.int .i64 r) ∧ Below w.heap.size w w':=by
 have hu39:=Tryz.underlying39
 have HR0_1:=Z_ hr0_1
 have HC0_1:=Z_ hc0_1
 clear hr0_1 hc0_1
 have HB:=Z_ (Below.refl w.heap.size w)
 unfold laws_heldIntsResult.f at h
 have H:=h
 clear h
 replace H:=bS_ H
 obtain ⟨t544,A3,H⟩:=H
 replace H:=iD_ H
 obtain ⟨c4b0,H⟩ | ⟨c4b0,H⟩:=H
 all_goals
  obtain rfl:=Option.some.inj H
  go_enter Tryz.func15,Tryz.ntmps15
  go_wp2_with (first | ((with_reducible refine gD_ 2 rfl ?_);refine bx_ #[.int .i64 a0_0,.slice A0_1 l0_1.length c0_1] 39 ?_;intro gb543 hg w7 hbox hb;have BK543:=Z_ hbox;have GE543:=Z_ ((by rw [hg];exact (below_size Lb_) : w.heap.size ≤ gb543));replace HB:=Z_ (lP_ Lb_ hb);clear hb hbox hg;obtain ⟨_,_,_,_⟩:=bc2 BK543.out) | ((with_reducible refine gate_callee (f:=40) rfl ?_);refine goesA_ (some 8) rfl rfl Tryz.func40 (by kernel_rfl) rfl #[.slice A0_1 l0_1.length c0_1,.int .i64 a1] rfl ?_;(with_reducible refine (laws_heldInt64S.calls k _ _ l0_1 a1 t544 _ ?side1 ?side2 A3.out).mono ?_);(case side1 => exact Cb_ HR0_1);(case side2 => exact HC0_1.out);rintro e w' ⟨rfl,⟨nd,rfl⟩⟩;refine ⟨_,rfl,?_⟩))
  go_ret
  exact ⟨Er_,Lb_⟩
end Go.Proofs.YtcafikgabidphaaGreat.G
