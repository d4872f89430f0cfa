/- Part 5 of the proof of FnKeys: what the functions on its road do, and the plain laws. -/
import Derived.Test.YtpabeajjbifjdaaCFnKeys4
namespace Go.Proofs.Ytpabeajjbifjdaa.G
open Go.RowKit Go.Proofs.YtpabeajjbifjdaaW.PrintWords Go.Proofs.YtpabeajjbifjdaaW.PrintLast Go.Proofs.YtpabeajjbifjdaaW.PrintMore
attribute [local go_sem] max2_int min2_int max_two min_two max_three min_three max_four min_four   -- for this text's walks alone
set_option linter.unusedVariables false
set_option linter.unusedSimpArgs false
def impl_IsSecret.f (k : Nat) (l0 : List (S36)) (l1 : List Int) (a2 : Int) : Option (Bool):=(impl_KnownFault.f k l0 l1).bind fun t330 => (if t330 = 0 then ((impl_isPlace.f l0 a2).bind fun t331 => (if t331 = true then ((impl_Derives.f k l0 l1 a2).bind fun t332 => (some (!t332))) else (some false))) else (some false))
set_option maxHeartbeats 8000000 in
set_option maxRecDepth 100000 in
theorem impl_IsSecret.calls (k : Nat) (A0 : Option Addr) (c0 : Nat) (l0 : List (S36)) (A1 : Option Addr) (c1 : Nat) (l1 : List Int) (a2 : Int) (r : Bool) (w : World) (hr0 : Kd.C k36 w A0 l0.length l0) (hc0 : l0.length ≤ c0) (hr1 : Kd.C (Kd.int .i64) w A1 l1.length l1) (hc1 : l1.length ≤ c1) (h : impl_IsSecret.f k l0 l1 a2 = some r) :
  Calls Try.prog 14 #[.slice A0 l0.length c0,.slice A1 l1.length c1,.int .i64 a2] w fun e w' => e = .returned (.bool r) ∧ Below w.heap.size w w':=by
 have a0:=Z_ hr0
 have a1:=Z_ hc0
 clear hr0 hc0
 have a3:=Z_ hr1
 have a4:=Z_ hc1
 clear hr1 hc1
 have HB:=Z_ (Below.refl w.heap.size w)
 unfold impl_IsSecret.f at h
 have H:=h
 clear h
 replace H:=bS_ H
 obtain ⟨t330,A4,H⟩:=H
 replace H:=iE_ H
 obtain ⟨c5b0,c5b1,H⟩ | ⟨c5b0,c5b1,H⟩:=H
 replace H:=bS_ H
 obtain ⟨t331,A6,H⟩:=H
 replace H:=iB_ H
 obtain ⟨rfl,H⟩ | ⟨rfl,H⟩:=H
 replace H:=bS_ H
 obtain ⟨t332,A8,H⟩:=H
 all_goals
  obtain rfl:=Option.some.inj H
  go_enter Try.func14,Try.ntmps14
  go_wp2_with (first | ((with_reducible refine gate_callee (f:=53) rfl ?_);refine goesA_ (some 9) rfl rfl Try.func53 (by kernel_rfl) rfl #[.slice A0 l0.length c0,.slice A1 l1.length c1] rfl ?_;(with_reducible refine (impl_KnownFault.calls k _ _ l0 _ _ l1 t330 _ ?side1 ?side2 ?side3 ?side4 A4.out).mono ?_);(case side1 => repeat (first | exact a0.out | (with_reducible refine Kd.C_alloc ?_ _) | (with_reducible refine Kd.C_drewN ?_ _) | (with_reducible refine Kd.C_drew ?_)));(case side2 => exact a1.out);(case side3 => repeat (first | exact a3.out | (with_reducible refine Kd.C_alloc ?_ _) | (with_reducible refine Kd.C_drewN ?_ _) | (with_reducible refine Kd.C_drew ?_)));(case side4 => exact a4.out);rintro e w11 ⟨rfl,hb⟩;refine ⟨_,rfl,?_⟩;replace HB:=Z_ (lP_ Lb_ hb);(try clear hb)) | (go_at_call 54;(with_reducible refine (impl_isPlace.calls _ _ l0 a2 _ _ ?side1 ?side2 A6.out).mono ?_);(case side1 => exact Cb_ a0);(case side2 => exact a1.out);rintro e w' ⟨rfl,⟨nd,rfl⟩⟩) | (go_at_call 12;(with_reducible refine (impl_Derives.calls k _ _ l0 _ _ l1 a2 t332 _ ?side1 ?side2 ?side3 ?side4 A8.out).mono ?_);(case side1 => exact Cb_ a0);(case side2 => exact a1.out);(case side3 => exact Cb_ a3);(case side4 => exact a4.out);rintro e w10 ⟨rfl,hb⟩;replace HB:=Z_ (lP_ Lb_ hb);(try clear hb)))
  go_ret
  exact ⟨Er_,Lb_⟩
def laws_lwHas.l0 : Nat → List Int → Int → Int → Option (Bool)
 | 0,_,_,_ => none
 | k + 1,x0,x1,x5 => if x5 < (x0.length : Int) then (if 0 ≤ x5 then (if (rd x0 x5) = x1 then (some true) else (laws_lwHas.l0 k x0 x1 (wrap64 (x5 + 1)))) else (none)) else (some false)
def laws_lwHas.f (k : Nat) (l0 : List Int) (a1 : Int) : Option (Bool):=laws_lwHas.l0 k l0 a1 0
set_option maxHeartbeats 8000000 in
set_option maxRecDepth 100000 in
theorem laws_lwHas.calls (k : Nat) (A0 : Option Addr) (c0 : Nat) (l0 : List Int) (a1 : Int) (r : Bool) (w : World) (hr0 : Kd.C (Kd.int .i64) w A0 l0.length l0) (hc0 : l0.length ≤ c0) (h : laws_lwHas.f k l0 a1 = some r) :
  Calls Try.prog 15 #[.slice A0 l0.length c0,.int .i64 a1] w fun e w' => e = .returned (.bool r) ∧ Drawn0 w w':=by
 have HR0:=Z_ hr0
 have HC0:=Z_ hc0
 clear hr0 hc0
 unfold laws_lwHas.f at h
 have H:=h
 clear h
 have H':=Z_ H
 clear H
 go_enter Try.func15,Try.ntmps15
 go_wp2
 go_loopg [5] k (fun kq v5 w' => ∃ (x5_1 : Int),v5 = .int .i64 x5_1 ∧ Aside0 (laws_lwHas.l0 kq l0 a1 x5_1 = some r) ∧ Aside0 (kq ≤ k) ∧ Drawn0 w w')
 case atStart => exact ⟨(0),Sr_,H',⟨Nat.le_refl _⟩,by repeat (first | exact Drawn0.refl _ | apply Drawn0.step)⟩
 case round =>
  clear H'
  try clear c1
  try clear p2
  obtain ⟨x5_1,rfl,HA,HK1,⟨m1,rfl⟩⟩:=hrel
  cases gk with
  | zero => exact absurd HA.out (by simp [laws_lwHas.l0])
  | succ k1 =>
   have H:=HA.out
   clear HA
   simp only [laws_lwHas.l0] at H
   replace H:=iD_ H
   obtain ⟨c3b0,H⟩ | ⟨c3b0,H⟩:=H
   rotate_left
   ·obtain rfl:=Option.some.inj H
    go_wp2
    go_ret
    exact ⟨by first | rfl | (simp;done) | (simp [*];done),by repeat (first | exact Drawn0.refl _ | apply Drawn0.step)⟩
   rotate_right
   replace H:=iM_ H
   obtain ⟨c4b0,H⟩:=H
   replace H:=iE_ H
   obtain ⟨c5b0,c5b1,H⟩ | ⟨c5b0,c5b1,H⟩:=H
   ·obtain rfl:=Option.some.inj H
    have p333 : 0 ≤ (x5_1 : Int):=dA_
    have q333 : x5_1 < (l0.length : Int):=dA_
    obtain ⟨ad333,e333,hx333_0⟩:=Kd.at_int HR0.out x5_1 p333 q333
    cases e333
    replace p333:=eq_true p333
    replace q333:=eq_true q333
    go_wp2
    go_ret
    exact ⟨by first | rfl | (simp;done) | (simp [*];done),by repeat (first | exact Drawn0.refl _ | apply Drawn0.step)⟩
   have H':=Z_ H
   clear H
   have p333 : 0 ≤ (x5_1 : Int):=dA_
   have q333 : x5_1 < (l0.length : Int):=dA_
   obtain ⟨ad333,e333,hx333_0⟩:=Kd.at_int HR0.out x5_1 p333 q333
   cases e333
   replace p333:=eq_true p333
   replace q333:=eq_true q333
   go_wp2
   go_roundg k1
   case measure => have:=HK1.out;omega
   case rel => exact ⟨(wrap64 (x5_1 + 1)),Sr_,H',⟨by have:=HK1.out;omega⟩,by repeat (first | exact Drawn0.refl _ | apply Drawn0.step)⟩
def impl_risen.l0 : Nat → List Int → List Bool → Int → Int → Option (List Int)
 | 0,_,_,_,_ => none
 | k + 1,x3,x7,x8,x9 => if x9 < x8 then (if 0 ≤ x9 then (if x9 < (x7.length : Int) then (if rdOf false x7 x9 = true then (if x3.length < 17592186044416 then (impl_risen.l0 k (x3 ++ [x9]) x7 x8 (wrap64 (x9 + 1))) else (none)) else (impl_risen.l0 k x3 x7 x8 (wrap64 (x9 + 1)))) else (none)) else (none)) else (some x3)
def impl_risen.f (k : Nat) (l0 : List Bool) : Option (List Int):=impl_risen.l0 k (([] : List Int)) l0 (l0.length : Int) 0
set_option maxHeartbeats 8000000 in
set_option maxRecDepth 100000 in
theorem impl_risen.calls (k : Nat) (A0 : Option Addr) (c0 : Nat) (l0 : List Bool) (r : List Int) (w : World) (hr0 : Kd.C Kd.bool w A0 l0.length l0) (hc0 : l0.length ≤ c0) (h : impl_risen.f k l0 = some r) :
  Calls Try.prog 57 #[.slice A0 l0.length c0] w fun e w' => ∃ v0_ : Value,e = .returned (v0_) ∧ Kd.R (Kd.int .i64) 2 w' w.heap.size (fun _ => True) v0_ r ∧ Below w.heap.size w w':=by
 have a5:=Z_ hr0
 have a7:=Z_ hc0
 clear hr0 hc0
 have HB:=Z_ (Below.refl w.heap.size w)
 unfold impl_risen.f at h
 have H:=h
 clear h
 obtain ⟨y334,hy334⟩ : ∃ y_ : List Int,y_ = (([] : List Int)):=⟨_,rfl⟩
 replace H : (impl_risen.l0 k y334 l0 (l0.length : Int) 0) = some r:=by first | (rw [hy334];with_reducible exact H) | (have H2_:=(Option.bind_some _ _).symm.trans H;rw [hy334];with_reducible exact H2_) | (have H2_:=(Option.bind_some _ _).symm.trans H;with_reducible exact H2_) | with_reducible exact H | (rw [hy334];exact H) | exact H
 have a1:=Z_ hy334
 clear hy334
 have H':=Z_ H
 clear H
 go_enter Try.func57,Try.ntmps57
 go_wp2_with (first | ((with_reducible refine gD_ 6 rfl ?_);refine Kd.R_lit (Kd.int .i64) _ 2 ?hg (N:=6) ?hd (xs:=([] : List Int)) (inner:=[]) (ok:=fun _ => True) (okp:=fun _ => True) ?hr ?hp (fun _ hk => hk) trivial (Below.refl _ _) (Nat.le_refl _) (by simp) ?_;(case hd => rfl);(case hg => rfl);(case hr => first | (go_simp;done) | (go_simp;rfl));(case hp => exact (Reps.none _ _));intro v335 w2 ho3 hb hg_ hnew_;clear hg_ hnew_;(first | rw [← a1.out] at ho3 | (simp only [Int.reduceToNat] at ho3;rw [← a1.out] at ho3));have a2:=Z_ (Kd.R_lower ho3 (below_size HB.out));replace HB:=Z_ (lP_ HB.out hb);clear hb ho3))
 go_loopg [3,9] k (fun kq v3 v9 w' => ∃ (x3_1 : List Int) (x9_1 : Int),v9 = .int .i64 x9_1 ∧ Aside0 (impl_risen.l0 kq x3_1 l0 (l0.length : Int) x9_1 = some r) ∧ Aside0 (kq ≤ k) ∧ Aside0 (Kd.R (Kd.int .i64) 2 w' w.heap.size (fun _ => True) v3 x3_1) ∧ Aside0 (Below w.heap.size w w'))
 case atStart => exact ⟨(y334),(0),Sr_,H',⟨Nat.le_refl _⟩,⟨Rk_ a2⟩,⟨Lb_⟩⟩
 case round =>
  clear H'
  try clear p2
  obtain ⟨x3_1,x9_1,rfl,HA,HK1,a0,HB⟩:=hrel
  cases gk with
  | zero => exact absurd HA.out (by simp [impl_risen.l0])
  | succ k1 =>
   have H:=HA.out
   clear HA
   simp only [impl_risen.l0] at H
   replace H:=iD_ H
   obtain ⟨c4b0,H⟩ | ⟨c4b0,H⟩:=H
   rotate_left
   ·obtain rfl:=Option.some.inj H
    go_wp2
    go_ret
    exact ⟨_,Er_,Rk_ a0,Lb_⟩
   rotate_right
   replace H:=iM_ H
   obtain ⟨c5b0,H⟩:=H
   replace H:=iM_ H
   obtain ⟨c6b0,H⟩:=H
   obtain ⟨bq7,hbq7⟩ : ∃ b_ : Bool,b_ = (rdOf false l0 x9_1):=⟨_,rfl⟩
   replace H : (if bq7 = true then (if x3_1.length < 17592186044416 then (impl_risen.l0 k1 (x3_1 ++ [x9_1]) l0 (l0.length : Int) (wrap64 (x9_1 + 1))) else (none)) else (impl_risen.l0 k1 x3_1 l0 (l0.length : Int) (wrap64 (x9_1 + 1)))) = some r:=by rw [← hbq7] at H;exact H
   have Nbq7:=Z_ hbq7
   clear hbq7
   replace H:=iB_ H
   obtain ⟨rfl,H⟩ | ⟨rfl,H⟩:=H
   rotate_left
   ·have H':=Z_ H
    clear H
    have p337 : 0 ≤ (x9_1 : Int):=dA_
    have q337 : x9_1 < (l0.length : Int):=dA_
    obtain ⟨ad337,e337,hx337_0⟩:=Kd.at_bool a5.out x9_1 p337 q337
    (try rw [← Nbq7.out] at hx337_0)
    cases e337
    replace hx337_0:=cB_ HB hx337_0
    replace p337:=eq_true p337
    replace q337:=eq_true q337
    go_wp2
    go_roundg k1
    case measure => have:=HK1.out;omega
    case rel => exact ⟨(x3_1),(wrap64 (x9_1 + 1)),Sr_,H',⟨by have:=HK1.out;omega⟩,⟨Rk_ a0⟩,⟨Lb_⟩⟩
   rotate_right
   replace H:=iN_ H
   obtain ⟨c9,H⟩:=H
   have a6:=Z_ c9
   clear c9
   obtain ⟨y338,hy338⟩ : ∃ y_ : List Int,y_ = (x3_1 ++ [x9_1]):=⟨_,rfl⟩
   replace H : (impl_risen.l0 k1 y338 l0 (l0.length : Int) (wrap64 (x9_1 + 1))) = some r:=by first | (rw [hy338];with_reducible exact H) | (have H2_:=(Option.bind_some _ _).symm.trans H;rw [hy338];with_reducible exact H2_) | (have H2_:=(Option.bind_some _ _).symm.trans H;with_reducible exact H2_) | with_reducible exact H | (rw [hy338];exact H) | exact H
   have a3:=Z_ hy338
   clear hy338
   have H':=Z_ H
   clear H
   have p337 : 0 ≤ (x9_1 : Int):=dA_
   have q337 : x9_1 < (l0.length : Int):=dA_
   obtain ⟨ad337,e337,hx337_0⟩:=Kd.at_bool a5.out x9_1 p337 q337
   (try rw [← Nbq7.out] at hx337_0)
   cases e337
   replace hx337_0:=cB_ HB hx337_0
   replace p337:=eq_true p337
   replace q337:=eq_true q337
   go_wp2_with (first | ((with_reducible refine gate_builtin (b:=.append) (xs:=#[.tmp 15,.tmp 17]) rfl ?_);at_builtin;refine Kd.R_append (Kd.int .i64) (w0:=w) w.heap.size rfl (.tmp 15) (.tmp 17) 37 2 (.int .i64 0) 8 rfl Try.underlying37 info2 rfl (by decide) (by omega) u3 x3_1 x9_1 [.int .i64 x9_1] (fun _ => True) (fun _ => False) rfl rfl ?aP (fun _ hk => hk.elim) ?aF ?aO ?aB ?aS ?aL ?_;(case aP => exact rfl);(case aB => exact HB.out);(case aF => exact (fun _ _ => trivial));(case aO => exact a0.out);(case aS => exact (below_size HB.out));(case aL => have:=a6.out;omega);intro v339 w10 ho hb hg hat;rw [← a3.out] at ho;replace HB:=Z_ (hb);have a4:=Z_ (ho);clear a0 ho hb hg hat))
   go_roundg k1
   case measure => have:=HK1.out;omega
   case rel => exact ⟨(y338),(wrap64 (x9_1 + 1)),Sr_,H',⟨by have:=HK1.out;omega⟩,⟨Rk_ a4⟩,⟨Lb_⟩⟩
def impl_OpenAll.f (k : Nat) (l0 : List (S36)) (l1 : List Int) : Option (Int × List Int):=(impl_KnownFault.f k l0 l1).bind fun t342 => (if t342 = 0 then ((impl_opened.f k l0 l1).bind fun t343 => ((impl_risen.f k t343).bind fun t346 => (some (0,t346)))) else (some (t342,([] : List Int))))
set_option maxHeartbeats 8000000 in
set_option maxRecDepth 100000 in
theorem impl_OpenAll.calls (k : Nat) (A0 : Option Addr) (c0 : Nat) (l0 : List (S36)) (A1 : Option Addr) (c1 : Nat) (l1 : List Int) (r1 : Int) (r2 : List Int) (w : World) (hr0 : Kd.C k36 w A0 l0.length l0) (hc0 : l0.length ≤ c0) (hr1 : Kd.C (Kd.int .i64) w A1 l1.length l1) (hc1 : l1.length ≤ c1) (h : impl_OpenAll.f k l0 l1 = some (r1,r2)) :
  Calls Try.prog 16 #[.slice A0 l0.length c0,.slice A1 l1.length c1] w fun e w' => ∃ v1_ : Value,e = .returned (.agg #[.int .i64 r1,v1_]) ∧ Kd.R (Kd.int .i64) 2 w' w.heap.size (fun _ => True) v1_ r2 ∧ Below w.heap.size w w':=by
 have hu42:=Try.underlying42
 have a5:=Z_ hr0
 have a6:=Z_ hc0
 clear hr0 hc0
 have a7:=Z_ hr1
 have a8:=Z_ hc1
 clear hr1 hc1
 have HB:=Z_ (Below.refl w.heap.size w)
 unfold impl_OpenAll.f at h
 have H:=h
 clear h
 replace H:=bS_ H
 obtain ⟨t342,A3,H⟩:=H
 replace H:=iE_ H
 obtain ⟨c4b0,c4b1,H⟩ | ⟨c4b0,c4b1,H⟩:=H
 rotate_left
 ·simp only [Option.some.injEq,Prod.mk.injEq] at H
  obtain ⟨rfl,rfl⟩:=H
  go_enter Try.func16,Try.ntmps16
  go_wp2_with (first | ((with_reducible refine gD_ 4 rfl ?_);refine bx_ #[.int .i64 0,.slice none 0 0] 42 ?_;intro a1 hg w14 hbox hb;have a0:=Z_ hbox;have a2:=Z_ ((by rw [hg];exact (below_size Lb_) : w.heap.size ≤ a1));replace HB:=Z_ (lP_ Lb_ hb);clear hb hbox hg) | ((with_reducible refine gate_callee (f:=53) rfl ?_);refine goesA_ (some 8) rfl rfl Try.func53 (by kernel_rfl) rfl #[.slice A0 l0.length c0,.slice A1 l1.length c1] rfl ?_;(with_reducible refine (impl_KnownFault.calls k _ _ l0 _ _ l1 t342 _ ?side1 ?side2 ?side3 ?side4 A3.out).mono ?_);(case side1 => exact Cb_ a5);(case side2 => exact a6.out);(case side3 => exact Cb_ a7);(case side4 => exact a8.out);rintro e w15 ⟨rfl,hb⟩;refine ⟨_,rfl,?_⟩;replace a0:=Z_ (bB_ a0.out hb);replace HB:=Z_ (lP_ HB.out hb);(try clear hb);obtain ⟨_,_,_,_⟩:=bc2 a0.out))
  refine bodyPost_ret (results_cell_row rfl _ _ a1 42 #[.int .i64 t342,.slice none 0 0] (0,0) _ rfl (by (with_reducible repeat first | apply bN_ | apply bD_ | apply bA_);apply fill2;(with_reducible repeat first | apply bN_ | apply bD_ | apply bA_);exact a0.out) Try.underlying42 rfl (by kernel_rfl)) rfl ?_
  exact ⟨_,Er_,by first | exact Kd.R_nil _ _ _ _ _ | exact Kd.N_nil _ _ _ _ _ | exact Kd.V_nil _ _ _ _ _ | exact Kd.Q_nil _ _ _ _ _ | exact Kd.S_nil _ _ _ _ _,Lb_⟩
 rotate_right
 replace H:=bS_ H
 obtain ⟨t343,A5,H⟩:=H
 replace H:=bS_ H
 obtain ⟨t346,A6,H⟩:=H
 simp only [Option.some.injEq,Prod.mk.injEq] at H
 obtain ⟨rfl,rfl⟩:=H
 go_enter Try.func16,Try.ntmps16
 go_wp2_with (first | ((with_reducible refine gD_ 4 rfl ?_);refine bx_ #[.int .i64 0,.slice none 0 0] 42 ?_;intro a1 hg w7 hbox hb;have a0:=Z_ hbox;have a2:=Z_ ((by rw [hg];exact (below_size HB.out) : w.heap.size ≤ a1));replace HB:=Z_ (lP_ HB.out hb);clear hb hbox hg) | ((with_reducible refine gate_callee (f:=53) rfl ?_);refine goesA_ (some 8) rfl rfl Try.func53 (by kernel_rfl) rfl #[.slice A0 l0.length c0,.slice A1 l1.length c1] rfl ?_;(with_reducible refine (impl_KnownFault.calls k _ _ l0 _ _ l1 t342 _ ?side1 ?side2 ?side3 ?side4 A3.out).mono ?_);(case side1 => exact Cb_ a5);(case side2 => exact a6.out);(case side3 => exact Cb_ a7);(case side4 => exact a8.out);rintro e w8 ⟨rfl,hb⟩;refine ⟨_,rfl,?_⟩;replace a0:=Z_ (bB_ a0.out hb);replace HB:=Z_ (lP_ HB.out hb);(try clear hb)) | ((with_reducible refine gate_callee (f:=56) rfl ?_);refine goesA_ (some 15) rfl rfl Try.func56 (by kernel_rfl) rfl #[.slice A0 l0.length c0,.slice A1 l1.length c1] rfl ?_;(with_reducible refine (impl_opened.calls k _ _ l0 _ _ l1 t343 _ ?side1 ?side2 ?side3 ?side4 A5.out).mono ?_);(case side1 => exact Cb_ a5);(case side2 => exact a6.out);(case side3 => exact Cb_ a7);(case side4 => exact a8.out);rintro e w9 ⟨v344,rfl,ho0,hb⟩;refine ⟨_,rfl,?_⟩;have a3:=Z_ (Kd.R_lower ho0 (below_size HB.out));replace a0:=Z_ (bB_ a0.out hb);replace HB:=Z_ (lP_ HB.out hb);(try clear hb);(try clear ho0);obtain ⟨ac,ad,eo10⟩:=Kd.R_slice a3.out;subst eo10) | ((with_reducible refine gate_callee (f:=57) rfl ?_);refine goesA_ (some 16) rfl rfl Try.func57 (by kernel_rfl) rfl #[.slice ac t343.length ad] rfl ?_;(with_reducible refine (impl_risen.calls k _ _ t343 t346 _ ?side1 ?side2 A6.out).mono ?_);(case side1 => exact Rc_ a3);(case side2 => exact (Kd.R_reads' a3.out).2.1);rintro e w11 ⟨v347,rfl,ho0,hb⟩;refine ⟨_,rfl,?_⟩;have a4:=Z_ (Kd.R_lower ho0 (below_size HB.out));replace a0:=Z_ (bB_ a0.out hb);replace HB:=Z_ (lP_ HB.out hb);(try clear hb);(try clear ho0);obtain ⟨ae,af,eo12⟩:=Kd.R_slice a4.out;subst eo12;obtain ⟨_,_,_,_⟩:=bc2 a0.out))
 refine bodyPost_ret (results_cell_row rfl _ _ a1 42 #[.int .i64 0,.slice ae t346.length af] (0,0) _ rfl (by (with_reducible repeat first | apply bN_ | apply bD_ | apply bA_);apply fill2;(with_reducible repeat first | apply bN_ | apply bD_ | apply bA_);exact a0.out) Try.underlying42 rfl (by kernel_rfl)) rfl ?_
 exact ⟨_,Er_,by (with_reducible repeat first | apply rA_ | apply rN_ | apply rD_);exact Kd.R_mono (rfar2 (g:=a1) (Kd.R_types a4.out a0.out (by decide)) (fun _ hk => hk.2)) (fun _ hk => trivial),Lb_⟩
end Go.Proofs.Ytpabeajjbifjdaa.G
