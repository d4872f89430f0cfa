/- Part 4 of the proof of FnExactLearnsIt: what the functions on its road do, and the plain laws. -/
import Derived.Test.YtcafikgabidphaaGreatCFnExactLearnsIt3
import Derived.Maps.OwnOps
import Derived.DeepKeys4
import Derived.Maps.Views
import Derived.Shelf.Abstract
namespace Go.Proofs.YtcafikgabidphaaGreat.G
open Go.RowKit Go.Proofs.YtcafikgabidphaaGreatW.PrintWords Go.Proofs.YtcafikgabidphaaGreatW.PrintLast Go.Proofs.YtcafikgabidphaaGreatW.PrintMore
attribute [local go_sem] max2_int min2_int max_two min_two max_three min_three max_four min_four   -- for this text's walks alone
set_option linter.unusedVariables false
set_option linter.unusedSimpArgs false
def impl_Term_parts.f (k : Nat) (a0_0 a0_1 a0_2 a0_3 : Int) : Option (List Int):=(impl_namesOf.f k a0_0).bind fun bt349 => (if bt349.2.2 = true then (some ([] : List Int)) else (if bt349.2.1 = true then (some (([a0_1,a0_2] : List Int))) else (some (([a0_1] : List Int)))))
set_option maxHeartbeats 8000000 in
set_option maxRecDepth 100000 in
theorem impl_Term_parts.calls (k : Nat) (a0_0 a0_1 a0_2 a0_3 : Int) (r : List Int) (w : World) (h : impl_Term_parts.f k a0_0 a0_1 a0_2 a0_3 = some r) :
  Calls Tryz.prog 99 #[.agg #[.int .i64 a0_0,.int .i64 a0_1,.int .i64 a0_2,.int .i64 a0_3]] w fun e w' => ∃ v0_ : Value,e = .returned (v0_) ∧ Kd.R (Kd.int .i64) 2 w' w.heap.size (fun _ => True) v0_ r ∧ Below w.heap.size w w':=by
 have hu83:=Tryz.underlying83
 have hu144:=Tryz.underlying144
 have HB:=Z_ (Below.refl w.heap.size w)
 unfold impl_Term_parts.f at h
 have H:=h
 clear h
 replace H:=bS_ H
 obtain ⟨⟨t349,t350,t351⟩,A2,H⟩:=H
 try dsimp only at H
 replace H:=iB_ H
 obtain ⟨rfl,H⟩ | ⟨rfl,H⟩:=H
 ·obtain rfl:=Option.some.inj H
  go_enter Tryz.func99,Tryz.ntmps99
  go_wp2_with (first | ((with_reducible refine gD_ 1 rfl ?_);refine bx_ #[.int .i64 a0_0,.int .i64 a0_1,.int .i64 a0_2,.int .i64 a0_3] 83 ?_;intro a4 hg w4 hbox hb;have a0:=Z_ hbox;have a1:=Z_ ((by rw [hg];exact (below_size HB.out) : w.heap.size ≤ a4));replace HB:=Z_ (lP_ HB.out hb);clear hb hbox hg;obtain ⟨_,_,_,_,_,_,_,_⟩:=bc4 a0.out) | ((with_reducible refine gate_callee (f:=97) rfl ?_);refine goesA_ (some 6) rfl rfl Tryz.func97 (by kernel_rfl) rfl #[.int .i64 a0_0] rfl ?_;(with_reducible refine (impl_namesOf.calls k a0_0 t349 t350 true _ A2.out).mono ?_);rintro e w6 ⟨rfl,hb⟩;refine ⟨_,rfl,?_⟩;replace a0:=Z_ (bB_ a0.out hb);replace HB:=Z_ (lP_ HB.out hb);(try clear hb)) | ((with_reducible refine gD_ 3 rfl ?_);refine bx_ #[.bool false,.bool false,.bool false] 144 ?_;intro a6 hg w7 hbox hb;have a7:=Z_ hbox;have a5:=Z_ ((by rw [hg];exact (below_size Lb_) : w.heap.size ≤ a6));replace HB:=Z_ (lP_ Lb_ hb);have a2:=Z_ ((by rw [hg];exact Nat.ne_of_lt (blk_lt (g:=a4) (o:=.cells #[.int .i64 a0_0,.int .i64 a0_1,.int .i64 a0_2,.int .i64 a0_3] 83 (0,0)) a0.out) : a4 ≠ a6));have a3:=Z_ a2.out.symm;clear hb hbox hg;have ah:=a3.out;have ai:=a2.out;obtain ⟨_,_,_,_,_,_⟩:=bc3 a7.out))
  go_ret
  exact ⟨_,Er_,by first | exact Kd.R_nil _ _ _ _ _ | exact Kd.N_nil _ _ _ _ _ | exact Kd.V_nil _ _ _ _ _ | exact Kd.Q_nil _ _ _ _ _ | exact Kd.S_nil _ _ _ _ _,Lb_⟩
 replace H:=iB_ H
 obtain ⟨rfl,H⟩ | ⟨rfl,H⟩:=H
 rotate_left
 ·obtain ⟨y356,hy356⟩ : ∃ y_ : List Int,y_ = (([a0_1] : List Int)):=⟨_,rfl⟩
  replace H : (some y356) = some r:=by first | (rw [hy356];with_reducible exact H) | (have H2_:=(Option.bind_some _ _).symm.trans H;rw [hy356];with_reducible exact H2_) | (have H2_:=(Option.bind_some _ _).symm.trans H;with_reducible exact H2_) | with_reducible exact H | (rw [hy356];exact H) | exact H
  have a9:=Z_ hy356
  clear hy356
  obtain rfl:=Option.some.inj H
  go_enter Tryz.func99,Tryz.ntmps99
  go_wp2_with (first | ((with_reducible refine gD_ 1 rfl ?_);refine bx_ #[.int .i64 a0_0,.int .i64 a0_1,.int .i64 a0_2,.int .i64 a0_3] 83 ?_;intro a4 hg w20 hbox hb;have a0:=Z_ hbox;have a1:=Z_ ((by rw [hg];exact (below_size Lb_) : w.heap.size ≤ a4));replace HB:=Z_ (lP_ Lb_ hb);clear hb hbox hg;obtain ⟨_,_,_,_,_,_,_,_⟩:=bc4 a0.out) | ((with_reducible refine gate_callee (f:=97) rfl ?_);refine goesA_ (some 6) rfl rfl Tryz.func97 (by kernel_rfl) rfl #[.int .i64 a0_0] rfl ?_;(with_reducible refine (impl_namesOf.calls k a0_0 t349 false false _ A2.out).mono ?_);rintro e w22 ⟨rfl,hb⟩;refine ⟨_,rfl,?_⟩;replace a0:=Z_ (bB_ a0.out hb);replace HB:=Z_ (lP_ HB.out hb);(try clear hb)) | ((with_reducible refine gD_ 3 rfl ?_);refine bx_ #[.bool false,.bool false,.bool false] 144 ?_;intro a6 hg w23 hbox hb;have a7:=Z_ hbox;have a5:=Z_ ((by rw [hg];exact (below_size HB.out) : w.heap.size ≤ a6));replace HB:=Z_ (lP_ HB.out hb);have a2:=Z_ ((by rw [hg];exact Nat.ne_of_lt (blk_lt a0.out) : a4 ≠ a6));replace a0:=Z_ (bB_ a0.out hb);have a3:=Z_ a2.out.symm;clear hb hbox hg;have af:=a3.out;have ag:=a2.out;obtain ⟨_,_,_,_,_,_⟩:=bc3 a7.out;obtain ⟨_,_,_,_,_,_,_,_⟩:=bc4 a0.out) | ((with_reducible refine gD_ 16 rfl ?_);refine Kd.R_lit (Kd.int .i64) _ 2 ?hg (N:=16) ?hd (xs:=([a0_1] : List Int)) (inner:=[.int .i64 a0_1]) (ok:=fun _ => True) (okp:=fun _ => True) ?hr ?hp (fun _ hk => hk) trivial (Below.refl _ _) (Nat.le_refl _) (by simp) ?_;(case hd => rfl);(case hg => rfl);(case hr => first | (go_simp;done) | (go_simp;rfl));(case hp => exact (Reps.one (show Kd.M (Kd.int .i64) _ _ _ a0_1 [.int .i64 a0_1] from rfl) (Reps.none _ _)));intro v357 w27 ho28 hb hg_ hnew_;clear hg_ hnew_;(first | rw [← a9.out] at ho28 | (simp only [Int.reduceToNat] at ho28;rw [← a9.out] at ho28));have ab:=Z_ (Kd.R_lower ho28 (below_size Lb_));replace HB:=Z_ (lP_ Lb_ hb);clear hb ho28))
  go_ret
  exact ⟨_,Er_,Rk_ ab,Lb_⟩
 rotate_right
 obtain ⟨y353,hy353⟩ : ∃ y_ : List Int,y_ = (([a0_1,a0_2] : List Int)):=⟨_,rfl⟩
 replace H : (some y353) = some r:=by first | (rw [hy353];with_reducible exact H) | (have H2_:=(Option.bind_some _ _).symm.trans H;rw [hy353];with_reducible exact H2_) | (have H2_:=(Option.bind_some _ _).symm.trans H;with_reducible exact H2_) | with_reducible exact H | (rw [hy353];exact H) | exact H
 have a8:=Z_ hy353
 clear hy353
 obtain rfl:=Option.some.inj H
 go_enter Tryz.func99,Tryz.ntmps99
 go_wp2_with (first | ((with_reducible refine gD_ 1 rfl ?_);refine bx_ #[.int .i64 a0_0,.int .i64 a0_1,.int .i64 a0_2,.int .i64 a0_3] 83 ?_;intro a4 hg w11 hbox hb;have a0:=Z_ hbox;have a1:=Z_ ((by rw [hg];exact (below_size Lb_) : w.heap.size ≤ a4));replace HB:=Z_ (lP_ Lb_ hb);clear hb hbox hg;obtain ⟨_,_,_,_,_,_,_,_⟩:=bc4 a0.out) | ((with_reducible refine gate_callee (f:=97) rfl ?_);refine goesA_ (some 6) rfl rfl Tryz.func97 (by kernel_rfl) rfl #[.int .i64 a0_0] rfl ?_;(with_reducible refine (impl_namesOf.calls k a0_0 t349 true false _ A2.out).mono ?_);rintro e w13 ⟨rfl,hb⟩;refine ⟨_,rfl,?_⟩;replace a0:=Z_ (bB_ a0.out hb);replace HB:=Z_ (lP_ HB.out hb);(try clear hb)) | ((with_reducible refine gD_ 3 rfl ?_);refine bx_ #[.bool false,.bool false,.bool false] 144 ?_;intro a6 hg w14 hbox hb;have a7:=Z_ hbox;have a5:=Z_ ((by rw [hg];exact (below_size HB.out) : w.heap.size ≤ a6));replace HB:=Z_ (lP_ HB.out hb);have a2:=Z_ ((by rw [hg];exact Nat.ne_of_lt (blk_lt a0.out) : a4 ≠ a6));replace a0:=Z_ (bB_ a0.out hb);have a3:=Z_ a2.out.symm;clear hb hbox hg;have ad:=a3.out;have ae:=a2.out;obtain ⟨_,_,_,_,_,_⟩:=bc3 a7.out;obtain ⟨_,_,_,_,_,_,_,_⟩:=bc4 a0.out) | ((with_reducible refine gD_ 21 rfl ?_);refine Kd.R_lit (Kd.int .i64) _ 2 ?hg (N:=21) ?hd (xs:=([a0_1,a0_2] : List Int)) (inner:=[.int .i64 a0_1,.int .i64 a0_2]) (ok:=fun _ => True) (okp:=fun _ => True) ?hr ?hp (fun _ hk => hk) trivial (Below.refl _ _) (Nat.le_refl _) (by simp) ?_;(case hd => rfl);(case hg => rfl);(case hr => first | (go_simp;done) | (go_simp;rfl));(case hp => exact (Reps.one (show Kd.M (Kd.int .i64) _ _ _ a0_1 [.int .i64 a0_1] from rfl) (Reps.one (show Kd.M (Kd.int .i64) _ _ _ a0_2 [.int .i64 a0_2] from rfl) (Reps.none _ _))));intro v354 w18 ho19 hb hg_ hnew_;clear hg_ hnew_;(first | rw [← a8.out] at ho19 | (simp only [Int.reduceToNat] at ho19;rw [← a8.out] at ho19));have aa:=Z_ (Kd.R_lower ho19 (below_size Lb_));replace HB:=Z_ (lP_ Lb_ hb);clear hb ho19))
 go_ret
 exact ⟨_,Er_,Rk_ aa,Lb_⟩
theorem impl_in_eq (a b c : Int) : impl_in.f a b c = some (decide (b ≤ a ∧ a ≤ c)):=by
  unfold impl_in.f;split
  · congr 1;simp;omega
  · congr 1;simp;omega
set_option maxHeartbeats 4000000 in
set_option maxRecDepth 100000 in
theorem impl_isPlace.callsF (A0 : Option Addr) (n c0 : Nat) (x : Int) (hn : n ≤ 9223372036854775807) (w : World) :
    Calls Tryz.prog 28 #[.slice A0 n c0,.int .i64 x] w fun e w' => e = .returned (.bool (decide (0 ≤ x ∧ x ≤ (n : Int) - 1))) ∧ Below w.heap.size w w':=by
  have HI:=Z_ (impl_in_eq x 0 ((n : Int) - 1))
  obtain ⟨r,hr⟩ : ∃ r,r = decide (0 ≤ x ∧ x ≤ (n : Int) - 1):=⟨_,rfl⟩
  rw [← hr] at HI ⊢
  clear hr
  have e1 : wrap64 ((n : Int) - 1) = (n : Int) - 1:=by unfold wrap64;omega
  go_enter Tryz.func28,Tryz.ntmps28
  go_wp2_with (go_at_call 61;refine (impl_in.calls _ _ _ _ _ HI.out).mono ?_;rintro e w' ⟨rfl,⟨nd,rfl⟩⟩)
  go_ret
  exact ⟨rfl,lN_ (Below.refl _ _) _⟩
set_option maxHeartbeats 4000000 in
set_option maxRecDepth 100000 in
theorem impl_fault_1.calls (A0 : Option Addr) (n c0 B : Nat) (x : Int) (hn : n ≤ 9223372036854775807) (W : World) (hc : W.cell? ⟨B,0,none⟩ = some (.slice A0 n c0)) :
    Calls Tryz.prog 100 (#[.int .i64 x] ++ #[.pointer (some ⟨B,0,none⟩)]) W fun e w' => e = .returned (.bool (!decide (0 ≤ x ∧ x ≤ (n : Int) - 1))) ∧ Below W.heap.size W w':=by
 have hC:=fun W' => impl_isPlace.callsF A0 n c0 x hn W'
 generalize decide (0 ≤ x ∧ x ≤ (n : Int) - 1) = r at hC ⊢
 go_enter Tryz.func100,Tryz.ntmps100
 go_wp2_with (go_at_call 28;refine (hC _).mono ?_;rintro e w' ⟨rfl,hb⟩)
 go_ret
 exact ⟨rfl,hb⟩
set_option maxHeartbeats 4000000 in
set_option maxRecDepth 100000 in
theorem impl_fault_2.calls (A0 : Option Addr) (l : List (S83)) (c0 B : Nat) (x : Int) (W : World) (hc : W.cell? ⟨B,0,none⟩ = some (.slice A0 l.length c0)) (hr : Kd.C k83 W A0 l.length l) (h0 : 0 ≤ x) (h1 : x < (l.length : Int)) :
    Calls Tryz.prog 101 (#[.int .i64 x] ++ #[.pointer (some ⟨B,0,none⟩)]) W fun e w' => e = .returned (.bool ((rd_T83 l x).f0 != 2)) ∧ Below W.heap.size W w':=by
 obtain ⟨ad,e,hx0,_⟩:=at_T83 hr x h0 h1
 clear hr
 subst e
 generalize (rd_T83 l x).f0 = y at hx0 ⊢
 obtain ⟨i,rfl⟩:=Int.eq_ofNat_of_zero_le h0
 rw [Int.toNat_natCast] at hx0
 have hlt : i < l.length:=by omega
 go_enter Tryz.func101,Tryz.ntmps101
 go_wp2
 go_ret
 exact ⟨rfl,Below.refl _ _⟩
def notIn (l : List S83) (x : Int) : Bool:=!decide (0 ≤ x ∧ x ≤ (l.length : Int) - 1)
def notFresh (l : List S83) (x : Int) : Bool:=(rd_T83 l x).f0 != 2
def tfault (a0 a1 a2 a3 : Int) (l : List S83) : Int :=
  if 1 ≤ a0 ∧ a0 ≤ 7 then
    (if a0 = 1 ∨ a0 = 2 then (if a1 = 0 ∧ a2 = 0 then (if 0 ≤ a3 ∧ a3 ≤ 9999 then 0 else 3) else 1)
    else if a0 = 6 then (if a2 = 0 ∧ a3 = 0 then (if ([a1] : List Int).any (notIn l) = true then 3 else (if ([a1] : List Int).any (notFresh l) = true then 1 else 0)) else 1)
    else (if a3 = 0 then (if ([a1,a2] : List Int).any (notIn l) = true then 3 else (if a0 = 7 then (if ([a1,a2] : List Int).any (notFresh l) = true ∨ a1 > a2 then 1 else 0) else 0)) else 1))
  else 5
def impl_Term_fault.f (a0_0 a0_1 a0_2 a0_3 : Int) (l1 : List S83) : Option Int:=some (tfault a0_0 a0_1 a0_2 a0_3 l1)
theorem gF_ {P : Program} {f : FuncId} {x : Value} {a b : Array Value} {w : World} {Q : Ending → World → Prop} (g : Fn) (h : Calls P f #[x,.func g a b] w Q) : Calls P f #[x,.func g a b] w Q:=h
theorem tc4_ {w : World} {g : Nat} {t : TypeId} {c0 c1 c2 c3 : Value} (h : w.heap[g]? = some (.cells #[c0,c1,c2,c3] t (0,0))) : w.cell? ⟨g,0,none⟩ = some c0 ∧ w.cell? ⟨g,1,none⟩ = some c1 ∧ w.cell? ⟨g,2,none⟩ = some c2 ∧ w.cell? ⟨g,3,none⟩ = some c3:=⟨(blk_cell h 0).trans rfl,(blk_cell h 1).trans rfl,(blk_cell h 2).trans rfl,(blk_cell h 3).trans rfl⟩
theorem fault_in (l1 : List S83) (ps : List Int) (hp : ps.any (notIn l1) = false) : ∀ x ∈ ps,0 ≤ x ∧ x < (l1.length : Int):=by
  intro x hx
  have:=List.any_eq_false.1 hp x hx
  simp [notIn] at this
  omega
theorem eqT_ {a b : Int} (h : a = b) : (a == b) = true ∧ (a != b) = false ∧ decide (a = b) = true:=by simp [h]
theorem eqF_ {a b : Int} (h : ¬ a = b) : (a == b) = false ∧ (a != b) = true ∧ decide (a = b) = false:=by simp [h]
set_option maxHeartbeats 8000000 in
set_option maxRecDepth 100000 in
theorem impl_Term_fault.calls (a0_0 a0_1 a0_2 a0_3 : Int) (A1 : Option Addr) (c1 : Nat) (l1 : List S83) (r : Int) (w : World) (hr1 : Kd.C k83 w A1 l1.length l1) (hc1 : l1.length ≤ c1) (h : impl_Term_fault.f a0_0 a0_1 a0_2 a0_3 l1 = some r) :
    Calls Tryz.prog 80 #[.agg #[.int .i64 a0_0,.int .i64 a0_1,.int .i64 a0_2,.int .i64 a0_3],.slice A1 l1.length c1] w fun e w' => e = .returned (.int .i64 r) ∧ Below w.heap.size w w':=by
 have hmf : ∀ (fn : Fn) (first cap : Array Value) (w : World),(Instr.makeFunc fn first cap).run Tryz.prog w = .ok (.func fn first cap) w:=fun _ _ _ _ => rfl
 have HB:=Z_ (Below.refl w.heap.size w)
 have HR:=Z_ hr1
 have HL:=Z_ hr1.2.1
 clear hr1 hc1
 replace h : tfault a0_0 a0_1 a0_2 a0_3 l1 = r:=Option.some.inj h
 unfold tfault at h
 refine if hop : 1 ≤ a0_0 ∧ a0_0 ≤ 7 then (if hn : a0_0 = 1 ∨ a0_0 = 2 then (if ha : a0_1 = 0 then (if hb : a0_2 = 0 then (if hr : 0 ≤ a0_3 ∧ a0_3 ≤ 9999 then ?_ else ?_) else ?_) else ?_) else if k6 : a0_0 = 6 then (if hb : a0_2 = 0 then (if h3 : a0_3 = 0 then (if hp : ([a0_1] : List Int).any (notIn l1) = true then ?_ else if hq : ([a0_1] : List Int).any (notFresh l1) = true then ?_ else ?_) else ?_) else ?_) else if h3 : a0_3 = 0 then (if hp : ([a0_1,a0_2] : List Int).any (notIn l1) = true then ?_ else if k7 : a0_0 = 7 then (if hq : ([a0_1,a0_2] : List Int).any (notFresh l1) = true then ?_ else if hg : a0_1 > a0_2 then ?_ else ?_) else ?_) else ?_) else ?_
 obtain rfl : 0 = r:=by rw [if_pos hop,if_pos hn,if_pos ⟨ha,hb⟩,if_pos hr] at h;exact h
 clear h
 have HI:=Z_ ((impl_in_eq a0_0 1 7).trans (congrArg some (decide_eq_true hop)))
 have HN:=Z_ (show impl_namesOf.f 1 a0_0 = some (false,false,true) by rcases hn with rfl | rfl <;> simp [impl_namesOf.f,impl_namesOf.j0])
 have HP:=Z_ (show impl_Term_parts.f 1 a0_0 a0_1 a0_2 a0_3 = some ([] : List Int) by unfold impl_Term_parts.f;rw [HN.out];rfl)
 have HI2:=Z_ ((impl_in_eq a0_3 0 9999).trans (congrArg some (decide_eq_true (by omega))))
 have k6 : ¬ a0_0 = 6:=by omega
 have k7 : ¬ a0_0 = 7:=by omega
 obtain ⟨_,_,_⟩:=eqT_ ha
 obtain ⟨_,_,_⟩:=eqT_ hb
 obtain ⟨_,_,_⟩:=eqF_ k6
 obtain ⟨_,_,_⟩:=eqF_ k7
 have HANY:=Z_ (show ([] : List Int).any (notIn l1) = false from rfl)
 clear ha hb hn hop hr
 rotate_left
 obtain rfl : 3 = r:=by rw [if_pos hop,if_pos hn,if_pos ⟨ha,hb⟩,if_neg hr] at h;exact h
 clear h
 have HI:=Z_ ((impl_in_eq a0_0 1 7).trans (congrArg some (decide_eq_true hop)))
 have HN:=Z_ (show impl_namesOf.f 1 a0_0 = some (false,false,true) by rcases hn with rfl | rfl <;> simp [impl_namesOf.f,impl_namesOf.j0])
 have HI2:=Z_ ((impl_in_eq a0_3 0 9999).trans (congrArg some (decide_eq_false (by omega))))
 obtain ⟨_,_,_⟩:=eqT_ ha
 obtain ⟨_,_,_⟩:=eqT_ hb
 clear ha hb hn hop hr
 rotate_left
 obtain rfl : 1 = r:=by rw [if_pos hop,if_pos hn,if_neg (fun h => hb h.2)] at h;exact h
 clear h
 have HI:=Z_ ((impl_in_eq a0_0 1 7).trans (congrArg some (decide_eq_true hop)))
 have HN:=Z_ (show impl_namesOf.f 1 a0_0 = some (false,false,true) by rcases hn with rfl | rfl <;> simp [impl_namesOf.f,impl_namesOf.j0])
 obtain ⟨_,_,_⟩:=eqT_ ha
 obtain ⟨_,_,_⟩:=eqF_ hb
 clear hb hn hop
 rotate_left
 obtain rfl : 1 = r:=by rw [if_pos hop,if_pos hn,if_neg (fun h => ha h.1)] at h;exact h
 clear h
 have HI:=Z_ ((impl_in_eq a0_0 1 7).trans (congrArg some (decide_eq_true hop)))
 have HN:=Z_ (show impl_namesOf.f 1 a0_0 = some (false,false,true) by rcases hn with rfl | rfl <;> simp [impl_namesOf.f,impl_namesOf.j0])
 obtain ⟨_,_,_⟩:=eqF_ ha
 clear ha hn hop
 rotate_left
 obtain rfl : 3 = r:=by rw [if_pos hop,if_neg hn,if_pos k6,if_pos ⟨hb,h3⟩,if_pos hp] at h;exact h
 clear h
 have HI:=Z_ ((impl_in_eq a0_0 1 7).trans (congrArg some (decide_eq_true hop)))
 have HN:=Z_ (show impl_namesOf.f 1 a0_0 = some (true,false,false) by rw [k6];simp [impl_namesOf.f,impl_namesOf.j0])
 have HP:=Z_ (show impl_Term_parts.f 1 a0_0 a0_1 a0_2 a0_3 = some ([a0_1] : List Int) by unfold impl_Term_parts.f;rw [HN.out];rfl)
 have HI2:=Z_ ((impl_in_eq a0_3 0 9999).trans (congrArg some (decide_eq_true (by omega))))
 obtain ⟨_,_,_⟩:=eqT_ hb
 obtain ⟨_,_,_⟩:=eqT_ h3
 obtain ⟨_,_,_⟩:=eqT_ k6
 have HANY:=Z_ hp
 clear h3 hb hn hop hp k6
 rotate_left
 obtain rfl : 1 = r:=by rw [if_pos hop,if_neg hn,if_pos k6,if_pos ⟨hb,h3⟩,if_neg hp,if_pos hq] at h;exact h
 clear h
 have HI:=Z_ ((impl_in_eq a0_0 1 7).trans (congrArg some (decide_eq_true hop)))
 have HN:=Z_ (show impl_namesOf.f 1 a0_0 = some (true,false,false) by rw [k6];simp [impl_namesOf.f,impl_namesOf.j0])
 have HP:=Z_ (show impl_Term_parts.f 1 a0_0 a0_1 a0_2 a0_3 = some ([a0_1] : List Int) by unfold impl_Term_parts.f;rw [HN.out];rfl)
 have HI2:=Z_ ((impl_in_eq a0_3 0 9999).trans (congrArg some (decide_eq_true (by omega))))
 obtain ⟨_,_,_⟩:=eqT_ hb
 obtain ⟨_,_,_⟩:=eqT_ h3
 obtain ⟨_,_,_⟩:=eqT_ k6
 have HANY:=Z_ (Bool.eq_false_iff.mpr hp)
 have HIN:=Z_ (fault_in l1 _ HANY.out)
 have HANY2:=Z_ hq
 clear h3 hb hn hop hp hq k6
 rotate_left
 obtain rfl : 0 = r:=by rw [if_pos hop,if_neg hn,if_pos k6,if_pos ⟨hb,h3⟩,if_neg hp,if_neg hq] at h;exact h
 clear h
 have HI:=Z_ ((impl_in_eq a0_0 1 7).trans (congrArg some (decide_eq_true hop)))
 have HN:=Z_ (show impl_namesOf.f 1 a0_0 = some (true,false,false) by rw [k6];simp [impl_namesOf.f,impl_namesOf.j0])
 have HP:=Z_ (show impl_Term_parts.f 1 a0_0 a0_1 a0_2 a0_3 = some ([a0_1] : List Int) by unfold impl_Term_parts.f;rw [HN.out];rfl)
 have HI2:=Z_ ((impl_in_eq a0_3 0 9999).trans (congrArg some (decide_eq_true (by omega))))
 obtain ⟨_,_,_⟩:=eqT_ hb
 obtain ⟨_,_,_⟩:=eqT_ h3
 obtain ⟨_,_,_⟩:=eqT_ k6
 have k7 : ¬ a0_0 = 7:=by omega
 obtain ⟨_,_,_⟩:=eqF_ k7
 have HANY:=Z_ (Bool.eq_false_iff.mpr hp)
 have HIN:=Z_ (fault_in l1 _ HANY.out)
 have HANY2:=Z_ (Bool.eq_false_iff.mpr hq)
 clear h3 hb hn hop hp hq k6
 rotate_left
 obtain rfl : 1 = r:=by rw [if_pos hop,if_neg hn,if_pos k6,if_neg (fun h => h3 h.2)] at h;exact h
 clear h
 have HI:=Z_ ((impl_in_eq a0_0 1 7).trans (congrArg some (decide_eq_true hop)))
 have HN:=Z_ (show impl_namesOf.f 1 a0_0 = some (true,false,false) by rw [k6];simp [impl_namesOf.f,impl_namesOf.j0])
 obtain ⟨_,_,_⟩:=eqT_ hb
 obtain ⟨_,_,_⟩:=eqF_ h3
 clear h3 hn hop k6
 rotate_left
 obtain rfl : 1 = r:=by rw [if_pos hop,if_neg hn,if_pos k6,if_neg (fun h => hb h.1)] at h;exact h
 clear h
 have HI:=Z_ ((impl_in_eq a0_0 1 7).trans (congrArg some (decide_eq_true hop)))
 have HN:=Z_ (show impl_namesOf.f 1 a0_0 = some (true,false,false) by rw [k6];simp [impl_namesOf.f,impl_namesOf.j0])
 obtain ⟨_,_,_⟩:=eqF_ hb
 clear hb hn hop k6
 rotate_left
 obtain rfl : 3 = r:=by rw [if_pos hop,if_neg hn,if_neg k6,if_pos h3,if_pos hp] at h;exact h
 clear h
 have HI:=Z_ ((impl_in_eq a0_0 1 7).trans (congrArg some (decide_eq_true hop)))
 have HN:=Z_ (show impl_namesOf.f 1 a0_0 = some (true,true,false) by have h1 : ¬ a0_0 = 1:=fun e => hn (.inl e);have h2 : (a0_0 == 2) = false:=(by simpa using (fun e => hn (.inr e) : ¬ a0_0 = 2));simp [impl_namesOf.f,impl_namesOf.j0,h1,h2,k6])
 have HP:=Z_ (show impl_Term_parts.f 1 a0_0 a0_1 a0_2 a0_3 = some ([a0_1,a0_2] : List Int) by unfold impl_Term_parts.f;rw [HN.out];rfl)
 have HI2:=Z_ ((impl_in_eq a0_3 0 9999).trans (congrArg some (decide_eq_true (by omega))))
 obtain ⟨_,_,_⟩:=eqT_ h3
 have HANY:=Z_ hp
 clear h3 hn hop hp k6
 rotate_left
 obtain rfl : 1 = r:=by rw [if_pos hop,if_neg hn,if_neg k6,if_pos h3,if_neg hp,if_pos k7,if_pos (.inl hq)] at h;exact h
 clear h
 have HI:=Z_ ((impl_in_eq a0_0 1 7).trans (congrArg some (decide_eq_true hop)))
 have HN:=Z_ (show impl_namesOf.f 1 a0_0 = some (true,true,false) by have h1 : ¬ a0_0 = 1:=fun e => hn (.inl e);have h2 : (a0_0 == 2) = false:=(by simpa using (fun e => hn (.inr e) : ¬ a0_0 = 2));simp [impl_namesOf.f,impl_namesOf.j0,h1,h2,k6])
 have HP:=Z_ (show impl_Term_parts.f 1 a0_0 a0_1 a0_2 a0_3 = some ([a0_1,a0_2] : List Int) by unfold impl_Term_parts.f;rw [HN.out];rfl)
 have HI2:=Z_ ((impl_in_eq a0_3 0 9999).trans (congrArg some (decide_eq_true (by omega))))
 obtain ⟨_,_,_⟩:=eqT_ h3
 obtain ⟨_,_,_⟩:=eqF_ k6
 obtain ⟨_,_,_⟩:=eqT_ k7
 have HANY:=Z_ (Bool.eq_false_iff.mpr hp)
 have HIN:=Z_ (fault_in l1 _ HANY.out)
 have HANY2:=Z_ hq
 clear h3 hn hop hp hq k6 k7
 rotate_left
 obtain rfl : 1 = r:=by rw [if_pos hop,if_neg hn,if_neg k6,if_pos h3,if_neg hp,if_pos k7,if_pos (.inr hg)] at h;exact h
 clear h
 have HI:=Z_ ((impl_in_eq a0_0 1 7).trans (congrArg some (decide_eq_true hop)))
 have HN:=Z_ (show impl_namesOf.f 1 a0_0 = some (true,true,false) by have h1 : ¬ a0_0 = 1:=fun e => hn (.inl e);have h2 : (a0_0 == 2) = false:=(by simpa using (fun e => hn (.inr e) : ¬ a0_0 = 2));simp [impl_namesOf.f,impl_namesOf.j0,h1,h2,k6])
 have HP:=Z_ (show impl_Term_parts.f 1 a0_0 a0_1 a0_2 a0_3 = some ([a0_1,a0_2] : List Int) by unfold impl_Term_parts.f;rw [HN.out];rfl)
 have HI2:=Z_ ((impl_in_eq a0_3 0 9999).trans (congrArg some (decide_eq_true (by omega))))
 obtain ⟨_,_,_⟩:=eqT_ h3
 obtain ⟨_,_,_⟩:=eqF_ k6
 obtain ⟨_,_,_⟩:=eqT_ k7
 have HANY:=Z_ (Bool.eq_false_iff.mpr hp)
 have HIN:=Z_ (fault_in l1 _ HANY.out)
 have HANY2:=Z_ (Bool.eq_false_iff.mpr hq)
 have hg0 : decide (a0_1 > a0_2) = true:=decide_eq_true hg
 have hg1 : decide (a0_2 < a0_1) = true:=hg0
 clear h3 hg hn hop hp k6 k7
 rotate_left
 obtain rfl : 0 = r:=by rw [if_pos hop,if_neg hn,if_neg k6,if_pos h3,if_neg hp,if_pos k7,if_neg (fun h => h.elim hq hg)] at h;exact h
 clear h
 have HI:=Z_ ((impl_in_eq a0_0 1 7).trans (congrArg some (decide_eq_true hop)))
 have HN:=Z_ (show impl_namesOf.f 1 a0_0 = some (true,true,false) by have h1 : ¬ a0_0 = 1:=fun e => hn (.inl e);have h2 : (a0_0 == 2) = false:=(by simpa using (fun e => hn (.inr e) : ¬ a0_0 = 2));simp [impl_namesOf.f,impl_namesOf.j0,h1,h2,k6])
 have HP:=Z_ (show impl_Term_parts.f 1 a0_0 a0_1 a0_2 a0_3 = some ([a0_1,a0_2] : List Int) by unfold impl_Term_parts.f;rw [HN.out];rfl)
 have HI2:=Z_ ((impl_in_eq a0_3 0 9999).trans (congrArg some (decide_eq_true (by omega))))
 obtain ⟨_,_,_⟩:=eqT_ h3
 obtain ⟨_,_,_⟩:=eqF_ k6
 obtain ⟨_,_,_⟩:=eqT_ k7
 have HANY:=Z_ (Bool.eq_false_iff.mpr hp)
 have HIN:=Z_ (fault_in l1 _ HANY.out)
 have HANY2:=Z_ (Bool.eq_false_iff.mpr hq)
 have hg0 : decide (a0_1 > a0_2) = false:=decide_eq_false hg
 have hg1 : decide (a0_2 < a0_1) = false:=hg0
 clear h3 hg hn hop hp hq k6 k7
 rotate_left
 obtain rfl : 0 = r:=by rw [if_pos hop,if_neg hn,if_neg k6,if_pos h3,if_neg hp,if_neg k7] at h;exact h
 clear h
 have HI:=Z_ ((impl_in_eq a0_0 1 7).trans (congrArg some (decide_eq_true hop)))
 have HN:=Z_ (show impl_namesOf.f 1 a0_0 = some (true,true,false) by have h1 : ¬ a0_0 = 1:=fun e => hn (.inl e);have h2 : (a0_0 == 2) = false:=(by simpa using (fun e => hn (.inr e) : ¬ a0_0 = 2));simp [impl_namesOf.f,impl_namesOf.j0,h1,h2,k6])
 have HP:=Z_ (show impl_Term_parts.f 1 a0_0 a0_1 a0_2 a0_3 = some ([a0_1,a0_2] : List Int) by unfold impl_Term_parts.f;rw [HN.out];rfl)
 have HI2:=Z_ ((impl_in_eq a0_3 0 9999).trans (congrArg some (decide_eq_true (by omega))))
 obtain ⟨_,_,_⟩:=eqT_ h3
 obtain ⟨_,_,_⟩:=eqF_ k6
 obtain ⟨_,_,_⟩:=eqF_ k7
 have HANY:=Z_ (Bool.eq_false_iff.mpr hp)
 clear h3 hn hop hp k6 k7
 rotate_left
 obtain rfl : 1 = r:=by rw [if_pos hop,if_neg hn,if_neg k6,if_neg h3] at h;exact h
 clear h
 have HI:=Z_ ((impl_in_eq a0_0 1 7).trans (congrArg some (decide_eq_true hop)))
 have HN:=Z_ (show impl_namesOf.f 1 a0_0 = some (true,true,false) by have h1 : ¬ a0_0 = 1:=fun e => hn (.inl e);have h2 : (a0_0 == 2) = false:=(by simpa using (fun e => hn (.inr e) : ¬ a0_0 = 2));simp [impl_namesOf.f,impl_namesOf.j0,h1,h2,k6])
 obtain ⟨_,_,_⟩:=eqF_ h3
 clear h3 hn hop k6
 rotate_left
 obtain rfl : 5 = r:=by rw [if_neg hop] at h;exact h
 clear h
 have HI:=Z_ ((impl_in_eq a0_0 1 7).trans (congrArg some (decide_eq_false hop)))
 clear hop
 rotate_left
 all_goals
   go_enter Tryz.func80,Tryz.ntmps80
   go_wp2_with (first | ((with_reducible refine gD_ 2 rfl ?_);refine bx_ #[.int .i64 a0_0,.int .i64 a0_1,.int .i64 a0_2,.int .i64 a0_3] 83 ?_;intro g2 hg w2 hbox hb;replace HB:=Z_ (lP_ HB.out hb);have a0:=Z_ hbox;clear hb hbox hg) | ((with_reducible refine gD_ 3 rfl ?_);refine bx_ #[.slice A1 l1.length c1] 30 ?_;intro g3 hg w3 hbox hb;replace HB:=Z_ (lP_ HB.out hb);replace a0:=Z_ (bB_ a0.out hb);have a1:=Z_ hbox;clear hb hbox hg;obtain ⟨_,_,_,_⟩:=tc4_ a0.out) | (go_at_call 61;(with_reducible refine (impl_in.calls a0_0 1 7 _ _ HI.out).mono ?_);rintro e w4 ⟨rfl,hd⟩;have hb:=hd.below;clear hd;replace HB:=Z_ (lP_ HB.out hb);replace a0:=Z_ (bB_ a0.out hb);replace a1:=Z_ (bB_ a1.out hb);clear hb;obtain ⟨_,_,_,_⟩:=tc4_ a0.out) | (go_at_call 97;(with_reducible refine (impl_namesOf.calls 1 a0_0 _ _ _ _ HN.out).mono ?_);rintro e w5 ⟨rfl,hb⟩;replace HB:=Z_ (lP_ HB.out hb);replace a0:=Z_ (bB_ a0.out hb);replace a1:=Z_ (bB_ a1.out hb);clear hb) | ((with_reducible refine gD_ 5 rfl ?_);refine bx_ #[.bool false,.bool false,.bool false] 144 ?_;intro g5 hg w6 hbox hb;have a3:=Z_ (show w.heap.size ≤ g5 by rw [hg];exact below_size HB.out);have NB25:=Z_ (show g2 ≠ g5 by rw [hg];exact Nat.ne_of_lt (blk_lt a0.out));have NB35:=Z_ (show g3 ≠ g5 by rw [hg];exact Nat.ne_of_lt (blk_lt a1.out));replace HB:=Z_ (lP_ HB.out hb);replace a0:=Z_ (bB_ a0.out hb);replace a1:=Z_ (bB_ a1.out hb);clear hb;have a2:=Z_ hbox;clear hbox hg;have hnb_:=NB25.out;have hnc_:=NB25.out.symm;obtain ⟨_,_,_,_⟩:=tc4_ a0.out;have p0_ : w6.cell? ⟨g5,0,none⟩ = some (.bool false):=(blk_cell a2.out 0).trans rfl;have p1_ : w6.cell? ⟨g5,1,none⟩ = some (.bool false):=(blk_cell a2.out 1).trans rfl;have p2_ : w6.cell? ⟨g5,2,none⟩ = some (.bool false):=(blk_cell a2.out 2).trans rfl;have f0_:=blk_frozen a2.out 0;have f1_:=blk_frozen a2.out 1;have f2_:=blk_frozen a2.out 2) | (go_at_call 61;(with_reducible refine (impl_in.calls a0_3 0 9999 _ _ HI2.out).mono ?_);rintro e w7 ⟨rfl,hd⟩;have hb:=hd.below;clear hd;replace HB:=Z_ (lP_ Lb_ hb);replace a0:=Z_ (bB_ (o:=.cells #[.int .i64 a0_0,.int .i64 a0_1,.int .i64 a0_2,.int .i64 a0_3] 83 (0,0)) (by repeat (first | exact a0.out | refine bF_ ?_ NB25.out _)) hb);replace a1:=Z_ (bB_ (o:=.cells #[.slice A1 l1.length c1] 30 (0,0)) (by repeat (first | exact a1.out | refine bF_ ?_ NB35.out _)) hb);clear hb;obtain ⟨_,_,_,_⟩:=tc4_ a0.out) | (go_at_call 99;(with_reducible refine (impl_Term_parts.calls 1 a0_0 a0_1 a0_2 a0_3 _ _ HP.out).mono ?_);rintro e w8 ⟨v8,rfl,ho,hb⟩;have HO:=Z_ ho;clear ho;obtain ⟨Ao,co,eo⟩:=Kd.R_slice HO.out;subst eo;replace HB:=Z_ (lP_ Lb_ hb);replace a0:=Z_ (bB_ (o:=.cells #[.int .i64 a0_0,.int .i64 a0_1,.int .i64 a0_2,.int .i64 a0_3] 83 (0,0)) (by repeat (first | exact a0.out | refine bF_ ?_ NB25.out _)) hb);replace a1:=Z_ (bB_ (o:=.cells #[.slice A1 l1.length c1] 30 (0,0)) (by repeat (first | exact a1.out | refine bF_ ?_ NB35.out _)) hb);clear hb;obtain ⟨_,_,_,_⟩:=tc4_ a0.out) | (go_at_call 98;(with_reducible refine gF_ (.func 100) ?_);refine (slices_ContainsFunc_int64_int64.calls 100 #[.pointer (some ⟨g3,0,none⟩)] (notIn l1) Ao co _ _ (enters_of Tryz.func100 (by kernel_rfl) rfl) (fun W x _ hB => (impl_fault_1.calls A1 l1.length c1 g3 x HL.out W ((hB.cell (p:=⟨g3,0,none⟩) (blk_lt a1.out)).trans ((blk_cell a1.out 0).trans rfl))).mono (fun _ _ h => ⟨h.1,lP_ hB h.2⟩)) (Kd.R_reads' HO.out).2.2 (by simp)).mono ?_;rintro e w9 ⟨he,hb⟩;rw [HANY.out] at he;subst he;replace HB:=Z_ (lP_ Lb_ hb);replace a0:=Z_ (bB_ (o:=.cells #[.int .i64 a0_0,.int .i64 a0_1,.int .i64 a0_2,.int .i64 a0_3] 83 (0,0)) (by repeat (first | exact a0.out | refine bF_ ?_ NB25.out _)) hb);replace a1:=Z_ (bB_ (o:=.cells #[.slice A1 l1.length c1] 30 (0,0)) (by repeat (first | exact a1.out | refine bF_ ?_ NB35.out _)) hb);clear hb;obtain ⟨_,_,_,_⟩:=tc4_ a0.out) | (go_at_call 98;(with_reducible refine gF_ (.func 101) ?_);refine (slices_ContainsFunc_int64_int64.calls 101 #[.pointer (some ⟨g3,0,none⟩)] (notFresh l1) Ao co _ _ (enters_of Tryz.func101 (by kernel_rfl) rfl) (fun W x hx hB => (impl_fault_2.calls A1 l1 c1 g3 x W ((hB.cell (p:=⟨g3,0,none⟩) (blk_lt a1.out)).trans ((blk_cell a1.out 0).trans rfl)) (Kd.C_below HR.out (lP_ HB.out hB)) (HIN.out x hx).1 (HIN.out x hx).2).mono (fun _ _ h => ⟨h.1,lP_ hB h.2⟩)) (Kd.R_reads' HO.out).2.2 (by simp)).mono ?_;rintro e w10 ⟨he,hb⟩;rw [HANY2.out] at he;subst he;replace HB:=Z_ (lP_ Lb_ hb);replace a0:=Z_ (bB_ (o:=.cells #[.int .i64 a0_0,.int .i64 a0_1,.int .i64 a0_2,.int .i64 a0_3] 83 (0,0)) (by repeat (first | exact a0.out | refine bF_ ?_ NB25.out _)) hb);replace a1:=Z_ (bB_ (o:=.cells #[.slice A1 l1.length c1] 30 (0,0)) (by repeat (first | exact a1.out | refine bF_ ?_ NB35.out _)) hb);clear hb;obtain ⟨_,_,_,_⟩:=tc4_ a0.out))
   go_ret
   exact ⟨rfl,Lb_⟩
end Go.Proofs.YtcafikgabidphaaGreat.G
namespace Go.Proofs.YtcafikgabidphaaGreat.G
open Go.RowKit Go.Proofs.YtcafikgabidphaaGreatW.PrintWords Go.Proofs.YtcafikgabidphaaGreatW.PrintLast Go.Proofs.YtcafikgabidphaaGreatW.PrintMore
attribute [local go_sem] max2_int min2_int max_two min_two max_three min_three max_four min_four   -- for this text's walks alone
set_option linter.unusedVariables false
set_option linter.unusedSimpArgs false
open Go.Maps (Keyed IsMap isMap_empty atKey_put_same atKey_put_other)
theorem term_laid : laidOutB Tryz.prog = true:=by kernel_rfl
theorem term_row : 83 < Tryz.prog.types.size:=of_decide_eq_true (by kernel_rfl)
theorem term_wide : (match Tryz.prog.underlying 83 with | some (.array _ _) | some (.struct _) => true | _ => false) = true:=by rw [Tryz.underlying83]
set_option maxRecDepth 100000 in
theorem term_keyed : Keyed Tryz.prog 83:=Keyed.of_law (deep_law_laid term_laid (m:=2) (by omega) term_row (by kernel_rfl) term_wide)
def wf4 (x : S83) : Bool:=(Lit.int .i64 x.f0).wf && (Lit.int .i64 x.f1).wf && (Lit.int .i64 x.f2).wf && (Lit.int .i64 x.f3).wf
theorem term_kt : Tryz.prog.keyType 83 = true:=by kernel_rfl
theorem term_c39 : Tryz.prog.cellsOf 83 = 4:=by kernel_rfl
theorem term_c2 : Tryz.prog.cellsOf 2 = 1:=by kernel_rfl
theorem term_sz : ∃ m,Tryz.prog.types.size = m + 1:=⟨Tryz.prog.types.size - 1,by have:=term_row;omega⟩
theorem keyOf_term (x : S83) (h : wf4 x = true) : ∃ kl,keyOf Tryz.prog 83 (.agg #[.int .i64 x.f0,.int .i64 x.f1,.int .i64 x.f2,.int .i64 x.f3]) = some kl:=by
  unfold wf4 at h
  simp only [Bool.and_eq_true] at h
  obtain ⟨⟨⟨h0,h1⟩,h2⟩,h3⟩:=h
  obtain ⟨m,hm⟩:=term_sz
  have hf : (Value.agg #[.int .i64 x.f0,.int .i64 x.f1,.int .i64 x.f2,.int .i64 x.f3]).formed Tryz.prog 83 = true:=by
    simp [Value.formed,Tryz.underlying83,term_c39]
  unfold keyOf
  rw [Tryz.underlying83]
  simp only [term_kt,hf,Bool.and_self,if_true,hm]
  simp [Program.keyLits,Tryz.underlying83,Tryz.underlying2,term_c39,term_c2,Value.cells,h0,h1,h2,h3]
theorem plainElem_bool_inv {H : Type} {P : Program} {e : TypeId} (he : P.underlying e = some .bool) {v : Value} {z : DataW H × List MemPlace} (h : plainElem P e v = some z) : ∃ a,v = .bool a ∧ z = (.lit (.bool a),[]):=by
  unfold plainElem at h
  rw [he] at h
  cases v <;> simp at h
  exact ⟨_,rfl,h.symm⟩
theorem wpList_lookup_own_bool {H : Type} {P : Program} (w : World) {ops : Array Oper} {rest : List Oper} {o : Oper} {a : Act} {Q : Exit → Act → World → Prop}
    (hg : o.guard = none) (m x : Operand) (t : TypeId) (hop : o.op = Op.lookup t m x false)
    (k e : TypeId) (K : Keyed P k) (ht : P.underlying t = some (.map k e)) (he : P.underlying e = some .bool) (hz : (zeroValue e).run P w = .ok (.bool false) w) (b n : Nat) (D : DataW H)
    (hm : a.eval m = .map (some b)) (hown : w.ownsMap P k (plainElem P e) b n D) (key : Value) (kl : Lit) (hx : a.eval x = key) (hkey : keyOf P k key = some kl)
    (hK : ∀ c : Bool,D.atKey kl (.lit (.bool false)) = .lit (.bool c) → wpList P ops Q rest (a.put o.dst (.bool c)) w) :
    wpList P ops Q (o :: rest) a w:=by
  refine wpList_plain hg fun K' hK' => ?_
  obtain ⟨v,ps,hrun,hv⟩:=hown.lookup K ht hz (plainElem_bool he false) hkey
  obtain ⟨c,rfl,hc⟩:=plainElem_bool_inv he hv
  simp only [Prod.mk.injEq] at hc
  unfold Oper.wp
  simp [execOp,hop,hm,hx,hrun,Result.andThen]
  exact hK' _ _ (hK c hc.1)
theorem own_map_below {w w' : World} {P : Program} {k e : TypeId} {b n : Nat} {D : DataW Unit} (h : w.ownsMap P k (plainElem P e) b n D) (hb : Below w.heap.size w w') : w'.ownsMap P k (plainElem P e) b n D:=h.kept (grown_of_below hb none) (by simp)
theorem own_map_set {w : World} {P : Program} {k e : TypeId} {b n : Nat} {D : DataW Unit} (h : w.ownsMap P k (plainElem P e) b n D) {g j : Nat} {u : Value} (hne : b ≠ g) : (w.setCell ⟨g,j,none⟩ u).ownsMap P k (plainElem P e) b n D:=by
  obtain ⟨es,clock,hb,r⟩:=h
  exact ⟨es,clock,(Below.heap_setCell w ⟨g,j,none⟩ u b hne).trans hb,r⟩
def eq4 (y x : S83) : Bool:=y.f0 == x.f0 && (y.f1 == x.f1 && (y.f2 == x.f2 && (y.f3 == x.f3)))
theorem eq4_iff {y x : S83} : eq4 y x = true ↔ y = x:=by
  cases x;cases y;simp [eq4]
def tv (x : S83) : Value:=.agg #[.int .i64 x.f0,.int .i64 x.f1,.int .i64 x.f2,.int .i64 x.f3]
theorem tv_inj {x y : S83} (h : tv x = tv y) : x = y:=by
  unfold tv at h
  injection h with h
  have h:=congrArg Array.toList h
  simp at h
  obtain ⟨h0,h1,h2,h3⟩:=h
  cases x;cases y
  simp_all
def Seen (D : DataW Unit) (pre : List S83) : Prop:=∀ (y : S83) (kl : Lit),keyOf Tryz.prog 83 (tv y) = some kl → D.atKey kl (.lit (.bool false)) = .lit (.bool (pre.any (eq4 y)))
theorem seen_nil : Seen (.map []) []:=fun y kl _ => rfl
theorem seen_put {D : DataW Unit} {pre : List S83} {x : S83} {kl : Lit} (h : Seen D pre) (hD : IsMap D) (hx : keyOf Tryz.prog 83 (tv x) = some kl) : Seen (D.put kl (.lit (.bool true))) (pre ++ [x]):=by
  intro y kl' hy
  rw [List.any_append]
  by_cases e : kl' = kl
  · subst e
    have : y = x:=tv_inj (term_keyed.inj hy hx)
    subst this
    rw [atKey_put_same hD (term_keyed.key hx)]
    have : [y].any (eq4 y) = true:=by simp [eq4]
    rw [this,Bool.or_true]
  · rw [atKey_put_other e,h y kl' hy]
    have : [x].any (eq4 y) = false:=by
      simp only [List.any_cons,List.any_nil,Bool.or_false]
      cases hq : eq4 y x
      · rfl
      · exact absurd (by rw [eq4_iff.1 hq,hx] at hy;exact (Option.some.inj hy).symm) e
    rw [this,Bool.or_false]
def TFs : List S83 → List S83 → Int
  | _,[] => 0
  | pre,x :: r => if tfault x.f0 x.f1 x.f2 x.f3 pre = 0 then (if pre.any (eq4 x) = true then 7 else TFs (pre ++ [x]) r) else tfault x.f0 x.f1 x.f2 x.f3 pre
def impl_TermsFault.f (l0 : List S83) : Option Int:=if l0.all wf4 = true then some (if 400 < l0.length then 2 else TFs [] l0) else none
theorem C_take39 {w W : World} {A : Option Addr} {l : List S83} (h : Kd.C k83 w A l.length l) (hb : Below w.heap.size w W) (k : Nat) : Kd.C k83 W A (l.take k).length (l.take k):=by
  obtain ⟨h1,h2,h3⟩:=Kd.C_below h hb
  refine ⟨rfl,by rw [List.length_take];omega,fun hp => ?_⟩
  obtain ⟨ad,e,hh⟩:=h3 (by rw [List.length_take] at hp;omega)
  refine ⟨ad,e,fun j p hj => hh j p ?_⟩
  rw [List.getElem?_take] at hj
  split at hj
  · exact hj
  · cases hj
set_option maxHeartbeats 8000000 in
set_option maxRecDepth 100000 in
theorem impl_TermsFault.calls (A0 : Option Addr) (c0 : Nat) (l0 : List S83) (r : Int) (w : World) (hr0 : Kd.C k83 w A0 l0.length l0) (hc0 : l0.length ≤ c0) (h : impl_TermsFault.f l0 = some r) :
    Calls Tryz.prog 53 #[.slice A0 l0.length c0] w fun e w' => e = .returned (.int .i64 r) ∧ Below w.heap.size w w':=by
 unfold impl_TermsFault.f at h
 by_cases hwf : l0.all wf4 = true
 ·rw [if_pos hwf] at h
  obtain rfl:=Option.some.inj h
  clear h
  have HW:=Z_ hwf
  have HR:=Z_ hr0
  have HC:=Z_ hc0
  have HB:=Z_ (Below.refl w.heap.size w)
  clear hr0 hc0 hwf
  by_cases hbig : 400 < l0.length
  ·rw [if_pos hbig]
   have hb0 : decide ((l0.length : Int) > 400) = true:=decide_eq_true (by omega)
   have hb1 : decide ((400 : Int) < (l0.length : Int)) = true:=decide_eq_true (by omega)
   go_enter Tryz.func53,Tryz.ntmps53
   go_wp2
   go_ret
   exact ⟨rfl,HB.out⟩
  ·rw [if_neg hbig]
   have hb0 : decide ((l0.length : Int) > 400) = false:=decide_eq_false (by omega)
   have hb1 : decide ((400 : Int) < (l0.length : Int)) = false:=decide_eq_false (by omega)
   have hl : l0.length ≤ 400:=by omega
   have hmm:=@run_makeMap
   go_enter Tryz.func53,Tryz.ntmps53
   go_wp2_with fail
   have HO : Aside0 ((w.alloc (.map #[] 0)).ownsMap Tryz.prog 83 (plainElem (H:=Unit) Tryz.prog 4) w.heap.size 0 (.map [])):=Z_ (World.ownsMap_made w _ _ _)
   replace HB:=Z_ (lA1_ (o:=.map #[] 0) HB.out)
   obtain ⟨B,hB⟩ : ∃ B,B = w.heap.size:=⟨_,rfl⟩
   have GB : Aside0 (w.heap.size ≤ B):=⟨by omega⟩
   rw [← hB] at HO ⊢
   clear hB
   go_loopg [13] l0.length (fun gg s13 wr => ∃ (kk : Nat) (D : DataW Unit),kk ≤ l0.length ∧ l0.length - kk ≤ gg ∧ s13 = .int .i64 kk ∧ Aside0 (TFs (l0.take kk) (l0.drop kk) = TFs [] l0) ∧ Aside0 (wr.ownsMap Tryz.prog 83 (plainElem Tryz.prog 4) B kk D) ∧ Aside0 (IsMap D) ∧ Aside0 (Seen D (l0.take kk)) ∧ Aside0 (Below w.heap.size w wr))
   case atStart => exact ⟨0,.map [],Nat.zero_le _,by omega,rfl,⟨rfl⟩,HO,⟨isMap_empty⟩,⟨seen_nil⟩,HB⟩
   case round =>
    clear HO HB
    obtain ⟨kk,D,hkn,hgg,rfl,HT,HO,HD,HS,HB⟩:=hrel
    by_cases hlt : kk < l0.length
    ·have hltz : (kk : Int) < (l0.length : Int):=by omega
     have hltd : decide ((kk : Int) < (l0.length : Int)) = true:=decide_eq_true hltz
     obtain ⟨ad,e,hx0,hx1,hx2,hx3⟩:=at_T83 (Kd.C_below HR.out HB.out) (kk : Int) (by omega) (by omega)
     rw [Int.toNat_natCast] at hx0 hx1 hx2 hx3
     subst e
     have hm : rd_T83 l0 (kk : Int) = l0[kk]:=by simp [rd_T83,List.getD,List.getElem?_eq_getElem hlt]
     have htk : l0.take (kk + 1) = l0.take kk ++ [rd_T83 l0 (kk : Int)]:=by rw [hm,List.take_succ_eq_append_getElem hlt]
     have hdr : l0.drop kk = rd_T83 l0 (kk : Int) :: l0.drop (kk + 1):=by rw [hm,List.drop_eq_getElem_cons hlt]
     have hxw : wf4 (rd_T83 l0 (kk : Int)) = true:=by rw [hm];exact List.all_eq_true.1 HW.out _ (List.getElem_mem hlt)
     have ht:=HT.out
     rw [hdr] at ht
     simp only [TFs] at ht
     have HTK:=Z_ htk
     clear hm htk hdr HT
     generalize rd_T83 l0 (kk : Int) = x at hx0 hx1 hx2 hx3 hxw ht HTK
     obtain ⟨kl,hkl⟩:=keyOf_term x hxw
     have HK:=Z_ (show keyOf Tryz.prog 83 (tv x) = some kl from hkl)
     clear hkl hxw
     obtain ⟨c,hc⟩ : ∃ c,c = tfault x.f0 x.f1 x.f2 x.f3 (l0.take kk):=⟨_,rfl⟩
     have HF:=Z_ (show impl_Term_fault.f x.f0 x.f1 x.f2 x.f3 (l0.take kk) = some c by rw [hc];rfl)
     rw [← hc] at ht
     clear hc
     have hkc : kk ≤ c0:=by have:=HC.out;omega
     obtain ⟨y,hy⟩ : ∃ y,y = l0.take kk:=⟨_,rfl⟩
     have hyl : y.length = ((kk : Nat) : Int).toNat:=by rw [hy,List.length_take];omega
     have hCy:=C_take39 HR.out (Below.refl _ w) kk
     rw [← hy] at HS HTK HF ht hCy
     have HCY:=Z_ hCy
     have HY:=Z_ hyl
     obtain ⟨i0,hi0,_,hsz0,_⟩:=info_parts info83
     have hcut:=cut_to (P:=Tryz.prog) 30 83 .i64 Tryz.underlying30 hi0 (some ad) l0.length c0 (kk : Int) (by omega) (by omega) HC.out
     rw [← hyl] at hcut
     clear hi0 hsz0 hCy
     have HYE:=Z_ hy
     clear hy hyl
     go_wp2_with (first | ((with_reducible refine gD_ 5 rfl ?_);refine bx_ #[.int .i64 0,.int .i64 0,.int .i64 0,.int .i64 0] 83 ?_;intro g5 hg w3 hbox hb;have n0_:=Z_ (lP_ HB.out hb);have n1_:=Z_ hbox;have n2_:=Z_ (show w.heap.size ≤ g5 by rw [hg];exact below_size HB.out);have n3_:=Z_ (show B ≠ g5 by rw [hg];exact Nat.ne_of_lt HO.out.lt);have n4_:=Z_ (own_map_below HO.out hb);replace hx0:=(hb.cell (World.block_lt_of_cell? wr _ hx0)).trans hx0;replace hx1:=(hb.cell (World.block_lt_of_cell? wr _ hx1)).trans hx1;replace hx2:=(hb.cell (World.block_lt_of_cell? wr _ hx2)).trans hx2;replace hx3:=(hb.cell (World.block_lt_of_cell? wr _ hx3)).trans hx3;clear HB HO;have HB:=n0_;have a0:=n1_;have a1:=n2_;have NE5:=n3_;have HO:=n4_;clear n0_ n1_ n2_ n3_ n4_ hb hbox hg;have p0_ : w3.cell? ⟨g5,0,none⟩ = some (.int .i64 0):=(blk_cell a0.out 0).trans rfl;have p1_ : w3.cell? ⟨g5,1,none⟩ = some (.int .i64 0):=(blk_cell a0.out 1).trans rfl;have p2_ : w3.cell? ⟨g5,2,none⟩ = some (.int .i64 0):=(blk_cell a0.out 2).trans rfl;have p3_ : w3.cell? ⟨g5,3,none⟩ = some (.int .i64 0):=(blk_cell a0.out 3).trans rfl;have f0_:=blk_frozen a0.out 0;have f1_:=blk_frozen a0.out 1;have f2_:=blk_frozen a0.out 2;have f3_:=blk_frozen a0.out 3))
     have n0_:=Z_ (blk_put (blk_put (blk_put (blk_put a0.out 0 (.int .i64 x.f0) rfl) 1 (.int .i64 x.f1) rfl) 2 (.int .i64 x.f2) rfl) 3 (.int .i64 x.f3) rfl)
     have n1_:=Z_ (own_map_set (own_map_set (own_map_set (own_map_set HO.out NE5.out (j:=0) (u:=.int .i64 x.f0)) NE5.out (j:=1) (u:=.int .i64 x.f1)) NE5.out (j:=2) (u:=.int .i64 x.f2)) NE5.out (j:=3) (u:=.int .i64 x.f3))
     have n2_:=Z_ (lS1_ (j:=3) (v:=.int .i64 x.f3) (lS1_ (j:=2) (v:=.int .i64 x.f2) (lS1_ (j:=1) (v:=.int .i64 x.f1) (lS1_ (j:=0) (v:=.int .i64 x.f0) HB.out a1.out) a1.out) a1.out) a1.out)
     clear a0 HO HB hx0 hx1 hx2 hx3 p0_ p1_ p2_ p3_ f0_ f1_ f2_ f3_
     have a0:=n0_;have HO:=n1_;have HB:=n2_
     clear n0_ n1_ n2_
     generalize (w3.setCell ⟨g5,0,none⟩ (.int .i64 x.f0) |>.setCell ⟨g5,1,none⟩ (.int .i64 x.f1) |>.setCell ⟨g5,2,none⟩ (.int .i64 x.f2) |>.setCell ⟨g5,3,none⟩ (.int .i64 x.f3)) = w4 at a0 HO HB ⊢
     have n0_:=Z_ (bD_ a0.out)
     have n1_:=Z_ (lD_ HB.out)
     have n2_:=Z_ (World.ownsMap.drew HO.out)
     clear a0 HB HO
     have a0:=n0_;have HB:=n1_;have HO:=n2_
     clear n0_ n1_ n2_
     refine start_ (n:=6) (S:=fun w' => w'.cell? ⟨g5,0,none⟩ = some (.int .i64 x.f0) ∧ w'.cell? ⟨g5,1,none⟩ = some (.int .i64 x.f1) ∧ w'.cell? ⟨g5,2,none⟩ = some (.int .i64 x.f2) ∧ w'.cell? ⟨g5,3,none⟩ = some (.int .i64 x.f3)) (ds:=[]) (Bt 6 0) (by kernel_rfl) rfl rfl ⟨(blk_cell a0.out 0).trans rfl,(blk_cell a0.out 1).trans rfl,(blk_cell a0.out 2).trans rfl,(blk_cell a0.out 3).trans rfl⟩ (fun hHeld => ?_)
     generalize w4.drew = w5 at a0 HB HO hHeld ⊢
     refine ta_ 0 (some 18) (Bt 6 1) (by kernel_rfl) hHeld ?_
     refine pu_ 1 (some 19) (Bt 6 3) (by kernel_rfl) ?_
     refine pu_ 2 (some 20) (Bt 6 7) (by kernel_rfl) ?_
     refine pu_ 3 (some 21) (Bt 6 15) (by kernel_rfl) ?_
     refine one_ (i:=4) (N:=some 22) (Bt 6 31) rfl rfl (by kernel_rfl) (by decide) (fun K hK => ?_)
     refine goes_ Tryz.func80 (by kernel_rfl) rfl #[.agg #[.int .i64 x.f0,.int .i64 x.f1,.int .i64 x.f2,.int .i64 x.f3],.slice (some ad) y.length c0] (by rfl) rfl rfl (by (try simp only [List.map_toArray,List.map_cons,List.map_nil]);first | done | rfl) ?_
     with_reducible refine (impl_Term_fault.calls x.f0 x.f1 x.f2 x.f3 (some ad) c0 y c _ (Kd.C_below HCY.out HB.out) (by have:=HY.out;omega) HF.out).mono ?_
     rintro e w6 ⟨rfl,hb⟩
     refine ⟨_,rfl,?_⟩
     have n0_:=Z_ (bB_ a0.out hb)
     have n1_:=Z_ (lP_ HB.out hb)
     have n2_:=Z_ (own_map_below HO.out hb)
     clear a0 HB HO hb
     have a0:=n0_;have HB:=n1_;have HO:=n2_
     clear n0_ n1_ n2_
     refine hK.out _ _ ⟨(blk_cell a0.out 0).trans rfl,(blk_cell a0.out 1).trans rfl,(blk_cell a0.out 2).trans rfl,(blk_cell a0.out 3).trans rfl⟩ (fun hHeld => ?_)
     clear hK K
     refine norm_ (a':=?_) ?_ ?_
     rotate_left
     ·show Act.put _ (some 22) _ = _
      simp only [Act.put,lA_,lZ_,lS_,i64_w,i32_w]
      rfl
     refine pu_ 5 (some 6) (Bt 6 63) (by kernel_rfl) ?_
     refine done_ (by kernel_rfl) ?_
     have p0_ : w6.cell? ⟨g5,0,none⟩ = some (.int .i64 x.f0):=(blk_cell a0.out 0).trans rfl;have p1_ : w6.cell? ⟨g5,1,none⟩ = some (.int .i64 x.f1):=(blk_cell a0.out 1).trans rfl;have p2_ : w6.cell? ⟨g5,2,none⟩ = some (.int .i64 x.f2):=(blk_cell a0.out 2).trans rfl;have p3_ : w6.cell? ⟨g5,3,none⟩ = some (.int .i64 x.f3):=(blk_cell a0.out 3).trans rfl
     clear hcut
     by_cases hc0 : c = 0
     ·have hc1 : (c != 0) = false:=by simpa using hc0
      have hc2 : (c == 0) = true:=by simpa using hc0
      rw [if_pos hc0] at ht
      cases hq : y.any (eq4 x) with
      | true =>
       rw [hq,if_pos rfl] at ht
       go_wp2_with (first | (at_lookup;refine wpList_lookup_own_bool (H:=Unit) _ rfl (.tmp 26) (.tmp 27) 117 rfl 83 4 term_keyed Tryz.underlying117 Tryz.underlying4 rfl B kk D rfl HO.out _ kl rfl HK.out ?_;intro c1 hat;have hc3 : c1 = y.any (eq4 x):=(by have:=(HS.out x kl HK.out).symm.trans hat;injection this with this;injection this with this;exact this.symm);rw [hq] at hc3;subst hc3;clear hat))
       go_ret
       exact ⟨by rw [← ht];rfl,HB.out⟩
      | false =>
       rw [hq,if_neg (by decide)] at ht
       go_wp2_with (first | (at_lookup;refine wpList_lookup_own_bool (H:=Unit) _ rfl (.tmp 26) (.tmp 27) 117 rfl 83 4 term_keyed Tryz.underlying117 Tryz.underlying4 rfl B kk D rfl HO.out _ kl rfl HK.out ?_;intro c1 hat;have hc3 : c1 = y.any (eq4 x):=(by have:=(HS.out x kl HK.out).symm.trans hat;injection this with this;injection this with this;exact this.symm);rw [hq] at hc3;subst hc3;clear hat) | (at_mapUpdate;refine wpList_mapUpdate_own (H:=Unit) _ rfl (.tmp 29) (.tmp 30) (.const (.bool true)) 117 rfl 83 4 term_keyed Tryz.underlying117 (plainElem Tryz.prog 4) B kk D rfl HO.out (by show kk < 9223372036854775807;omega) _ _ kl rfl rfl HK.out (.lit (.bool true)) [] (plainElem_bool Tryz.underlying4 true) ?_;intro w7 ho7 hg7))
       go_roundg (l0.length - (kk + 1))
       case measure => omega
       case rel =>
        refine ⟨kk + 1,D.put kl (.lit (.bool true)),by omega,by omega,by go_num,⟨by rw [HTK.out];exact ht⟩,⟨ho7⟩,⟨HD.out.put _ _⟩,⟨by rw [HTK.out];exact seen_put HS.out HD.out HK.out⟩,⟨pw_below_grown HB.out (some B) (below_size HB.out) hg7 (fun k hk => by injection hk with hk;rw [← hk];exact GB.out)⟩⟩
     ·have hc1 : (c != 0) = true:=by simpa using hc0
      have hc2 : (c == 0) = false:=by simpa using hc0
      rw [if_neg hc0] at ht
      go_wp2_with fail
      go_ret
      exact ⟨by rw [ht];rfl,HB.out⟩
    ·have hltd : decide ((kk : Int) < (l0.length : Int)) = false:=decide_eq_false (by omega)
     obtain rfl : kk = l0.length:=by omega
     have ht:=HT.out
     rw [List.drop_length] at ht
     go_wp2_with fail
     go_ret
     exact ⟨by rw [← ht];rfl,HB.out⟩
 ·rw [if_neg hwf] at h;cases h
end Go.Proofs.YtcafikgabidphaaGreat.G
namespace Go.Proofs.YtcafikgabidphaaGreat.G
open Go.RowKit Go.Proofs.YtcafikgabidphaaGreatW.PrintWords Go.Proofs.YtcafikgabidphaaGreatW.PrintLast Go.Proofs.YtcafikgabidphaaGreatW.PrintMore
attribute [local go_sem] max2_int min2_int max_two min_two max_three min_three max_four min_four   -- for this text's walks alone
set_option linter.unusedVariables false
set_option linter.unusedSimpArgs false
def impl_gatesOk.f (a0 : Int) : Option (Bool):=(impl_in.f a0 2 4).bind fun t359 => (some t359)
set_option maxHeartbeats 8000000 in
set_option maxRecDepth 100000 in
theorem impl_gatesOk.calls (a0 : Int) (r : Bool) (w : World) (h : impl_gatesOk.f a0 = some r) :
  Calls Tryz.prog 81 #[.int .i64 a0] w fun e w' => e = .returned (.bool r) ∧ Drawn0 w w':=by
 unfold impl_gatesOk.f at h
 have H:=h
 clear h
 replace H:=bS_ H
 obtain ⟨t359,A2,H⟩:=H
 obtain rfl:=Option.some.inj H
 go_enter Tryz.func81,Tryz.ntmps81
 go_wp2_with (first | ((with_reducible refine gate_callee (f:=61) rfl ?_);refine goesA_ (some 4) rfl rfl Tryz.func61 (by kernel_rfl) rfl #[.int .i64 a0,.int .i64 2,.int .i64 4] rfl ?_;(with_reducible refine (impl_in.calls a0 2 4 t359 _ A2.out).mono ?_);rintro e w' ⟨rfl,⟨nd,rfl⟩⟩;refine ⟨_,rfl,?_⟩))
 go_ret
 exact ⟨by first | rfl | (simp;done) | (simp [*];done),by repeat (first | exact Drawn0.refl _ | apply Drawn0.step)⟩
def impl_isName.f (a0 : Int) : Option (Bool):=(impl_in.f a0 0 9999).bind fun t361 => (some t361)
set_option maxHeartbeats 8000000 in
set_option maxRecDepth 100000 in
theorem impl_isName.calls (a0 : Int) (r : Bool) (w : World) (h : impl_isName.f a0 = some r) :
  Calls Tryz.prog 109 #[.int .i64 a0] w fun e w' => e = .returned (.bool r) ∧ Drawn0 w w':=by
 unfold impl_isName.f at h
 have H:=h
 clear h
 replace H:=bS_ H
 obtain ⟨t361,A2,H⟩:=H
 obtain rfl:=Option.some.inj H
 go_enter Tryz.func109,Tryz.ntmps109
 go_wp2_with (first | ((with_reducible refine gate_callee (f:=61) rfl ?_);refine goesA_ (some 4) rfl rfl Tryz.func61 (by kernel_rfl) rfl #[.int .i64 a0,.int .i64 0,.int .i64 9999] rfl ?_;(with_reducible refine (impl_in.calls a0 0 9999 t361 _ A2.out).mono ?_);rintro e w' ⟨rfl,⟨nd,rfl⟩⟩;refine ⟨_,rfl,?_⟩))
 go_ret
 exact ⟨by first | rfl | (simp;done) | (simp [*];done),by repeat (first | exact Drawn0.refl _ | apply Drawn0.step)⟩
def impl_Window_took.f (a0_0 a0_1 a1 : Int) : Option (Bool):=if 0 ≤ a1 then (some ((Go.bits .and .i64 (shr .i64 a0_1 a1) 1) == 1)) else (none)
set_option maxHeartbeats 8000000 in
set_option maxRecDepth 100000 in
theorem impl_Window_took.calls (a0_0 a0_1 a1 : Int) (r : Bool) (w : World) (h : impl_Window_took.f a0_0 a0_1 a1 = some r) :
  Calls Tryz.prog 116 #[.agg #[.int .i64 a0_0,.int .i64 a0_1],.int .i64 a1] w fun e w' => e = .returned (.bool r) ∧ Below w.heap.size w w':=by
 have hu112:=Tryz.underlying112
 have HB:=Z_ (Below.refl w.heap.size w)
 unfold impl_Window_took.f at h
 have H:=h
 clear h
 replace H:=iN_ H
 obtain ⟨c3,H⟩:=H
 have c3b0:=eq_true c3
 have c3b1 : decide (0 ≤ a1) = true:=decide_eq_true c3
 clear c3
 obtain ⟨ji4,hji4⟩ : ∃ j_ : Int,(shr .i64 a0_1 a1) = j_:=⟨_,rfl⟩
 replace H : (some ((Go.bits .and .i64 (ji4) 1) == 1)) = some r:=by first | (rw [hji4] at H;exact H) | (simp only [hji4] at H ⊢;exact H)
 have hji4_ : (a0_1 / 2 ^ min a1.toNat 64) = ji4:=hji4
 have hji4z : a1 ≤ 64 → (a0_1 / 2 ^ a1.toNat) = ji4:=shr_small hji4
 obtain rfl:=Option.some.inj H
 go_enter Tryz.func116,Tryz.ntmps116
 go_wp2_with (first | ((with_reducible refine gD_ 2 rfl ?_);refine bx_ #[.int .i64 a0_0,.int .i64 a0_1] 112 ?_;intro gb362 hg w5 hbox hb;have BK362:=Z_ hbox;have GE362:=Z_ ((by rw [hg];exact (below_size HB.out) : w.heap.size ≤ gb362));replace HB:=Z_ (lP_ HB.out hb);clear hb hbox hg;obtain ⟨_,_,_,_⟩:=bc2 BK362.out))
 go_ret
 exact ⟨by first | rfl | (simp [errW_none,errW_some] <;> rfl) | (simp only [← hji4];first | rfl | (simp [errW_none,errW_some] <;> rfl)) | (simp [*,errW_none,errW_some] <;> rfl),Lb_⟩
mutual
def impl_WindowFault.j0 : Nat → Bool → Int → Int → Option (Int)
 | 0,_,_,_ => none
 | k + 1,x13,x364000,x364001 => if x13 = true then (some 3) else (if x364000 = 0 then (if x364001 = 0 then (if x364000 > 0 then ((impl_Window_took.f x364000 x364001 0).bind fun t366 => (impl_WindowFault.j1 k (!t366) x364000 x364001)) else (impl_WindowFault.j1 k false x364000 x364001)) else (impl_WindowFault.j1 k true x364000 x364001)) else (if x364000 > 0 then ((impl_Window_took.f x364000 x364001 0).bind fun t367 => (impl_WindowFault.j1 k (!t367) x364000 x364001)) else (impl_WindowFault.j1 k false x364000 x364001)))
def impl_WindowFault.j1 : Nat → Bool → Int → Int → Option (Int)
 | 0,_,_,_ => none
 | k + 1,x31,x364000,x364001 => if x31 = true then (some 1) else (impl_WindowFault.l0 k 0 x364000 x364001)
def impl_WindowFault.l0 : Nat → Int → Int → Int → Option (Int)
 | 0,_,_,_ => none
 | k + 1,x32,x364000,x364001 => if x32 < 32 then ((impl_Window_took.f x364000 x364001 x32).bind fun t368 => (if t368 = true then (if (wrap64 (x364000 - x32)) < 1 then (some 1) else (impl_WindowFault.l0 k (wrap64 (x32 + 1)) x364000 x364001)) else (impl_WindowFault.l0 k (wrap64 (x32 + 1)) x364000 x364001))) else (some 0)
end
def impl_WindowFault.f (k : Nat) (a0_0 a0_1 : Int) : Option (Int):=(impl_in.f a0_0 0 1099511627776).bind fun t364 => (if t364 = true then ((impl_in.f a0_1 0 4294967295).bind fun t365 => (impl_WindowFault.j0 k (!t365) a0_0 a0_1)) else (impl_WindowFault.j0 k true a0_0 a0_1))
set_option maxHeartbeats 8000000 in
set_option maxRecDepth 100000 in
theorem impl_WindowFault.calls (k : Nat) (a0_0 a0_1 r : Int) (w : World) (h : impl_WindowFault.f k a0_0 a0_1 = some r) :
  Calls Tryz.prog 110 #[.agg #[.int .i64 a0_0,.int .i64 a0_1]] w fun e w' => e = .returned (.int .i64 r) ∧ Below w.heap.size w w':=by
 have hu112:=Tryz.underlying112
 have HB:=Z_ (Below.refl w.heap.size w)
 unfold impl_WindowFault.f at h
 have H:=h
 clear h
 have a4:=Z_ H
 clear H
 go_enter Tryz.func110,Tryz.ntmps110
 go_upto_region 1 with (first | ((with_reducible refine gD_ 1 rfl ?_);refine bx_ #[.int .i64 a0_0,.int .i64 a0_1] 112 ?_;intro a2 hg w3 hbox hb;have a0:=Z_ hbox;have ad:=Z_ ((by rw [hg];exact (below_size Lb_) : w.heap.size ≤ a2));have a1:=Z_ ((by rw [hg];exact (below_size Lb_) : w.heap.size ≤ a2));replace HB:=Z_ (lP_ Lb_ hb);clear hb hbox hg))
 (try simp only [Act.put,lA_,lZ_,lS_])
 go_cut [13] (fun v13 wc => ∃ (kq : Nat) (x13_1 : Bool),v13 = .bool x13_1 ∧ Aside0 (impl_WindowFault.j0 kq x13_1 a0_0 a0_1 = some r) ∧ Aside0 (kq ≤ k) ∧ Aside0 (wc.heap[a2]? = some (.cells #[.int .i64 a0_0,.int .i64 a0_1] 112 (0,0))) ∧ Aside0 (Below w.heap.size w wc))
 case first =>
  have H:=a4.out
  clear a4
  replace H:=bS_ H
  obtain ⟨t364,A4,H⟩:=H
  replace H:=iB_ H
  obtain ⟨rfl,H⟩ | ⟨rfl,H⟩:=H
  replace H:=bS_ H
  obtain ⟨t365,A6,H⟩:=H
  all_goals
   have H':=Z_ H
   clear H
   obtain ⟨_,_,_,_⟩:=bc2 a0.out
   go_wp2_with (first | ((with_reducible refine gate_callee (f:=61) rfl ?_);refine goesA_ (some 6) rfl rfl Tryz.func61 (by kernel_rfl) rfl #[.int .i64 a0_0,.int .i64 0,.int .i64 1099511627776] rfl ?_;(with_reducible refine (impl_in.calls a0_0 0 1099511627776 _ _ A4.out).mono ?_);rintro e w' ⟨rfl,⟨nd,rfl⟩⟩;refine ⟨_,rfl,?_⟩) | (go_at_call 61;(with_reducible refine (impl_in.calls a0_1 0 4294967295 t365 _ A6.out).mono ?_);rintro e w' ⟨rfl,⟨nd,rfl⟩⟩))
   go_meet
   case rel => exact ⟨_,_,Sr_,H',Ol_,⟨Bk_ a0⟩,⟨Lb_⟩⟩
 case rest =>
  clear a4
  try clear c1
  try clear p2
  try clear c5
  try clear c6
  obtain ⟨kq,x13_1,rfl,HA,HJ1,a0,HB⟩:=hcut
  cases kq with
  | zero => exact absurd HA.out (by simp [impl_WindowFault.j0])
  | succ kj1 =>
   have H:=HA.out
   clear HA
   simp only [impl_WindowFault.j0] at H
   replace H:=iB_ H
   obtain ⟨rfl,H⟩ | ⟨rfl,H⟩:=H
   ·obtain rfl:=Option.some.inj H
    go_wp2
    go_ret
    exact ⟨Er_,Lb_⟩
   have a3:=Z_ H
   clear H
   go_upto_region 3 with (fail)
   go_cut [31] (fun v31 wc => ∃ (kq : Nat) (x31_9 : Bool),v31 = .bool x31_9 ∧ Aside0 (impl_WindowFault.j1 kq x31_9 a0_0 a0_1 = some r) ∧ Aside0 (kq ≤ kj1) ∧ Aside0 (wc.heap[a2]? = some (.cells #[.int .i64 a0_0,.int .i64 a0_1] 112 (0,0))) ∧ Aside0 (Below w.heap.size w wc))
   case first =>
    have H:=a3.out
    clear a3
    replace H:=iE_ H
    obtain ⟨c11b0,c11b1,H⟩ | ⟨c11b0,c11b1,H⟩:=H
    rotate_left
    focus
     (first | rw [c11b0] | (simp only [i64_w,i32_w];rw [c11b0]) | skip)
     replace H:=iD_ H
     obtain ⟨c19b0,H⟩ | ⟨c19b0,H⟩:=H
     rotate_left
     focus replace c19b0 : decide (0 < a0_0) = false:=c19b0
     rotate_right
     replace c19b0 : decide (0 < a0_0) = true:=c19b0
     replace H:=bS_ H
     obtain ⟨t367,ac,H⟩:=H
    rotate_right
    (first | rw [c11b0] | (simp only [i64_w,i32_w];rw [c11b0]) | skip)
    replace H:=iE_ H
    obtain ⟨c12b0,c12b1,H⟩ | ⟨c12b0,c12b1,H⟩:=H
    replace H:=iD_ H
    obtain ⟨c13b0,H⟩ | ⟨c13b0,H⟩:=H
    rotate_left
    focus replace c13b0 : decide (0 < a0_0) = false:=c13b0
    rotate_right
    replace c13b0 : decide (0 < a0_0) = true:=c13b0
    replace H:=bS_ H
    obtain ⟨t366,ab,H⟩:=H
    all_goals
     have H':=Z_ H
     clear H
     obtain ⟨_,_,_,_⟩:=bc2 a0.out
     go_wp2_with (first | (go_at_call 116;(with_reducible refine (impl_Window_took.calls a0_0 a0_1 0 t366 _ ab.out).mono ?_);rintro e w16 ⟨rfl,hb⟩;replace a0:=Z_ (bB_ (g:=a2) (o:=.cells #[.int .i64 a0_0,.int .i64 a0_1] 112 (0,0)) (Bk_ a0) hb);replace HB:=Z_ (lP_ Lb_ hb);(try clear hb)) | (go_at_call 116;(with_reducible refine (impl_Window_took.calls a0_0 a0_1 0 t367 _ ac.out).mono ?_);rintro e w22 ⟨rfl,hb⟩;replace a0:=Z_ (bB_ (g:=a2) (o:=.cells #[.int .i64 a0_0,.int .i64 a0_1] 112 (0,0)) (Bk_ a0) hb);replace HB:=Z_ (lP_ Lb_ hb);(try clear hb)))
     go_meet
     case rel => exact ⟨_,_,Sr_,H',⟨by have:=HJ1.out;first | omega | exact Nat.le_refl _⟩,⟨Bk_ a0⟩,⟨Lb_⟩⟩
   case rest =>
    clear a3
    try clear c1
    try clear p2
    try clear c5
    try clear c6
    try clear c9
    try clear c11
    try clear c11b0
    try clear c11b1
    try clear c12
    try clear c12b0
    try clear c12b1
    try clear c13
    try clear c13b0
    try clear c19
    try clear c19b0
    try clear p2
    obtain ⟨kq,x31_9,rfl,HA,HJ9,a0,HB⟩:=hcut
    cases kq with
    | zero => exact absurd HA.out (by simp [impl_WindowFault.j1])
    | succ kj9 =>
     have H:=HA.out
     clear HA
     simp only [impl_WindowFault.j1] at H
     replace H:=iB_ H
     obtain ⟨rfl,H⟩ | ⟨rfl,H⟩:=H
     ·obtain rfl:=Option.some.inj H
      go_wp2
      go_ret
      exact ⟨Er_,Lb_⟩
     have H':=Z_ H
     clear H
     go_wp2
     go_loopg [32] kj9 (fun kq v32 w' => ∃ (x32_3 : Int),v32 = .int .i64 x32_3 ∧ Aside0 (impl_WindowFault.l0 kq x32_3 a0_0 a0_1 = some r) ∧ Aside0 (kq ≤ kj9) ∧ Aside0 (w'.heap[a2]? = some (.cells #[.int .i64 a0_0,.int .i64 a0_1] 112 (0,0))) ∧ Aside0 (Below w.heap.size w w'))
     case atStart => exact ⟨(0),Sr_,H',⟨Nat.le_refl _⟩,⟨Bk_ a0⟩,⟨Lb_⟩⟩
     case round =>
      clear H'
      try clear c1
      try clear c2
      try clear p2
      try clear c5
      try clear c6
      try clear c9
      try clear c11
      try clear c11b0
      try clear c11b1
      try clear c12
      try clear c12b0
      try clear c12b1
      try clear c13
      try clear c13b0
      try clear c19
      try clear c19b0
      try clear c24
      try clear p2
      obtain ⟨x32_3,rfl,HA,HK3,a0,HB⟩:=hrel
      cases gk with
      | zero => exact absurd HA.out (by simp [impl_WindowFault.l0])
      | succ k3 =>
       have H:=HA.out
       clear HA
       simp only [impl_WindowFault.l0] at H
       replace H:=iD_ H
       obtain ⟨c25b0,H⟩ | ⟨c25b0,H⟩:=H
       rotate_left
       focus have g0_:=trivial
       rotate_right
       replace H:=bS_ H
       obtain ⟨t368,a8,H⟩:=H
       replace H:=iB_ H
       obtain ⟨rfl,H⟩ | ⟨rfl,H⟩:=H
       rotate_left
       focus have g1_:=trivial
       rotate_right
       replace H:=iD_ H
       obtain ⟨c28b0,H⟩ | ⟨c28b0,H⟩:=H
       rotate_left
       focus have g1_:=trivial
       rotate_right
       have g0_:=trivial
       all_goals first
       | (clear g0_
          obtain rfl:=Option.some.inj H
          try obtain ⟨_,_,_,_⟩:=bc2 a0.out
          go_wp2_with (first | ((with_reducible refine gate_callee (f:=116) rfl ?_);refine goesA_ (some 37) rfl rfl Tryz.func116 (by kernel_rfl) rfl #[.agg #[.int .i64 a0_0,.int .i64 a0_1],.int .i64 x32_3] rfl ?_;(with_reducible refine (impl_Window_took.calls a0_0 a0_1 x32_3 _ _ a8.out).mono ?_);rintro e w30 ⟨rfl,hb⟩;refine ⟨_,rfl,?_⟩;replace a0:=Z_ (bB_ a0.out hb);replace HB:=Z_ (lP_ HB.out hb);(try clear hb);obtain ⟨_,_,_,_⟩:=bc2 a0.out))
          go_ret
          exact ⟨Er_,Lb_⟩)
       | (clear g1_
          have H':=Z_ H
          clear H
          obtain ⟨_,_,_,_⟩:=bc2 a0.out
          go_wp2_with (first | ((with_reducible refine gate_callee (f:=116) rfl ?_);refine goesA_ (some 37) rfl rfl Tryz.func116 (by kernel_rfl) rfl #[.agg #[.int .i64 a0_0,.int .i64 a0_1],.int .i64 x32_3] rfl ?_;(with_reducible refine (impl_Window_took.calls a0_0 a0_1 x32_3 _ _ a8.out).mono ?_);rintro e w33 ⟨rfl,hb⟩;refine ⟨_,rfl,?_⟩;replace a0:=Z_ (bB_ (g:=a2) (o:=.cells #[.int .i64 a0_0,.int .i64 a0_1] 112 (0,0)) (Bk_ a0) hb);replace HB:=Z_ (lP_ Lb_ hb);(try clear hb);obtain ⟨_,_,_,_⟩:=bc2 a0.out))
          go_roundg k3
          case measure => have:=HJ1.out;have:=HJ9.out;have:=HK3.out;omega
          case rel => exact ⟨_,Sr_,H',⟨by have:=HJ1.out;have:=HJ9.out;have:=HK3.out;omega⟩,⟨Bk_ a0⟩,⟨Lb_⟩⟩)
end Go.Proofs.YtcafikgabidphaaGreat.G
namespace Go.Proofs.YtcafikgabidphaaGreat.G
open Go.RowKit Go.Proofs.YtcafikgabidphaaGreatW.PrintWords Go.Proofs.YtcafikgabidphaaGreatW.PrintLast Go.Proofs.YtcafikgabidphaaGreatW.PrintMore
attribute [local go_sem] max2_int min2_int max_two min_two max_three min_three max_four min_four   -- for this text's walks alone
set_option linter.unusedVariables false
set_option linter.unusedSimpArgs false
attribute [local go_sem high] eqA112
def IsS114 (w0 W : World) (g : Nat) (f0 f1 f2 f3 f4 f5 f6 f7 f8 f9 f10 f11 f12 f13 f14 f15 f16 f17 f18 f19 : Int) : Prop:=W.heap[g]? = some (.cells #[.int .i64 f0,.int .i64 f1,.int .i64 f2,.int .i64 f3,.int .i64 f4,.int .i64 f5,.int .i64 f6,.int .i64 f7,.int .i64 f8,.int .i64 f9,.int .i64 f10,.int .i64 f11,.int .i64 f12,.int .i64 f13,.int .i64 f14,.int .i64 f15,.int .i64 f16,.int .i64 f17,.int .i64 f18,.int .i64 f19] 114 (0,0)) ∧ w0.heap.size ≤ g
theorem IsS114.grown {w0 W : World} {g : Nat} {f0 : Int} {f1 : Int} {f2 : Int} {f3 : Int} {f4 : Int} {f5 : Int} {f6 : Int} {f7 : Int} {f8 : Int} {f9 : Int} {f10 : Int} {f11 : Int} {f12 : Int} {f13 : Int} {f14 : Int} {f15 : Int} {f16 : Int} {f17 : Int} {f18 : Int} {f19 : Int} {W1 : World} {row : Option Nat} (h : IsS114 w0 W g f0 f1 f2 f3 f4 f5 f6 f7 f8 f9 f10 f11 f12 f13 f14 f15 f16 f17 f18 f19) (hw : W.grownBy W1 row) (hne : some g ≠ row) : IsS114 w0 W1 g f0 f1 f2 f3 f4 f5 f6 f7 f8 f9 f10 f11 f12 f13 f14 f15 f16 f17 f18 f19:=by
 obtain ⟨hb,hg⟩:=h
 exact ⟨blk_grown hb hw hne,hg⟩
theorem IsS114.kept {w0 W : World} {g : Nat} {f0 : Int} {f1 : Int} {f2 : Int} {f3 : Int} {f4 : Int} {f5 : Int} {f6 : Int} {f7 : Int} {f8 : Int} {f9 : Int} {f10 : Int} {f11 : Int} {f12 : Int} {f13 : Int} {f14 : Int} {f15 : Int} {f16 : Int} {f17 : Int} {f18 : Int} {f19 : Int} {W1 : World} {S : Nat → Prop} (h : IsS114 w0 W g f0 f1 f2 f3 f4 f5 f6 f7 f8 f9 f10 f11 f12 f13 f14 f15 f16 f17 f18 f19) (hk : Kept W W1 S) (hne : ¬ S g) : IsS114 w0 W1 g f0 f1 f2 f3 f4 f5 f6 f7 f8 f9 f10 f11 f12 f13 f14 f15 f16 f17 f18 f19:=by
 obtain ⟨hb,hg⟩:=h
 exact ⟨blk_kept hb hk hne,hg⟩
theorem IsS114.below {w0 W : World} {g : Nat} {f0 : Int} {f1 : Int} {f2 : Int} {f3 : Int} {f4 : Int} {f5 : Int} {f6 : Int} {f7 : Int} {f8 : Int} {f9 : Int} {f10 : Int} {f11 : Int} {f12 : Int} {f13 : Int} {f14 : Int} {f15 : Int} {f16 : Int} {f17 : Int} {f18 : Int} {f19 : Int} {W1 : World} (h : IsS114 w0 W g f0 f1 f2 f3 f4 f5 f6 f7 f8 f9 f10 f11 f12 f13 f14 f15 f16 f17 f18 f19) (hw : Below W.heap.size W W1) : IsS114 w0 W1 g f0 f1 f2 f3 f4 f5 f6 f7 f8 f9 f10 f11 f12 f13 f14 f15 f16 f17 f18 f19:=h.grown (grown_of_below hw none) (by simp)
theorem IsS114.alloc {w0 W : World} {g : Nat} {f0 : Int} {f1 : Int} {f2 : Int} {f3 : Int} {f4 : Int} {f5 : Int} {f6 : Int} {f7 : Int} {f8 : Int} {f9 : Int} {f10 : Int} {f11 : Int} {f12 : Int} {f13 : Int} {f14 : Int} {f15 : Int} {f16 : Int} {f17 : Int} {f18 : Int} {f19 : Int} (h : IsS114 w0 W g f0 f1 f2 f3 f4 f5 f6 f7 f8 f9 f10 f11 f12 f13 f14 f15 f16 f17 f18 f19) (o : Obj) : IsS114 w0 (W.alloc o) g f0 f1 f2 f3 f4 f5 f6 f7 f8 f9 f10 f11 f12 f13 f14 f15 f16 f17 f18 f19:=h.below (lA1_ (Below.refl _ _) o)
theorem IsS114.drewN {w0 W : World} {g : Nat} {f0 : Int} {f1 : Int} {f2 : Int} {f3 : Int} {f4 : Int} {f5 : Int} {f6 : Int} {f7 : Int} {f8 : Int} {f9 : Int} {f10 : Int} {f11 : Int} {f12 : Int} {f13 : Int} {f14 : Int} {f15 : Int} {f16 : Int} {f17 : Int} {f18 : Int} {f19 : Int} (h : IsS114 w0 W g f0 f1 f2 f3 f4 f5 f6 f7 f8 f9 f10 f11 f12 f13 f14 f15 f16 f17 f18 f19) (m : Nat) : IsS114 w0 (W.drewN m) g f0 f1 f2 f3 f4 f5 f6 f7 f8 f9 f10 f11 f12 f13 f14 f15 f16 f17 f18 f19:=h
theorem IsS114.drew {w0 W : World} {g : Nat} {f0 : Int} {f1 : Int} {f2 : Int} {f3 : Int} {f4 : Int} {f5 : Int} {f6 : Int} {f7 : Int} {f8 : Int} {f9 : Int} {f10 : Int} {f11 : Int} {f12 : Int} {f13 : Int} {f14 : Int} {f15 : Int} {f16 : Int} {f17 : Int} {f18 : Int} {f19 : Int} (h : IsS114 w0 W g f0 f1 f2 f3 f4 f5 f6 f7 f8 f9 f10 f11 f12 f13 f14 f15 f16 f17 f18 f19) : IsS114 w0 W.drew g f0 f1 f2 f3 f4 f5 f6 f7 f8 f9 f10 f11 f12 f13 f14 f15 f16 f17 f18 f19:=h
theorem IsS114.at_ {w0 W : World} {g : Nat} {f0 : Int} {f1 : Int} {f2 : Int} {f3 : Int} {f4 : Int} {f5 : Int} {f6 : Int} {f7 : Int} {f8 : Int} {f9 : Int} {f10 : Int} {f11 : Int} {f12 : Int} {f13 : Int} {f14 : Int} {f15 : Int} {f16 : Int} {f17 : Int} {f18 : Int} {f19 : Int} {w' : World} {m : Nat} (hq : W.drewN m = w') (h : IsS114 w0 W g f0 f1 f2 f3 f4 f5 f6 f7 f8 f9 f10 f11 f12 f13 f14 f15 f16 f17 f18 f19) : IsS114 w0 w' g f0 f1 f2 f3 f4 f5 f6 f7 f8 f9 f10 f11 f12 f13 f14 f15 f16 f17 f18 f19:=by subst hq;exact IsS114.drewN h m
theorem IsS114.apart {w0 W : World} {g : Nat} {f0 : Int} {f1 : Int} {f2 : Int} {f3 : Int} {f4 : Int} {f5 : Int} {f6 : Int} {f7 : Int} {f8 : Int} {f9 : Int} {f10 : Int} {f11 : Int} {f12 : Int} {f13 : Int} {f14 : Int} {f15 : Int} {f16 : Int} {f17 : Int} {f18 : Int} {f19 : Int} {α : Type} {d : Kd α} {e : Nat} {base : Nat} {ok : Nat → Prop} {v : Value} {xs : List α} (h : IsS114 w0 W g f0 f1 f2 f3 f4 f5 f6 f7 f8 f9 f10 f11 f12 f13 f14 f15 f16 f17 f18 f19) (ho : d.R e W base ok v xs) (ht : ∀ q,q ∈ e :: d.E → q ≠ 114) : d.R e W base (fun k => ok k ∧ k ≠ g) v xs:=by
 obtain ⟨hb,hg⟩:=h
 exact Kd.R_types ho hb ht
theorem IsS114.own_ne {w0 W : World} {g : Nat} {f0 : Int} {f1 : Int} {f2 : Int} {f3 : Int} {f4 : Int} {f5 : Int} {f6 : Int} {f7 : Int} {f8 : Int} {f9 : Int} {f10 : Int} {f11 : Int} {f12 : Int} {f13 : Int} {f14 : Int} {f15 : Int} {f16 : Int} {f17 : Int} {f18 : Int} {f19 : Int} {α : Type} {d : Kd α} {e : Nat} {base : Nat} {ok : Nat → Prop} {v : Value} {xs : List α} (h : IsS114 w0 W g f0 f1 f2 f3 f4 f5 f6 f7 f8 f9 f10 f11 f12 f13 f14 f15 f16 f17 f18 f19) (ho : d.R e W base ok v xs) (ht : e ≠ 114) : some g ≠ v.ownBlock:=by
 obtain ⟨hb,hg⟩:=h
 exact Kd.R_ne ho hb ht
theorem IsS114.lt {w0 W : World} {g : Nat} {f0 : Int} {f1 : Int} {f2 : Int} {f3 : Int} {f4 : Int} {f5 : Int} {f6 : Int} {f7 : Int} {f8 : Int} {f9 : Int} {f10 : Int} {f11 : Int} {f12 : Int} {f13 : Int} {f14 : Int} {f15 : Int} {f16 : Int} {f17 : Int} {f18 : Int} {f19 : Int} (h : IsS114 w0 W g f0 f1 f2 f3 f4 f5 f6 f7 f8 f9 f10 f11 f12 f13 f14 f15 f16 f17 f18 f19) : g < W.heap.size:=by
 obtain ⟨hb,hg⟩:=h
 exact blk_lt hb
theorem IsS114.ge {w0 W : World} {g : Nat} {f0 : Int} {f1 : Int} {f2 : Int} {f3 : Int} {f4 : Int} {f5 : Int} {f6 : Int} {f7 : Int} {f8 : Int} {f9 : Int} {f10 : Int} {f11 : Int} {f12 : Int} {f13 : Int} {f14 : Int} {f15 : Int} {f16 : Int} {f17 : Int} {f18 : Int} {f19 : Int} (h : IsS114 w0 W g f0 f1 f2 f3 f4 f5 f6 f7 f8 f9 f10 f11 f12 f13 f14 f15 f16 f17 f18 f19) : w0.heap.size ≤ g:=by
 obtain ⟨hb,hg⟩:=h
 exact hg
theorem IsS114.set_0 {w0 W : World} {g : Nat} {f0 : Int} {f1 : Int} {f2 : Int} {f3 : Int} {f4 : Int} {f5 : Int} {f6 : Int} {f7 : Int} {f8 : Int} {f9 : Int} {f10 : Int} {f11 : Int} {f12 : Int} {f13 : Int} {f14 : Int} {f15 : Int} {f16 : Int} {f17 : Int} {f18 : Int} {f19 : Int} (h : IsS114 w0 W g f0 f1 f2 f3 f4 f5 f6 f7 f8 f9 f10 f11 f12 f13 f14 f15 f16 f17 f18 f19) (x : Int) : IsS114 w0 (W.setCell ⟨g,0,none⟩ (.int .i64 x)) g x f1 f2 f3 f4 f5 f6 f7 f8 f9 f10 f11 f12 f13 f14 f15 f16 f17 f18 f19:=by
 obtain ⟨hb,hg⟩:=h
 exact ⟨by simpa using blk_set hb 0 (.int .i64 x),hg⟩
theorem IsS114.set_1 {w0 W : World} {g : Nat} {f0 : Int} {f1 : Int} {f2 : Int} {f3 : Int} {f4 : Int} {f5 : Int} {f6 : Int} {f7 : Int} {f8 : Int} {f9 : Int} {f10 : Int} {f11 : Int} {f12 : Int} {f13 : Int} {f14 : Int} {f15 : Int} {f16 : Int} {f17 : Int} {f18 : Int} {f19 : Int} (h : IsS114 w0 W g f0 f1 f2 f3 f4 f5 f6 f7 f8 f9 f10 f11 f12 f13 f14 f15 f16 f17 f18 f19) (x : Int) : IsS114 w0 (W.setCell ⟨g,1,none⟩ (.int .i64 x)) g f0 x f2 f3 f4 f5 f6 f7 f8 f9 f10 f11 f12 f13 f14 f15 f16 f17 f18 f19:=by
 obtain ⟨hb,hg⟩:=h
 exact ⟨by simpa using blk_set hb 1 (.int .i64 x),hg⟩
theorem IsS114.set_2 {w0 W : World} {g : Nat} {f0 : Int} {f1 : Int} {f2 : Int} {f3 : Int} {f4 : Int} {f5 : Int} {f6 : Int} {f7 : Int} {f8 : Int} {f9 : Int} {f10 : Int} {f11 : Int} {f12 : Int} {f13 : Int} {f14 : Int} {f15 : Int} {f16 : Int} {f17 : Int} {f18 : Int} {f19 : Int} (h : IsS114 w0 W g f0 f1 f2 f3 f4 f5 f6 f7 f8 f9 f10 f11 f12 f13 f14 f15 f16 f17 f18 f19) (x : Int) : IsS114 w0 (W.setCell ⟨g,2,none⟩ (.int .i64 x)) g f0 f1 x f3 f4 f5 f6 f7 f8 f9 f10 f11 f12 f13 f14 f15 f16 f17 f18 f19:=by
 obtain ⟨hb,hg⟩:=h
 exact ⟨by simpa using blk_set hb 2 (.int .i64 x),hg⟩
theorem IsS114.set_3 {w0 W : World} {g : Nat} {f0 : Int} {f1 : Int} {f2 : Int} {f3 : Int} {f4 : Int} {f5 : Int} {f6 : Int} {f7 : Int} {f8 : Int} {f9 : Int} {f10 : Int} {f11 : Int} {f12 : Int} {f13 : Int} {f14 : Int} {f15 : Int} {f16 : Int} {f17 : Int} {f18 : Int} {f19 : Int} (h : IsS114 w0 W g f0 f1 f2 f3 f4 f5 f6 f7 f8 f9 f10 f11 f12 f13 f14 f15 f16 f17 f18 f19) (x : Int) : IsS114 w0 (W.setCell ⟨g,3,none⟩ (.int .i64 x)) g f0 f1 f2 x f4 f5 f6 f7 f8 f9 f10 f11 f12 f13 f14 f15 f16 f17 f18 f19:=by
 obtain ⟨hb,hg⟩:=h
 exact ⟨by simpa using blk_set hb 3 (.int .i64 x),hg⟩
theorem IsS114.set_4 {w0 W : World} {g : Nat} {f0 : Int} {f1 : Int} {f2 : Int} {f3 : Int} {f4 : Int} {f5 : Int} {f6 : Int} {f7 : Int} {f8 : Int} {f9 : Int} {f10 : Int} {f11 : Int} {f12 : Int} {f13 : Int} {f14 : Int} {f15 : Int} {f16 : Int} {f17 : Int} {f18 : Int} {f19 : Int} (h : IsS114 w0 W g f0 f1 f2 f3 f4 f5 f6 f7 f8 f9 f10 f11 f12 f13 f14 f15 f16 f17 f18 f19) (x : Int) : IsS114 w0 (W.setCell ⟨g,4,none⟩ (.int .i64 x)) g f0 f1 f2 f3 x f5 f6 f7 f8 f9 f10 f11 f12 f13 f14 f15 f16 f17 f18 f19:=by
 obtain ⟨hb,hg⟩:=h
 exact ⟨by simpa using blk_set hb 4 (.int .i64 x),hg⟩
theorem IsS114.set_5 {w0 W : World} {g : Nat} {f0 : Int} {f1 : Int} {f2 : Int} {f3 : Int} {f4 : Int} {f5 : Int} {f6 : Int} {f7 : Int} {f8 : Int} {f9 : Int} {f10 : Int} {f11 : Int} {f12 : Int} {f13 : Int} {f14 : Int} {f15 : Int} {f16 : Int} {f17 : Int} {f18 : Int} {f19 : Int} (h : IsS114 w0 W g f0 f1 f2 f3 f4 f5 f6 f7 f8 f9 f10 f11 f12 f13 f14 f15 f16 f17 f18 f19) (x : Int) : IsS114 w0 (W.setCell ⟨g,5,none⟩ (.int .i64 x)) g f0 f1 f2 f3 f4 x f6 f7 f8 f9 f10 f11 f12 f13 f14 f15 f16 f17 f18 f19:=by
 obtain ⟨hb,hg⟩:=h
 exact ⟨by simpa using blk_set hb 5 (.int .i64 x),hg⟩
theorem IsS114.set_6 {w0 W : World} {g : Nat} {f0 : Int} {f1 : Int} {f2 : Int} {f3 : Int} {f4 : Int} {f5 : Int} {f6 : Int} {f7 : Int} {f8 : Int} {f9 : Int} {f10 : Int} {f11 : Int} {f12 : Int} {f13 : Int} {f14 : Int} {f15 : Int} {f16 : Int} {f17 : Int} {f18 : Int} {f19 : Int} (h : IsS114 w0 W g f0 f1 f2 f3 f4 f5 f6 f7 f8 f9 f10 f11 f12 f13 f14 f15 f16 f17 f18 f19) (x : Int) : IsS114 w0 (W.setCell ⟨g,6,none⟩ (.int .i64 x)) g f0 f1 f2 f3 f4 f5 x f7 f8 f9 f10 f11 f12 f13 f14 f15 f16 f17 f18 f19:=by
 obtain ⟨hb,hg⟩:=h
 exact ⟨by simpa using blk_set hb 6 (.int .i64 x),hg⟩
theorem IsS114.set_7 {w0 W : World} {g : Nat} {f0 : Int} {f1 : Int} {f2 : Int} {f3 : Int} {f4 : Int} {f5 : Int} {f6 : Int} {f7 : Int} {f8 : Int} {f9 : Int} {f10 : Int} {f11 : Int} {f12 : Int} {f13 : Int} {f14 : Int} {f15 : Int} {f16 : Int} {f17 : Int} {f18 : Int} {f19 : Int} (h : IsS114 w0 W g f0 f1 f2 f3 f4 f5 f6 f7 f8 f9 f10 f11 f12 f13 f14 f15 f16 f17 f18 f19) (x : Int) : IsS114 w0 (W.setCell ⟨g,7,none⟩ (.int .i64 x)) g f0 f1 f2 f3 f4 f5 f6 x f8 f9 f10 f11 f12 f13 f14 f15 f16 f17 f18 f19:=by
 obtain ⟨hb,hg⟩:=h
 exact ⟨by simpa using blk_set hb 7 (.int .i64 x),hg⟩
theorem IsS114.set_8 {w0 W : World} {g : Nat} {f0 : Int} {f1 : Int} {f2 : Int} {f3 : Int} {f4 : Int} {f5 : Int} {f6 : Int} {f7 : Int} {f8 : Int} {f9 : Int} {f10 : Int} {f11 : Int} {f12 : Int} {f13 : Int} {f14 : Int} {f15 : Int} {f16 : Int} {f17 : Int} {f18 : Int} {f19 : Int} (h : IsS114 w0 W g f0 f1 f2 f3 f4 f5 f6 f7 f8 f9 f10 f11 f12 f13 f14 f15 f16 f17 f18 f19) (x : Int) : IsS114 w0 (W.setCell ⟨g,8,none⟩ (.int .i64 x)) g f0 f1 f2 f3 f4 f5 f6 f7 x f9 f10 f11 f12 f13 f14 f15 f16 f17 f18 f19:=by
 obtain ⟨hb,hg⟩:=h
 exact ⟨by simpa using blk_set hb 8 (.int .i64 x),hg⟩
theorem IsS114.set_9 {w0 W : World} {g : Nat} {f0 : Int} {f1 : Int} {f2 : Int} {f3 : Int} {f4 : Int} {f5 : Int} {f6 : Int} {f7 : Int} {f8 : Int} {f9 : Int} {f10 : Int} {f11 : Int} {f12 : Int} {f13 : Int} {f14 : Int} {f15 : Int} {f16 : Int} {f17 : Int} {f18 : Int} {f19 : Int} (h : IsS114 w0 W g f0 f1 f2 f3 f4 f5 f6 f7 f8 f9 f10 f11 f12 f13 f14 f15 f16 f17 f18 f19) (x : Int) : IsS114 w0 (W.setCell ⟨g,9,none⟩ (.int .i64 x)) g f0 f1 f2 f3 f4 f5 f6 f7 f8 x f10 f11 f12 f13 f14 f15 f16 f17 f18 f19:=by
 obtain ⟨hb,hg⟩:=h
 exact ⟨by simpa using blk_set hb 9 (.int .i64 x),hg⟩
theorem IsS114.set_10 {w0 W : World} {g : Nat} {f0 : Int} {f1 : Int} {f2 : Int} {f3 : Int} {f4 : Int} {f5 : Int} {f6 : Int} {f7 : Int} {f8 : Int} {f9 : Int} {f10 : Int} {f11 : Int} {f12 : Int} {f13 : Int} {f14 : Int} {f15 : Int} {f16 : Int} {f17 : Int} {f18 : Int} {f19 : Int} (h : IsS114 w0 W g f0 f1 f2 f3 f4 f5 f6 f7 f8 f9 f10 f11 f12 f13 f14 f15 f16 f17 f18 f19) (x : Int) : IsS114 w0 (W.setCell ⟨g,10,none⟩ (.int .i64 x)) g f0 f1 f2 f3 f4 f5 f6 f7 f8 f9 x f11 f12 f13 f14 f15 f16 f17 f18 f19:=by
 obtain ⟨hb,hg⟩:=h
 exact ⟨by simpa using blk_set hb 10 (.int .i64 x),hg⟩
theorem IsS114.set_11 {w0 W : World} {g : Nat} {f0 : Int} {f1 : Int} {f2 : Int} {f3 : Int} {f4 : Int} {f5 : Int} {f6 : Int} {f7 : Int} {f8 : Int} {f9 : Int} {f10 : Int} {f11 : Int} {f12 : Int} {f13 : Int} {f14 : Int} {f15 : Int} {f16 : Int} {f17 : Int} {f18 : Int} {f19 : Int} (h : IsS114 w0 W g f0 f1 f2 f3 f4 f5 f6 f7 f8 f9 f10 f11 f12 f13 f14 f15 f16 f17 f18 f19) (x : Int) : IsS114 w0 (W.setCell ⟨g,11,none⟩ (.int .i64 x)) g f0 f1 f2 f3 f4 f5 f6 f7 f8 f9 f10 x f12 f13 f14 f15 f16 f17 f18 f19:=by
 obtain ⟨hb,hg⟩:=h
 exact ⟨by simpa using blk_set hb 11 (.int .i64 x),hg⟩
theorem IsS114.set_12 {w0 W : World} {g : Nat} {f0 : Int} {f1 : Int} {f2 : Int} {f3 : Int} {f4 : Int} {f5 : Int} {f6 : Int} {f7 : Int} {f8 : Int} {f9 : Int} {f10 : Int} {f11 : Int} {f12 : Int} {f13 : Int} {f14 : Int} {f15 : Int} {f16 : Int} {f17 : Int} {f18 : Int} {f19 : Int} (h : IsS114 w0 W g f0 f1 f2 f3 f4 f5 f6 f7 f8 f9 f10 f11 f12 f13 f14 f15 f16 f17 f18 f19) (x : Int) : IsS114 w0 (W.setCell ⟨g,12,none⟩ (.int .i64 x)) g f0 f1 f2 f3 f4 f5 f6 f7 f8 f9 f10 f11 x f13 f14 f15 f16 f17 f18 f19:=by
 obtain ⟨hb,hg⟩:=h
 exact ⟨by simpa using blk_set hb 12 (.int .i64 x),hg⟩
theorem IsS114.set_13 {w0 W : World} {g : Nat} {f0 : Int} {f1 : Int} {f2 : Int} {f3 : Int} {f4 : Int} {f5 : Int} {f6 : Int} {f7 : Int} {f8 : Int} {f9 : Int} {f10 : Int} {f11 : Int} {f12 : Int} {f13 : Int} {f14 : Int} {f15 : Int} {f16 : Int} {f17 : Int} {f18 : Int} {f19 : Int} (h : IsS114 w0 W g f0 f1 f2 f3 f4 f5 f6 f7 f8 f9 f10 f11 f12 f13 f14 f15 f16 f17 f18 f19) (x : Int) : IsS114 w0 (W.setCell ⟨g,13,none⟩ (.int .i64 x)) g f0 f1 f2 f3 f4 f5 f6 f7 f8 f9 f10 f11 f12 x f14 f15 f16 f17 f18 f19:=by
 obtain ⟨hb,hg⟩:=h
 exact ⟨by simpa using blk_set hb 13 (.int .i64 x),hg⟩
theorem IsS114.set_14 {w0 W : World} {g : Nat} {f0 : Int} {f1 : Int} {f2 : Int} {f3 : Int} {f4 : Int} {f5 : Int} {f6 : Int} {f7 : Int} {f8 : Int} {f9 : Int} {f10 : Int} {f11 : Int} {f12 : Int} {f13 : Int} {f14 : Int} {f15 : Int} {f16 : Int} {f17 : Int} {f18 : Int} {f19 : Int} (h : IsS114 w0 W g f0 f1 f2 f3 f4 f5 f6 f7 f8 f9 f10 f11 f12 f13 f14 f15 f16 f17 f18 f19) (x : Int) : IsS114 w0 (W.setCell ⟨g,14,none⟩ (.int .i64 x)) g f0 f1 f2 f3 f4 f5 f6 f7 f8 f9 f10 f11 f12 f13 x f15 f16 f17 f18 f19:=by
 obtain ⟨hb,hg⟩:=h
 exact ⟨by simpa using blk_set hb 14 (.int .i64 x),hg⟩
theorem IsS114.set_15 {w0 W : World} {g : Nat} {f0 : Int} {f1 : Int} {f2 : Int} {f3 : Int} {f4 : Int} {f5 : Int} {f6 : Int} {f7 : Int} {f8 : Int} {f9 : Int} {f10 : Int} {f11 : Int} {f12 : Int} {f13 : Int} {f14 : Int} {f15 : Int} {f16 : Int} {f17 : Int} {f18 : Int} {f19 : Int} (h : IsS114 w0 W g f0 f1 f2 f3 f4 f5 f6 f7 f8 f9 f10 f11 f12 f13 f14 f15 f16 f17 f18 f19) (x : Int) : IsS114 w0 (W.setCell ⟨g,15,none⟩ (.int .i64 x)) g f0 f1 f2 f3 f4 f5 f6 f7 f8 f9 f10 f11 f12 f13 f14 x f16 f17 f18 f19:=by
 obtain ⟨hb,hg⟩:=h
 exact ⟨by simpa using blk_set hb 15 (.int .i64 x),hg⟩
theorem IsS114.set_16 {w0 W : World} {g : Nat} {f0 : Int} {f1 : Int} {f2 : Int} {f3 : Int} {f4 : Int} {f5 : Int} {f6 : Int} {f7 : Int} {f8 : Int} {f9 : Int} {f10 : Int} {f11 : Int} {f12 : Int} {f13 : Int} {f14 : Int} {f15 : Int} {f16 : Int} {f17 : Int} {f18 : Int} {f19 : Int} (h : IsS114 w0 W g f0 f1 f2 f3 f4 f5 f6 f7 f8 f9 f10 f11 f12 f13 f14 f15 f16 f17 f18 f19) (x : Int) : IsS114 w0 (W.setCell ⟨g,16,none⟩ (.int .i64 x)) g f0 f1 f2 f3 f4 f5 f6 f7 f8 f9 f10 f11 f12 f13 f14 f15 x f17 f18 f19:=by
 obtain ⟨hb,hg⟩:=h
 exact ⟨by simpa using blk_set hb 16 (.int .i64 x),hg⟩
theorem IsS114.set_17 {w0 W : World} {g : Nat} {f0 : Int} {f1 : Int} {f2 : Int} {f3 : Int} {f4 : Int} {f5 : Int} {f6 : Int} {f7 : Int} {f8 : Int} {f9 : Int} {f10 : Int} {f11 : Int} {f12 : Int} {f13 : Int} {f14 : Int} {f15 : Int} {f16 : Int} {f17 : Int} {f18 : Int} {f19 : Int} (h : IsS114 w0 W g f0 f1 f2 f3 f4 f5 f6 f7 f8 f9 f10 f11 f12 f13 f14 f15 f16 f17 f18 f19) (x : Int) : IsS114 w0 (W.setCell ⟨g,17,none⟩ (.int .i64 x)) g f0 f1 f2 f3 f4 f5 f6 f7 f8 f9 f10 f11 f12 f13 f14 f15 f16 x f18 f19:=by
 obtain ⟨hb,hg⟩:=h
 exact ⟨by simpa using blk_set hb 17 (.int .i64 x),hg⟩
theorem IsS114.set_18 {w0 W : World} {g : Nat} {f0 : Int} {f1 : Int} {f2 : Int} {f3 : Int} {f4 : Int} {f5 : Int} {f6 : Int} {f7 : Int} {f8 : Int} {f9 : Int} {f10 : Int} {f11 : Int} {f12 : Int} {f13 : Int} {f14 : Int} {f15 : Int} {f16 : Int} {f17 : Int} {f18 : Int} {f19 : Int} (h : IsS114 w0 W g f0 f1 f2 f3 f4 f5 f6 f7 f8 f9 f10 f11 f12 f13 f14 f15 f16 f17 f18 f19) (x : Int) : IsS114 w0 (W.setCell ⟨g,18,none⟩ (.int .i64 x)) g f0 f1 f2 f3 f4 f5 f6 f7 f8 f9 f10 f11 f12 f13 f14 f15 f16 f17 x f19:=by
 obtain ⟨hb,hg⟩:=h
 exact ⟨by simpa using blk_set hb 18 (.int .i64 x),hg⟩
theorem IsS114.set_19 {w0 W : World} {g : Nat} {f0 : Int} {f1 : Int} {f2 : Int} {f3 : Int} {f4 : Int} {f5 : Int} {f6 : Int} {f7 : Int} {f8 : Int} {f9 : Int} {f10 : Int} {f11 : Int} {f12 : Int} {f13 : Int} {f14 : Int} {f15 : Int} {f16 : Int} {f17 : Int} {f18 : Int} {f19 : Int} (h : IsS114 w0 W g f0 f1 f2 f3 f4 f5 f6 f7 f8 f9 f10 f11 f12 f13 f14 f15 f16 f17 f18 f19) (x : Int) : IsS114 w0 (W.setCell ⟨g,19,none⟩ (.int .i64 x)) g f0 f1 f2 f3 f4 f5 f6 f7 f8 f9 f10 f11 f12 f13 f14 f15 f16 f17 f18 x:=by
 obtain ⟨hb,hg⟩:=h
 exact ⟨by simpa using blk_set hb 19 (.int .i64 x),hg⟩
theorem IsS114.new (w0 W : World) (f0 f1 f2 f3 f4 f5 f6 f7 f8 f9 f10 f11 f12 f13 f14 f15 f16 f17 f18 f19 : Int) (hB : Below w0.heap.size w0 W) : IsS114 w0 (W.alloc (.cells #[.int .i64 f0,.int .i64 f1,.int .i64 f2,.int .i64 f3,.int .i64 f4,.int .i64 f5,.int .i64 f6,.int .i64 f7,.int .i64 f8,.int .i64 f9,.int .i64 f10,.int .i64 f11,.int .i64 f12,.int .i64 f13,.int .i64 f14,.int .i64 f15,.int .i64 f16,.int .i64 f17,.int .i64 f18,.int .i64 f19] 114)) W.heap.size f0 f1 f2 f3 f4 f5 f6 f7 f8 f9 f10 f11 f12 f13 f14 f15 f16 f17 f18 f19:=⟨by simpa using heap_alloc_new W _,hB.size⟩
mutual
def impl_Talk_formOk.j0 : Nat → Bool → Bool → Int → Int → Int → Int → Int → Int → Int → Int → Int → Int → Int → Int → Int → Int → Int → Int → Int → Int → Int → Int → Option (Bool × Int × Int × Int × Int × Int × Int × Int × Int × Int × Int × Int × Int × Int × Int × Int × Int × Int × Int × Int × Int)
 | 0,_,_,_,_,_,_,_,_,_,_,_,_,_,_,_,_,_,_,_,_,_,_ => none
 | k + 1,x3,x9,x1000,x1001,x1002,x1003,x1004,x1005,x1006,x1007,x1008,x1009,x1010,x1011,x1012,x1013,x1014,x1015,x1016,x1017,x1018,x1019 => if x9 = true then (some (false,x1000,x1001,x1002,x1003,x1004,x1005,x1006,x1007,x1008,x1009,x1010,x1011,x1012,x1013,x1014,x1015,x1016,x1017,x1018,x1019)) else (if x1000 = 0 then (if x1001 = 1 then (impl_Talk_formOk.j1 k x3 true x1000 x1001 x1002 x1003 x1004 x1005 x1006 x1007 x1008 x1009 x1010 x1011 x1012 x1013 x1014 x1015 x1016 x1017 x1018 x1019) else (impl_Talk_formOk.j1 k x3 x3 x1000 x1001 x1002 x1003 x1004 x1005 x1006 x1007 x1008 x1009 x1010 x1011 x1012 x1013 x1014 x1015 x1016 x1017 x1018 x1019)) else (impl_Talk_formOk.j1 k x3 false x1000 x1001 x1002 x1003 x1004 x1005 x1006 x1007 x1008 x1009 x1010 x1011 x1012 x1013 x1014 x1015 x1016 x1017 x1018 x1019))
def impl_Talk_formOk.j1 : Nat → Bool → Bool → Int → Int → Int → Int → Int → Int → Int → Int → Int → Int → Int → Int → Int → Int → Int → Int → Int → Int → Int → Int → Option (Bool × Int × Int × Int × Int × Int × Int × Int × Int × Int × Int × Int × Int × Int × Int × Int × Int × Int × Int × Int × Int)
 | 0,_,_,_,_,_,_,_,_,_,_,_,_,_,_,_,_,_,_,_,_,_,_ => none
 | k + 1,x3,x22,x1000,x1001,x1002,x1003,x1004,x1005,x1006,x1007,x1008,x1009,x1010,x1011,x1012,x1013,x1014,x1015,x1016,x1017,x1018,x1019 => if x22 = true then (some (false,x1000,x1001,x1002,x1003,x1004,x1005,x1006,x1007,x1008,x1009,x1010,x1011,x1012,x1013,x1014,x1015,x1016,x1017,x1018,x1019)) else (if x1000 = 0 then (if x3 = true then (some (true,x1000,x1001,x1002,x1003,x1004,x1005,x1006,x1007,x1008,x1009,x1010,x1011,x1012,x1013,x1014,x1015,x1016,x1017,x1018,x1019)) else (if x1017 = 0 then (some ((x1018 == 0 && (x1019 == 0)),x1000,x1001,x1002,x1003,x1004,x1005,x1006,x1007,x1008,x1009,x1010,x1011,x1012,x1013,x1014,x1015,x1016,x1017,x1018,x1019)) else (some (false,x1000,x1001,x1002,x1003,x1004,x1005,x1006,x1007,x1008,x1009,x1010,x1011,x1012,x1013,x1014,x1015,x1016,x1017,x1018,x1019)))) else (if x1001 = 2 then (if x3 = true then (some (true,x1000,x1001,x1002,x1003,x1004,x1005,x1006,x1007,x1008,x1009,x1010,x1011,x1012,x1013,x1014,x1015,x1016,x1017,x1018,x1019)) else (some (false,x1000,x1001,x1002,x1003,x1004,x1005,x1006,x1007,x1008,x1009,x1010,x1011,x1012,x1013,x1014,x1015,x1016,x1017,x1018,x1019))) else (if x3 = true then (some (true,x1000,x1001,x1002,x1003,x1004,x1005,x1006,x1007,x1008,x1009,x1010,x1011,x1012,x1013,x1014,x1015,x1016,x1017,x1018,x1019)) else (if x1017 = 0 then (some ((x1018 == 0 && (x1019 == 0)),x1000,x1001,x1002,x1003,x1004,x1005,x1006,x1007,x1008,x1009,x1010,x1011,x1012,x1013,x1014,x1015,x1016,x1017,x1018,x1019)) else (some (false,x1000,x1001,x1002,x1003,x1004,x1005,x1006,x1007,x1008,x1009,x1010,x1011,x1012,x1013,x1014,x1015,x1016,x1017,x1018,x1019))))))
end
def impl_Talk_formOk.f (k : Nat) (s0_0 s0_1 s0_2 s0_3 s0_4 s0_5 s0_6 s0_7 s0_8 s0_9 s0_10 s0_11 s0_12 s0_13 s0_14 s0_15 s0_16 s0_17 s0_18 s0_19 : Int) : Option (Bool × Int × Int × Int × Int × Int × Int × Int × Int × Int × Int × Int × Int × Int × Int × Int × Int × Int × Int × Int × Int):=if s0_1 = 2 then (impl_Talk_formOk.j0 k (s0_2 == 3) (s0_2 == 1) s0_0 s0_1 s0_2 s0_3 s0_4 s0_5 s0_6 s0_7 s0_8 s0_9 s0_10 s0_11 s0_12 s0_13 s0_14 s0_15 s0_16 s0_17 s0_18 s0_19) else (impl_Talk_formOk.j0 k (s0_2 == 3) false s0_0 s0_1 s0_2 s0_3 s0_4 s0_5 s0_6 s0_7 s0_8 s0_9 s0_10 s0_11 s0_12 s0_13 s0_14 s0_15 s0_16 s0_17 s0_18 s0_19)
set_option maxHeartbeats 8000000 in
set_option maxRecDepth 100000 in
theorem impl_Talk_formOk.calls (k g : Nat) (s0_0 s0_1 s0_2 s0_3 s0_4 s0_5 s0_6 s0_7 s0_8 s0_9 s0_10 s0_11 s0_12 s0_13 s0_14 s0_15 s0_16 s0_17 s0_18 s0_19 : Int) (r1 : Bool) (r2 r3 r4 r5 r6 r7 r8 r9 r10 r11 r12 r13 r14 r15 r16 r17 r18 r19 r20 r21 : Int) (w0 w : World) (hI : IsS114 w0 w g s0_0 s0_1 s0_2 s0_3 s0_4 s0_5 s0_6 s0_7 s0_8 s0_9 s0_10 s0_11 s0_12 s0_13 s0_14 s0_15 s0_16 s0_17 s0_18 s0_19) (hB : Below w0.heap.size w0 w) (h : impl_Talk_formOk.f k s0_0 s0_1 s0_2 s0_3 s0_4 s0_5 s0_6 s0_7 s0_8 s0_9 s0_10 s0_11 s0_12 s0_13 s0_14 s0_15 s0_16 s0_17 s0_18 s0_19 = some (r1,r2,r3,r4,r5,r6,r7,r8,r9,r10,r11,r12,r13,r14,r15,r16,r17,r18,r19,r20,r21)) :
  Calls Tryz.prog 111 #[.pointer (some ⟨g,0,none⟩)] w fun e w' => e = .returned (.bool r1) ∧ IsS114 w0 w' g r2 r3 r4 r5 r6 r7 r8 r9 r10 r11 r12 r13 r14 r15 r16 r17 r18 r19 r20 r21 ∧ Below w0.heap.size w0 w' ∧ KeepBut w w' g none:=by
 have hu112:=Tryz.underlying112
 have HI0:=Z_ hI
 have HK:=Z_ (KeepBut.refl w g none)
 have HL:=Z_ hB.size
 clear hI
 have HW0:=Z_ hB.size
 have HB:=Z_ hB
 clear hB
 unfold impl_Talk_formOk.f at h
 have H:=h
 clear h
 have a0:=Z_ H
 clear H
 obtain ⟨_,_,_,_,_,_,_,_,_,_,_,_,_,_,_,_,_,_,_,_,_,_,_,_,_,_,_,_,_,_,_,_,_,_,_,_,_,_,_,_⟩:=bc20 HI0.out.1
 go_enter Tryz.func111,Tryz.ntmps111
 go_upto_region 2 with (fail)
 go_cut [9] (fun v9 wc => ∃ (kq : Nat) (x9_1 : Bool),v9 = .bool x9_1 ∧ Aside0 (impl_Talk_formOk.j0 kq (s0_2 == 3) x9_1 s0_0 s0_1 s0_2 s0_3 s0_4 s0_5 s0_6 s0_7 s0_8 s0_9 s0_10 s0_11 s0_12 s0_13 s0_14 s0_15 s0_16 s0_17 s0_18 s0_19 = some (r1,r2,r3,r4,r5,r6,r7,r8,r9,r10,r11,r12,r13,r14,r15,r16,r17,r18,r19,r20,r21)) ∧ Aside0 (kq ≤ k) ∧ Aside0 (IsS114 w0 wc g s0_0 s0_1 s0_2 s0_3 s0_4 s0_5 s0_6 s0_7 s0_8 s0_9 s0_10 s0_11 s0_12 s0_13 s0_14 s0_15 s0_16 s0_17 s0_18 s0_19) ∧ Aside0 (KeepBut w wc g none) ∧ Aside0 (Below w0.heap.size w0 wc))
 case first =>
  have H:=a0.out
  clear a0
  replace H:=iE_ H
  obtain ⟨c4b0,c4b1,H⟩ | ⟨c4b0,c4b1,H⟩:=H
  rotate_left
  ·(first | rw [c4b0] | (simp only [i64_w,i32_w];rw [c4b0]) | skip)
   have H':=Z_ H
   clear H
   obtain ⟨_,_,_,_,_,_,_,_,_,_,_,_,_,_,_,_,_,_,_,_,_,_,_,_,_,_,_,_,_,_,_,_,_,_,_,_,_,_,_,_⟩:=bc20 HI0.out.1
   go_wp2
   go_meet
   case rel => exact ⟨_,(false),Sr_,H',Ol_,⟨by repeat (first | (with_reducible first | exact HI0.out | apply IsS114.alloc | apply IsS114.drewN | apply IsS114.drew | apply IsS114.set_0 | apply IsS114.set_1 | apply IsS114.set_2 | apply IsS114.set_3 | apply IsS114.set_4 | apply IsS114.set_5 | apply IsS114.set_6 | apply IsS114.set_7 | apply IsS114.set_8 | apply IsS114.set_9 | apply IsS114.set_10 | apply IsS114.set_11 | apply IsS114.set_12 | apply IsS114.set_13 | apply IsS114.set_14 | apply IsS114.set_15 | apply IsS114.set_16 | apply IsS114.set_17 | apply IsS114.set_18 | apply IsS114.set_19) | exact HI0.out)⟩,⟨by repeat (first | (with_reducible first | exact HK.out | apply KeepBut.set_ | apply kN_ | apply kD_ | apply kA_) | exact HK.out)⟩,⟨by repeat (first | (with_reducible first | exact HB.out | apply lA1_ | apply lN_ | apply lD_ | refine lS1_ ?_ (IsS114.ge HI0.out)) | exact HB.out)⟩⟩
  rotate_right
  (first | rw [c4b0] | (simp only [i64_w,i32_w];rw [c4b0]) | skip)
  have H':=Z_ H
  clear H
  obtain ⟨_,_,_,_,_,_,_,_,_,_,_,_,_,_,_,_,_,_,_,_,_,_,_,_,_,_,_,_,_,_,_,_,_,_,_,_,_,_,_,_⟩:=bc20 HI0.out.1
  go_wp2
  go_meet
  case rel => exact ⟨_,((s0_2 == 1)),Sr_,H',Ol_,⟨by repeat (first | (with_reducible first | exact HI0.out | apply IsS114.alloc | apply IsS114.drewN | apply IsS114.drew | apply IsS114.set_0 | apply IsS114.set_1 | apply IsS114.set_2 | apply IsS114.set_3 | apply IsS114.set_4 | apply IsS114.set_5 | apply IsS114.set_6 | apply IsS114.set_7 | apply IsS114.set_8 | apply IsS114.set_9 | apply IsS114.set_10 | apply IsS114.set_11 | apply IsS114.set_12 | apply IsS114.set_13 | apply IsS114.set_14 | apply IsS114.set_15 | apply IsS114.set_16 | apply IsS114.set_17 | apply IsS114.set_18 | apply IsS114.set_19) | exact HI0.out)⟩,⟨by repeat (first | (with_reducible first | exact HK.out | apply KeepBut.set_ | apply kN_ | apply kD_ | apply kA_) | exact HK.out)⟩,⟨by repeat (first | (with_reducible first | exact HB.out | apply lA1_ | apply lN_ | apply lD_ | refine lS1_ ?_ (IsS114.ge HI0.out)) | exact HB.out)⟩⟩
 case rest =>
  clear a0
  try clear c1
  try clear p2
  try clear c4
  try clear c4b0
  try clear c4b1
  obtain ⟨kq,x9_1,rfl,HA,HJ1,HI0,HK,HB⟩:=hcut
  cases kq with
  | zero => exact absurd HA.out (by simp [impl_Talk_formOk.j0])
  | succ kj1 =>
   have H:=HA.out
   clear HA
   simp only [impl_Talk_formOk.j0] at H
   replace H:=iB_ H
   obtain ⟨rfl,H⟩ | ⟨rfl,H⟩:=H
   ·simp only [Option.some.injEq,Prod.mk.injEq] at H
    obtain ⟨rfl,rfl,rfl,rfl,rfl,rfl,rfl,rfl,rfl,rfl,rfl,rfl,rfl,rfl,rfl,rfl,rfl,rfl,rfl,rfl,rfl⟩:=H
    go_wp2
    go_ret
    exact ⟨Er_,by repeat (first | (with_reducible first | exact HI0.out | apply IsS114.alloc | apply IsS114.drewN | apply IsS114.drew | apply IsS114.set_0 | apply IsS114.set_1 | apply IsS114.set_2 | apply IsS114.set_3 | apply IsS114.set_4 | apply IsS114.set_5 | apply IsS114.set_6 | apply IsS114.set_7 | apply IsS114.set_8 | apply IsS114.set_9 | apply IsS114.set_10 | apply IsS114.set_11 | apply IsS114.set_12 | apply IsS114.set_13 | apply IsS114.set_14 | apply IsS114.set_15 | apply IsS114.set_16 | apply IsS114.set_17 | apply IsS114.set_18 | apply IsS114.set_19) | exact HI0.out),by repeat (first | (with_reducible first | exact HB.out | apply lA1_ | apply lN_ | apply lD_ | refine lS1_ ?_ (IsS114.ge HI0.out)) | exact HB.out),by repeat (first | (with_reducible first | exact HK.out | apply KeepBut.set_ | apply kN_ | apply kD_ | apply kA_) | exact HK.out)⟩
   have a1:=Z_ H
   clear H
   go_upto_region 4 with (fail)
   go_cut [22] (fun v22 wc => ∃ (kq : Nat) (x22_7 : Bool),v22 = .bool x22_7 ∧ Aside0 (impl_Talk_formOk.j1 kq (s0_2 == 3) x22_7 s0_0 s0_1 s0_2 s0_3 s0_4 s0_5 s0_6 s0_7 s0_8 s0_9 s0_10 s0_11 s0_12 s0_13 s0_14 s0_15 s0_16 s0_17 s0_18 s0_19 = some (r1,r2,r3,r4,r5,r6,r7,r8,r9,r10,r11,r12,r13,r14,r15,r16,r17,r18,r19,r20,r21)) ∧ Aside0 (kq ≤ kj1) ∧ Aside0 (IsS114 w0 wc g s0_0 s0_1 s0_2 s0_3 s0_4 s0_5 s0_6 s0_7 s0_8 s0_9 s0_10 s0_11 s0_12 s0_13 s0_14 s0_15 s0_16 s0_17 s0_18 s0_19) ∧ Aside0 (KeepBut w wc g none) ∧ Aside0 (Below w0.heap.size w0 wc))
   case first =>
    have H:=a1.out
    clear a1
    replace H:=iE_ H
    obtain ⟨c9b0,c9b1,H⟩ | ⟨c9b0,c9b1,H⟩:=H
    rotate_left
    ·(first | rw [c9b0] | (simp only [i64_w,i32_w];rw [c9b0]) | skip)
     have H':=Z_ H
     clear H
     obtain ⟨_,_,_,_,_,_,_,_,_,_,_,_,_,_,_,_,_,_,_,_,_,_,_,_,_,_,_,_,_,_,_,_,_,_,_,_,_,_,_,_⟩:=bc20 HI0.out.1
     go_wp2
     go_meet
     case rel => exact ⟨_,(false),Sr_,H',⟨by have:=HJ1.out;first | omega | exact Nat.le_refl _⟩,⟨by repeat (first | (with_reducible first | exact HI0.out | apply IsS114.alloc | apply IsS114.drewN | apply IsS114.drew | apply IsS114.set_0 | apply IsS114.set_1 | apply IsS114.set_2 | apply IsS114.set_3 | apply IsS114.set_4 | apply IsS114.set_5 | apply IsS114.set_6 | apply IsS114.set_7 | apply IsS114.set_8 | apply IsS114.set_9 | apply IsS114.set_10 | apply IsS114.set_11 | apply IsS114.set_12 | apply IsS114.set_13 | apply IsS114.set_14 | apply IsS114.set_15 | apply IsS114.set_16 | apply IsS114.set_17 | apply IsS114.set_18 | apply IsS114.set_19) | exact HI0.out)⟩,⟨by repeat (first | (with_reducible first | exact HK.out | apply KeepBut.set_ | apply kN_ | apply kD_ | apply kA_) | exact HK.out)⟩,⟨by repeat (first | (with_reducible first | exact HB.out | apply lA1_ | apply lN_ | apply lD_ | refine lS1_ ?_ (IsS114.ge HI0.out)) | exact HB.out)⟩⟩
    rotate_right
    (first | rw [c9b0] | (simp only [i64_w,i32_w];rw [c9b0]) | skip)
    replace H:=iE_ H
    obtain ⟨c10b0,c10b1,H⟩ | ⟨c10b0,c10b1,H⟩:=H
    rotate_left
    ·have H':=Z_ H
     clear H
     obtain ⟨_,_,_,_,_,_,_,_,_,_,_,_,_,_,_,_,_,_,_,_,_,_,_,_,_,_,_,_,_,_,_,_,_,_,_,_,_,_,_,_⟩:=bc20 HI0.out.1
     go_wp2
     go_meet
     case rel => exact ⟨_,((s0_2 == 3)),Sr_,H',⟨by have:=HJ1.out;first | omega | exact Nat.le_refl _⟩,⟨by repeat (first | (with_reducible first | exact HI0.out | apply IsS114.alloc | apply IsS114.drewN | apply IsS114.drew | apply IsS114.set_0 | apply IsS114.set_1 | apply IsS114.set_2 | apply IsS114.set_3 | apply IsS114.set_4 | apply IsS114.set_5 | apply IsS114.set_6 | apply IsS114.set_7 | apply IsS114.set_8 | apply IsS114.set_9 | apply IsS114.set_10 | apply IsS114.set_11 | apply IsS114.set_12 | apply IsS114.set_13 | apply IsS114.set_14 | apply IsS114.set_15 | apply IsS114.set_16 | apply IsS114.set_17 | apply IsS114.set_18 | apply IsS114.set_19) | exact HI0.out)⟩,⟨by repeat (first | (with_reducible first | exact HK.out | apply KeepBut.set_ | apply kN_ | apply kD_ | apply kA_) | exact HK.out)⟩,⟨by repeat (first | (with_reducible first | exact HB.out | apply lA1_ | apply lN_ | apply lD_ | refine lS1_ ?_ (IsS114.ge HI0.out)) | exact HB.out)⟩⟩
    rotate_right
    have H':=Z_ H
    clear H
    obtain ⟨_,_,_,_,_,_,_,_,_,_,_,_,_,_,_,_,_,_,_,_,_,_,_,_,_,_,_,_,_,_,_,_,_,_,_,_,_,_,_,_⟩:=bc20 HI0.out.1
    go_wp2
    go_meet
    case rel => exact ⟨_,(true),Sr_,H',⟨by have:=HJ1.out;first | omega | exact Nat.le_refl _⟩,⟨by repeat (first | (with_reducible first | exact HI0.out | apply IsS114.alloc | apply IsS114.drewN | apply IsS114.drew | apply IsS114.set_0 | apply IsS114.set_1 | apply IsS114.set_2 | apply IsS114.set_3 | apply IsS114.set_4 | apply IsS114.set_5 | apply IsS114.set_6 | apply IsS114.set_7 | apply IsS114.set_8 | apply IsS114.set_9 | apply IsS114.set_10 | apply IsS114.set_11 | apply IsS114.set_12 | apply IsS114.set_13 | apply IsS114.set_14 | apply IsS114.set_15 | apply IsS114.set_16 | apply IsS114.set_17 | apply IsS114.set_18 | apply IsS114.set_19) | exact HI0.out)⟩,⟨by repeat (first | (with_reducible first | exact HK.out | apply KeepBut.set_ | apply kN_ | apply kD_ | apply kA_) | exact HK.out)⟩,⟨by repeat (first | (with_reducible first | exact HB.out | apply lA1_ | apply lN_ | apply lD_ | refine lS1_ ?_ (IsS114.ge HI0.out)) | exact HB.out)⟩⟩
   case rest =>
    clear a1
    try clear c1
    try clear p2
    try clear c4
    try clear c4b0
    try clear c4b1
    try clear c7
    try clear c9
    try clear c9b0
    try clear c9b1
    try clear c10
    try clear c10b0
    try clear c10b1
    try clear c11
    try clear p2
    obtain ⟨kq,x22_7,rfl,HA,HJ7,HI0,HK,HB⟩:=hcut
    cases kq with
    | zero => exact absurd HA.out (by simp [impl_Talk_formOk.j1])
    | succ kj7 =>
     have H:=HA.out
     clear HA
     simp only [impl_Talk_formOk.j1] at H
     replace H:=iB_ H
     obtain ⟨rfl,H⟩ | ⟨rfl,H⟩:=H
     ·simp only [Option.some.injEq,Prod.mk.injEq] at H
      obtain ⟨rfl,rfl,rfl,rfl,rfl,rfl,rfl,rfl,rfl,rfl,rfl,rfl,rfl,rfl,rfl,rfl,rfl,rfl,rfl,rfl,rfl⟩:=H
      go_wp2
      go_ret
      exact ⟨Er_,by repeat (first | (with_reducible first | exact HI0.out | apply IsS114.alloc | apply IsS114.drewN | apply IsS114.drew | apply IsS114.set_0 | apply IsS114.set_1 | apply IsS114.set_2 | apply IsS114.set_3 | apply IsS114.set_4 | apply IsS114.set_5 | apply IsS114.set_6 | apply IsS114.set_7 | apply IsS114.set_8 | apply IsS114.set_9 | apply IsS114.set_10 | apply IsS114.set_11 | apply IsS114.set_12 | apply IsS114.set_13 | apply IsS114.set_14 | apply IsS114.set_15 | apply IsS114.set_16 | apply IsS114.set_17 | apply IsS114.set_18 | apply IsS114.set_19) | exact HI0.out),by repeat (first | (with_reducible first | exact HB.out | apply lA1_ | apply lN_ | apply lD_ | refine lS1_ ?_ (IsS114.ge HI0.out)) | exact HB.out),by repeat (first | (with_reducible first | exact HK.out | apply KeepBut.set_ | apply kN_ | apply kD_ | apply kA_) | exact HK.out)⟩
     replace H:=iE_ H
     obtain ⟨c15b0,c15b1,H⟩ | ⟨c15b0,c15b1,H⟩:=H
     ·replace H:=iC_ H
      obtain ⟨c16,H⟩ | ⟨c16,H⟩:=H
      ·have c16b0 : (s0_2 == 3) = true:=c16
       (try (have c16b1 : decide (s0_2 = 3) = true:=by simpa using c16))
       (try (have c16b2 : (s0_2 == 3) = true:=by simpa using c16))
       clear c16
       simp only [Option.some.injEq,Prod.mk.injEq] at H
       obtain ⟨rfl,rfl,rfl,rfl,rfl,rfl,rfl,rfl,rfl,rfl,rfl,rfl,rfl,rfl,rfl,rfl,rfl,rfl,rfl,rfl,rfl⟩:=H
       obtain ⟨_,_,_,_,_,_,_,_,_,_,_,_,_,_,_,_,_,_,_,_,_,_,_,_,_,_,_,_,_,_,_,_,_,_,_,_,_,_,_,_⟩:=bc20 HI0.out.1
       go_wp2
       go_ret
       exact ⟨Er_,by repeat (first | (with_reducible first | exact HI0.out | apply IsS114.alloc | apply IsS114.drewN | apply IsS114.drew | apply IsS114.set_0 | apply IsS114.set_1 | apply IsS114.set_2 | apply IsS114.set_3 | apply IsS114.set_4 | apply IsS114.set_5 | apply IsS114.set_6 | apply IsS114.set_7 | apply IsS114.set_8 | apply IsS114.set_9 | apply IsS114.set_10 | apply IsS114.set_11 | apply IsS114.set_12 | apply IsS114.set_13 | apply IsS114.set_14 | apply IsS114.set_15 | apply IsS114.set_16 | apply IsS114.set_17 | apply IsS114.set_18 | apply IsS114.set_19) | exact HI0.out),by repeat (first | (with_reducible first | exact HB.out | apply lA1_ | apply lN_ | apply lD_ | refine lS1_ ?_ (IsS114.ge HI0.out)) | exact HB.out),by repeat (first | (with_reducible first | exact HK.out | apply KeepBut.set_ | apply kN_ | apply kD_ | apply kA_) | exact HK.out)⟩
      have c16b0 : (s0_2 == 3) = false:=by simpa using c16
      (try (have c16b1 : decide (s0_2 = 3) = false:=by simpa using c16))
      (try (have c16b2 : (s0_2 == 3) = false:=by simpa using c16))
      (try (have c16b3 : ¬ (s0_2 = 3):=by simpa using c16))
      clear c16
      replace H:=iE_ H
      obtain ⟨c18b0,c18b1,H⟩ | ⟨c18b0,c18b1,H⟩:=H
      rotate_left
      ·simp only [Option.some.injEq,Prod.mk.injEq] at H
       obtain ⟨rfl,rfl,rfl,rfl,rfl,rfl,rfl,rfl,rfl,rfl,rfl,rfl,rfl,rfl,rfl,rfl,rfl,rfl,rfl,rfl,rfl⟩:=H
       obtain ⟨_,_,_,_,_,_,_,_,_,_,_,_,_,_,_,_,_,_,_,_,_,_,_,_,_,_,_,_,_,_,_,_,_,_,_,_,_,_,_,_⟩:=bc20 HI0.out.1
       go_wp2
       go_ret
       exact ⟨Er_,by repeat (first | (with_reducible first | exact HI0.out | apply IsS114.alloc | apply IsS114.drewN | apply IsS114.drew | apply IsS114.set_0 | apply IsS114.set_1 | apply IsS114.set_2 | apply IsS114.set_3 | apply IsS114.set_4 | apply IsS114.set_5 | apply IsS114.set_6 | apply IsS114.set_7 | apply IsS114.set_8 | apply IsS114.set_9 | apply IsS114.set_10 | apply IsS114.set_11 | apply IsS114.set_12 | apply IsS114.set_13 | apply IsS114.set_14 | apply IsS114.set_15 | apply IsS114.set_16 | apply IsS114.set_17 | apply IsS114.set_18 | apply IsS114.set_19) | exact HI0.out),by repeat (first | (with_reducible first | exact HB.out | apply lA1_ | apply lN_ | apply lD_ | refine lS1_ ?_ (IsS114.ge HI0.out)) | exact HB.out),by repeat (first | (with_reducible first | exact HK.out | apply KeepBut.set_ | apply kN_ | apply kD_ | apply kA_) | exact HK.out)⟩
      rotate_right
      simp only [Option.some.injEq,Prod.mk.injEq] at H
      obtain ⟨rfl,rfl,rfl,rfl,rfl,rfl,rfl,rfl,rfl,rfl,rfl,rfl,rfl,rfl,rfl,rfl,rfl,rfl,rfl,rfl,rfl⟩:=H
      obtain ⟨_,_,_,_,_,_,_,_,_,_,_,_,_,_,_,_,_,_,_,_,_,_,_,_,_,_,_,_,_,_,_,_,_,_,_,_,_,_,_,_⟩:=bc20 HI0.out.1
      go_wp2
      go_ret
      exact ⟨Er_,by repeat (first | (with_reducible first | exact HI0.out | apply IsS114.alloc | apply IsS114.drewN | apply IsS114.drew | apply IsS114.set_0 | apply IsS114.set_1 | apply IsS114.set_2 | apply IsS114.set_3 | apply IsS114.set_4 | apply IsS114.set_5 | apply IsS114.set_6 | apply IsS114.set_7 | apply IsS114.set_8 | apply IsS114.set_9 | apply IsS114.set_10 | apply IsS114.set_11 | apply IsS114.set_12 | apply IsS114.set_13 | apply IsS114.set_14 | apply IsS114.set_15 | apply IsS114.set_16 | apply IsS114.set_17 | apply IsS114.set_18 | apply IsS114.set_19) | exact HI0.out),by repeat (first | (with_reducible first | exact HB.out | apply lA1_ | apply lN_ | apply lD_ | refine lS1_ ?_ (IsS114.ge HI0.out)) | exact HB.out),by repeat (first | (with_reducible first | exact HK.out | apply KeepBut.set_ | apply kN_ | apply kD_ | apply kA_) | exact HK.out)⟩
     replace H:=iE_ H
     obtain ⟨c21b0,c21b1,H⟩ | ⟨c21b0,c21b1,H⟩:=H
     ·replace H:=iC_ H
      obtain ⟨c22,H⟩ | ⟨c22,H⟩:=H
      ·have c22b0 : (s0_2 == 3) = true:=c22
       (try (have c22b1 : decide (s0_2 = 3) = true:=by simpa using c22))
       (try (have c22b2 : (s0_2 == 3) = true:=by simpa using c22))
       clear c22
       simp only [Option.some.injEq,Prod.mk.injEq] at H
       obtain ⟨rfl,rfl,rfl,rfl,rfl,rfl,rfl,rfl,rfl,rfl,rfl,rfl,rfl,rfl,rfl,rfl,rfl,rfl,rfl,rfl,rfl⟩:=H
       obtain ⟨_,_,_,_,_,_,_,_,_,_,_,_,_,_,_,_,_,_,_,_,_,_,_,_,_,_,_,_,_,_,_,_,_,_,_,_,_,_,_,_⟩:=bc20 HI0.out.1
       go_wp2
       go_ret
       exact ⟨Er_,by repeat (first | (with_reducible first | exact HI0.out | apply IsS114.alloc | apply IsS114.drewN | apply IsS114.drew | apply IsS114.set_0 | apply IsS114.set_1 | apply IsS114.set_2 | apply IsS114.set_3 | apply IsS114.set_4 | apply IsS114.set_5 | apply IsS114.set_6 | apply IsS114.set_7 | apply IsS114.set_8 | apply IsS114.set_9 | apply IsS114.set_10 | apply IsS114.set_11 | apply IsS114.set_12 | apply IsS114.set_13 | apply IsS114.set_14 | apply IsS114.set_15 | apply IsS114.set_16 | apply IsS114.set_17 | apply IsS114.set_18 | apply IsS114.set_19) | exact HI0.out),by repeat (first | (with_reducible first | exact HB.out | apply lA1_ | apply lN_ | apply lD_ | refine lS1_ ?_ (IsS114.ge HI0.out)) | exact HB.out),by repeat (first | (with_reducible first | exact HK.out | apply KeepBut.set_ | apply kN_ | apply kD_ | apply kA_) | exact HK.out)⟩
      have c22b0 : (s0_2 == 3) = false:=by simpa using c22
      (try (have c22b1 : decide (s0_2 = 3) = false:=by simpa using c22))
      (try (have c22b2 : (s0_2 == 3) = false:=by simpa using c22))
      (try (have c22b3 : ¬ (s0_2 = 3):=by simpa using c22))
      clear c22
      simp only [Option.some.injEq,Prod.mk.injEq] at H
      obtain ⟨rfl,rfl,rfl,rfl,rfl,rfl,rfl,rfl,rfl,rfl,rfl,rfl,rfl,rfl,rfl,rfl,rfl,rfl,rfl,rfl,rfl⟩:=H
      obtain ⟨_,_,_,_,_,_,_,_,_,_,_,_,_,_,_,_,_,_,_,_,_,_,_,_,_,_,_,_,_,_,_,_,_,_,_,_,_,_,_,_⟩:=bc20 HI0.out.1
      go_wp2
      go_ret
      exact ⟨Er_,by repeat (first | (with_reducible first | exact HI0.out | apply IsS114.alloc | apply IsS114.drewN | apply IsS114.drew | apply IsS114.set_0 | apply IsS114.set_1 | apply IsS114.set_2 | apply IsS114.set_3 | apply IsS114.set_4 | apply IsS114.set_5 | apply IsS114.set_6 | apply IsS114.set_7 | apply IsS114.set_8 | apply IsS114.set_9 | apply IsS114.set_10 | apply IsS114.set_11 | apply IsS114.set_12 | apply IsS114.set_13 | apply IsS114.set_14 | apply IsS114.set_15 | apply IsS114.set_16 | apply IsS114.set_17 | apply IsS114.set_18 | apply IsS114.set_19) | exact HI0.out),by repeat (first | (with_reducible first | exact HB.out | apply lA1_ | apply lN_ | apply lD_ | refine lS1_ ?_ (IsS114.ge HI0.out)) | exact HB.out),by repeat (first | (with_reducible first | exact HK.out | apply KeepBut.set_ | apply kN_ | apply kD_ | apply kA_) | exact HK.out)⟩
     replace H:=iC_ H
     obtain ⟨c25,H⟩ | ⟨c25,H⟩:=H
     ·have c25b0 : (s0_2 == 3) = true:=c25
      (try (have c25b1 : decide (s0_2 = 3) = true:=by simpa using c25))
      (try (have c25b2 : (s0_2 == 3) = true:=by simpa using c25))
      clear c25
      simp only [Option.some.injEq,Prod.mk.injEq] at H
      obtain ⟨rfl,rfl,rfl,rfl,rfl,rfl,rfl,rfl,rfl,rfl,rfl,rfl,rfl,rfl,rfl,rfl,rfl,rfl,rfl,rfl,rfl⟩:=H
      obtain ⟨_,_,_,_,_,_,_,_,_,_,_,_,_,_,_,_,_,_,_,_,_,_,_,_,_,_,_,_,_,_,_,_,_,_,_,_,_,_,_,_⟩:=bc20 HI0.out.1
      go_wp2
      go_ret
      exact ⟨Er_,by repeat (first | (with_reducible first | exact HI0.out | apply IsS114.alloc | apply IsS114.drewN | apply IsS114.drew | apply IsS114.set_0 | apply IsS114.set_1 | apply IsS114.set_2 | apply IsS114.set_3 | apply IsS114.set_4 | apply IsS114.set_5 | apply IsS114.set_6 | apply IsS114.set_7 | apply IsS114.set_8 | apply IsS114.set_9 | apply IsS114.set_10 | apply IsS114.set_11 | apply IsS114.set_12 | apply IsS114.set_13 | apply IsS114.set_14 | apply IsS114.set_15 | apply IsS114.set_16 | apply IsS114.set_17 | apply IsS114.set_18 | apply IsS114.set_19) | exact HI0.out),by repeat (first | (with_reducible first | exact HB.out | apply lA1_ | apply lN_ | apply lD_ | refine lS1_ ?_ (IsS114.ge HI0.out)) | exact HB.out),by repeat (first | (with_reducible first | exact HK.out | apply KeepBut.set_ | apply kN_ | apply kD_ | apply kA_) | exact HK.out)⟩
     have c25b0 : (s0_2 == 3) = false:=by simpa using c25
     (try (have c25b1 : decide (s0_2 = 3) = false:=by simpa using c25))
     (try (have c25b2 : (s0_2 == 3) = false:=by simpa using c25))
     (try (have c25b3 : ¬ (s0_2 = 3):=by simpa using c25))
     clear c25
     replace H:=iE_ H
     obtain ⟨c27b0,c27b1,H⟩ | ⟨c27b0,c27b1,H⟩:=H
     rotate_left
     ·simp only [Option.some.injEq,Prod.mk.injEq] at H
      obtain ⟨rfl,rfl,rfl,rfl,rfl,rfl,rfl,rfl,rfl,rfl,rfl,rfl,rfl,rfl,rfl,rfl,rfl,rfl,rfl,rfl,rfl⟩:=H
      obtain ⟨_,_,_,_,_,_,_,_,_,_,_,_,_,_,_,_,_,_,_,_,_,_,_,_,_,_,_,_,_,_,_,_,_,_,_,_,_,_,_,_⟩:=bc20 HI0.out.1
      go_wp2
      go_ret
      exact ⟨Er_,by repeat (first | (with_reducible first | exact HI0.out | apply IsS114.alloc | apply IsS114.drewN | apply IsS114.drew | apply IsS114.set_0 | apply IsS114.set_1 | apply IsS114.set_2 | apply IsS114.set_3 | apply IsS114.set_4 | apply IsS114.set_5 | apply IsS114.set_6 | apply IsS114.set_7 | apply IsS114.set_8 | apply IsS114.set_9 | apply IsS114.set_10 | apply IsS114.set_11 | apply IsS114.set_12 | apply IsS114.set_13 | apply IsS114.set_14 | apply IsS114.set_15 | apply IsS114.set_16 | apply IsS114.set_17 | apply IsS114.set_18 | apply IsS114.set_19) | exact HI0.out),by repeat (first | (with_reducible first | exact HB.out | apply lA1_ | apply lN_ | apply lD_ | refine lS1_ ?_ (IsS114.ge HI0.out)) | exact HB.out),by repeat (first | (with_reducible first | exact HK.out | apply KeepBut.set_ | apply kN_ | apply kD_ | apply kA_) | exact HK.out)⟩
     rotate_right
     simp only [Option.some.injEq,Prod.mk.injEq] at H
     obtain ⟨rfl,rfl,rfl,rfl,rfl,rfl,rfl,rfl,rfl,rfl,rfl,rfl,rfl,rfl,rfl,rfl,rfl,rfl,rfl,rfl,rfl⟩:=H
     obtain ⟨_,_,_,_,_,_,_,_,_,_,_,_,_,_,_,_,_,_,_,_,_,_,_,_,_,_,_,_,_,_,_,_,_,_,_,_,_,_,_,_⟩:=bc20 HI0.out.1
     go_wp2
     go_ret
     exact ⟨Er_,by repeat (first | (with_reducible first | exact HI0.out | apply IsS114.alloc | apply IsS114.drewN | apply IsS114.drew | apply IsS114.set_0 | apply IsS114.set_1 | apply IsS114.set_2 | apply IsS114.set_3 | apply IsS114.set_4 | apply IsS114.set_5 | apply IsS114.set_6 | apply IsS114.set_7 | apply IsS114.set_8 | apply IsS114.set_9 | apply IsS114.set_10 | apply IsS114.set_11 | apply IsS114.set_12 | apply IsS114.set_13 | apply IsS114.set_14 | apply IsS114.set_15 | apply IsS114.set_16 | apply IsS114.set_17 | apply IsS114.set_18 | apply IsS114.set_19) | exact HI0.out),by repeat (first | (with_reducible first | exact HB.out | apply lA1_ | apply lN_ | apply lD_ | refine lS1_ ?_ (IsS114.ge HI0.out)) | exact HB.out),by repeat (first | (with_reducible first | exact HK.out | apply KeepBut.set_ | apply kN_ | apply kD_ | apply kA_) | exact HK.out)⟩
end Go.Proofs.YtcafikgabidphaaGreat.G
namespace Go.Proofs.YtcafikgabidphaaGreat.G
open Go.RowKit Go.Proofs.YtcafikgabidphaaGreatW.PrintWords Go.Proofs.YtcafikgabidphaaGreatW.PrintLast Go.Proofs.YtcafikgabidphaaGreatW.PrintMore
attribute [local go_sem] max2_int min2_int max_two min_two max_three min_three max_four min_four   -- for this text's walks alone
set_option linter.unusedVariables false
set_option linter.unusedSimpArgs false
section
theorem repsG_ {w : World} {base : Nat} {ok : Nat → Prop} : ∀ xs : List Int,Reps ((Kd.int .i64).M w base ok) (Kd.int .i64).sz xs (xs.map (Value.int .i64))
  | xs => ⟨by simp [Kd.int,Kd.scalar],fun j p h => by
    obtain ⟨hj,rfl⟩:=List.getElem?_eq_some_iff.1 h
    show ((xs.map (Value.int .i64)).drop (j * 1)).take 1 = [Value.int .i64 xs[j]]
    rw [Nat.mul_one,List.drop_eq_getElem_cons (by simpa using hj)]
    simp⟩
set_option maxHeartbeats 4000000 in
set_option maxRecDepth 100000 in
theorem impl_TalkFault_1.calls (A0 : Option Addr) (n c0 K B : Nat) (kb : Bool) (x : Int) (hn : n ≤ 9223372036854775807) (W : World) (hk : W.cell? ⟨K,0,none⟩ = some (.bool kb)) (hc : W.cell? ⟨B,0,none⟩ = some (.slice A0 n c0)) :
    Calls Tryz.prog 113 (#[.int .i64 x] ++ #[.pointer (some ⟨K,0,none⟩),.pointer (some ⟨B,0,none⟩)]) W fun e w' => e = .returned (.bool (if kb = true then !decide (0 ≤ x ∧ x ≤ (n : Int) - 1) else x != -1)) ∧ Below W.heap.size W w':=by
 cases kb with
 | true =>
  have hC:=fun W' => impl_isPlace.callsF A0 n c0 x hn W'
  rw [if_pos rfl]
  generalize decide (0 ≤ x ∧ x ≤ (n : Int) - 1) = r at hC ⊢
  cases r with
  | true =>
   go_enter Tryz.func113,Tryz.ntmps113
   go_wp2_with (go_at_call 28;refine (hC _).mono ?_;rintro e w' ⟨rfl,hb⟩;have hk2 : w'.cell? ⟨K,0,none⟩ = some (.bool true):=(hb.cell (World.block_lt_of_cell? W _ hk)).trans hk)
   go_ret
   exact ⟨rfl,hb⟩
  | false =>
   go_enter Tryz.func113,Tryz.ntmps113
   go_wp2_with (go_at_call 28;refine (hC _).mono ?_;rintro e w' ⟨rfl,hb⟩;have hk2 : w'.cell? ⟨K,0,none⟩ = some (.bool true):=(hb.cell (World.block_lt_of_cell? W _ hk)).trans hk)
   go_ret
   exact ⟨rfl,hb⟩
 | false =>
  rw [if_neg (by decide)]
  go_enter Tryz.func113,Tryz.ntmps113
  go_wp2
  go_ret
  exact ⟨rfl,Below.refl _ _⟩
set_option maxHeartbeats 8000000 in
set_option maxRecDepth 100000 in
theorem impl_Talk_places.calls (g : Nat) (x0 x1 x2 x3 x4 x5 x6 x7 x8 x9 x10 x11 x12 x13 x14 x15 x16 x17 x18 x19 : Int) (w : World) (hI : w.heap[g]? = some (.cells #[.int .i64 x0,.int .i64 x1,.int .i64 x2,.int .i64 x3,.int .i64 x4,.int .i64 x5,.int .i64 x6,.int .i64 x7,.int .i64 x8,.int .i64 x9,.int .i64 x10,.int .i64 x11,.int .i64 x12,.int .i64 x13,.int .i64 x14,.int .i64 x15,.int .i64 x16,.int .i64 x17,.int .i64 x18,.int .i64 x19] 114 (0,0))) :
    Calls Tryz.prog 112 #[.pointer (some ⟨g,0,none⟩)] w fun e w' => ∃ v1 v2 v3 : Value,e = .returned (.agg #[v1,v2,v3]) ∧ Kd.R (Kd.int .i64) 2 w' w.heap.size (fun _ => True) v1 [x5,x7,x9] ∧ Kd.R (Kd.int .i64) 2 w' w.heap.size (fun _ => True) v2 [x6,x8,x10,x11,x12,x13,x14] ∧ Kd.R (Kd.int .i64) 2 w' w.heap.size (fun _ => True) v3 [x15,x16] ∧ Below w.heap.size w w':=by
 have BG:=Z_ hI
 clear hI
 have HB:=Z_ (Below.refl w.heap.size w)
 have hu1:=Tryz.underlying154
 have hu2:=Tryz.underlying114
 have hu3:=Tryz.underlying110
 obtain ⟨_,_,_,_,_,_,_,_,_,_,_,_,_,_,_,_,_,_,_,_,_,_,_,_,_,_,_,_,_,_,_,_,_,_,_,_,_,_,_,_⟩:=bc20 BG.out
 go_enter Tryz.func112,Tryz.ntmps112
 go_wp2_with (first | ((with_reducible refine gD_ 2 rfl ?_);refine bx_ #[.slice none 0 0,.slice none 0 0,.slice none 0 0] 154 ?_;intro g2 hg wg2 hbox hb;have n0_:=Z_ (bB_ BG.out hb);have gne:=Z_ ((by rw [hg];exact Nat.ne_of_lt (blk_lt BG.out)) : g ≠ g2);have n2_:=Z_ (lP_ HB.out hb);have n3_:=Z_ hbox;have Sg2:=Z_ ((by rw [hg];exact (below_size HB.out) : w.heap.size ≤ g2));clear BG;clear HB hbox hb hg;have HB:=n2_;have BG:=n0_;have B2:=n3_;clear n0_;obtain ⟨_,_,_,_,_,_,_,_,_,_,_,_,_,_,_,_,_,_,_,_,_,_,_,_,_,_,_,_,_,_,_,_,_,_,_,_,_,_,_,_⟩:=bc20 BG.out;clear n2_ n3_) | ((with_reducible refine gD_ 3 rfl ?_);refine bx_ #[.int .i64 0,.int .i64 0,.int .i64 0,.int .i64 0] 110 ?_;intro g3 hg wg3 hbox hb;have n0_:=Z_ (bB_ BG.out hb);have n1_:=Z_ (bB_ B2.out hb);have gne2:=Z_ ((by rw [hg];exact Nat.ne_of_lt (blk_lt BG.out)) : g ≠ g3);have gne3:=Z_ ((by rw [hg];exact Nat.ne_of_lt (blk_lt B2.out)) : g2 ≠ g3);have n2_:=Z_ (lP_ HB.out hb);have n3_:=Z_ hbox;have Sg3:=Z_ ((by rw [hg];exact (below_size HB.out) : w.heap.size ≤ g3));clear BG B2;clear HB hbox hb hg;have HB:=n2_;have BG:=n0_;have B2:=n1_;have B3:=n3_;clear n0_ n1_;obtain ⟨_,_,_,_,_,_⟩:=bc3 B2.out;obtain ⟨_,_,_,_,_,_,_,_,_,_,_,_,_,_,_,_,_,_,_,_,_,_,_,_,_,_,_,_,_,_,_,_,_,_,_,_,_,_,_,_⟩:=bc20 BG.out;obtain ⟨_,_,_,_,_,_,_,_⟩:=bc4 B3.out;have q1:=gne.out;have q2:=gne2.out;have q3:=gne3.out;have q1s:=gne.out.symm;have q2s:=gne2.out.symm;have q3s:=gne3.out.symm;clear n2_ n3_) | ((with_reducible refine gate_store (t:=110) rfl ?_);refine store_box_ (by rfl) (by rfl) (by rfl) (by rfl) (by rfl) (g:=g3) (t:=110) (old:=#[.int .i64 0,.int .i64 0,.int .i64 0,.int .i64 0]) B3.out (by rfl) (by kernel_rfl) (by rfl) ?_;intro wS hst hU;replace BG:=Z_ (bU_ hU BG.out gne2.out);replace B2:=Z_ (bU_ hU B2.out gne3.out);replace HB:=Z_ (lU_ hU HB.out Sg3.out);replace B3:=Z_ hst;clear hst hU;obtain ⟨_,_,_,_,_,_⟩:=bc3 B2.out;obtain ⟨_,_,_,_,_,_,_,_,_,_,_,_,_,_,_,_,_,_,_,_,_,_,_,_,_,_,_,_,_,_,_,_,_,_,_,_,_,_,_,_⟩:=bc20 BG.out;obtain ⟨_,_,_,_,_,_,_,_⟩:=bc4 B3.out))
 replace BG:=Z_ (bD_ BG.out)
 replace B2:=Z_ (bD_ B2.out)
 replace B3:=Z_ (bD_ B3.out)
 replace HB:=Z_ (lD_ HB.out)
 refine start_ (n:=45) (S:=fun w' => w'.cell? ⟨g,5,none⟩ = some (.int .i64 x5) ∧ w'.cell? ⟨g,7,none⟩ = some (.int .i64 x7) ∧ w'.cell? ⟨g,9,none⟩ = some (.int .i64 x9) ∧ w'.cell? ⟨g,6,none⟩ = some (.int .i64 x6) ∧ w'.cell? ⟨g,8,none⟩ = some (.int .i64 x8) ∧ w'.cell? ⟨g,10,none⟩ = some (.int .i64 x10) ∧ w'.cell? ⟨g,15,none⟩ = some (.int .i64 x15) ∧ w'.cell? ⟨g,16,none⟩ = some (.int .i64 x16) ∧ w'.cell? ⟨g3,0,none⟩ = some (.int .i64 x11) ∧ w'.cell? ⟨g3,1,none⟩ = some (.int .i64 x12) ∧ w'.cell? ⟨g3,2,none⟩ = some (.int .i64 x13) ∧ w'.cell? ⟨g3,3,none⟩ = some (.int .i64 x14)) (ds:=[44]) (Bt 45 0) (by kernel_rfl) rfl rfl ⟨(blk_cell BG.out 5).trans rfl,(blk_cell BG.out 7).trans rfl,(blk_cell BG.out 9).trans rfl,(blk_cell BG.out 6).trans rfl,(blk_cell BG.out 8).trans rfl,(blk_cell BG.out 10).trans rfl,(blk_cell BG.out 15).trans rfl,(blk_cell BG.out 16).trans rfl,(blk_cell B3.out 0).trans rfl,(blk_cell B3.out 1).trans rfl,(blk_cell B3.out 2).trans rfl,(blk_cell B3.out 3).trans rfl⟩ (fun hHeld => ?_)
 generalize wS.drew = wD at BG B2 B3 HB hHeld ⊢
 refine pure_ (i:=0) (N:=some 8) (v:=?_) (a':=?_) (Bt 45 1) rfl rfl (by kernel_rfl) (fun _ _ _ h => h) (Or.inl ⟨by rfl,?_⟩) ?_ ?_
 rotate_left
 ·intro w'
  go_simp
  first | done | (with_reducible rfl)
 rotate_left
 ·simp only [Act.put,lA_,lZ_,lS_,i64_w,i32_w]
  rfl
 refine pure_ (i:=1) (N:=some 9) (v:=?_) (a':=?_) (Bt 45 3) rfl rfl (by kernel_rfl) (fun _ _ _ h => h) (Or.inl ⟨by rfl,?_⟩) ?_ ?_
 rotate_left
 ·intro w'
  go_simp
  first | done | (with_reducible rfl)
 rotate_left
 ·simp only [Act.put,lA_,lZ_,lS_,i64_w,i32_w]
  rfl
 refine pure_ (i:=2) (N:=some 10) (v:=?_) (a':=?_) (Bt 45 7) rfl rfl (by kernel_rfl) (fun _ _ _ h => h) (Or.inl ⟨by rfl,?_⟩) ?_ ?_
 rotate_left
 ·intro w'
  go_simp
  first | done | (with_reducible rfl)
 rotate_left
 ·simp only [Act.put,lA_,lZ_,lS_,i64_w,i32_w]
  rfl
 refine ta_ 3 (some 11) (Bt 45 15) (by kernel_rfl) hHeld ?_
 refine pure_ (i:=4) (N:=some 12) (v:=?_) (a':=?_) (Bt 45 31) rfl rfl (by kernel_rfl) (fun _ _ _ h => h) (Or.inl ⟨by rfl,?_⟩) ?_ ?_
 rotate_left
 ·intro w'
  go_simp
  first | done | (with_reducible rfl)
 rotate_left
 ·simp only [Act.put,lA_,lZ_,lS_,i64_w,i32_w]
  rfl
 refine pure_ (i:=5) (N:=some 13) (v:=?_) (a':=?_) (Bt 45 63) rfl rfl (by kernel_rfl) (fun _ _ _ h => h) (Or.inl ⟨by rfl,?_⟩) ?_ ?_
 rotate_left
 ·intro w'
  go_simp
  first | done | (with_reducible rfl)
 rotate_left
 ·simp only [Act.put,lA_,lZ_,lS_,i64_w,i32_w]
  rfl
 refine pure_ (i:=6) (N:=some 14) (v:=?_) (a':=?_) (Bt 45 127) rfl rfl (by kernel_rfl) (fun _ _ _ h => h) (Or.inl ⟨by rfl,?_⟩) ?_ ?_
 rotate_left
 ·intro w'
  go_simp
  first | done | (with_reducible rfl)
 rotate_left
 ·simp only [Act.put,lA_,lZ_,lS_,i64_w,i32_w]
  rfl
 refine ta_ 7 (some 15) (Bt 45 255) (by kernel_rfl) hHeld ?_
 refine pure_ (i:=8) (N:=some 16) (v:=?_) (a':=?_) (Bt 45 511) rfl rfl (by kernel_rfl) (fun _ _ _ h => h) (Or.inl ⟨by rfl,?_⟩) ?_ ?_
 rotate_left
 ·intro w'
  go_simp
  first | done | (with_reducible rfl)
 rotate_left
 ·simp only [Act.put,lA_,lZ_,lS_,i64_w,i32_w]
  rfl
 refine pure_ (i:=9) (N:=some 17) (v:=?_) (a':=?_) (Bt 45 1023) rfl rfl (by kernel_rfl) (fun _ _ _ h => h) (Or.inl ⟨by rfl,?_⟩) ?_ ?_
 rotate_left
 ·intro w'
  go_simp
  first | done | (with_reducible rfl)
 rotate_left
 ·simp only [Act.put,lA_,lZ_,lS_,i64_w,i32_w]
  rfl
 refine pure_ (i:=10) (N:=some 18) (v:=?_) (a':=?_) (Bt 45 2047) rfl rfl (by kernel_rfl) (fun _ _ _ h => h) (Or.inl ⟨by rfl,?_⟩) ?_ ?_
 rotate_left
 ·intro w'
  go_simp
  first | done | (with_reducible rfl)
 rotate_left
 ·simp only [Act.put,lA_,lZ_,lS_,i64_w,i32_w]
  rfl
 refine ta_ 11 (some 19) (Bt 45 4095) (by kernel_rfl) hHeld ?_
 refine pure_ (i:=13) (N:=some 21) (v:=?_) (a':=?_) (Bt 45 12287) rfl rfl (by kernel_rfl) (fun _ _ _ h => h) (Or.inl ⟨by rfl,?_⟩) ?_ ?_
 rotate_left
 ·intro w'
  go_simp
  first | done | (with_reducible rfl)
 rotate_left
 ·simp only [Act.put,lA_,lZ_,lS_,i64_w,i32_w]
  rfl
 refine pure_ (i:=14) (N:=some 22) (v:=?_) (a':=?_) (Bt 45 28671) rfl rfl (by kernel_rfl) (fun _ _ _ h => h) (Or.inl ⟨by rfl,?_⟩) ?_ ?_
 rotate_left
 ·intro w'
  go_simp
  first | done | (with_reducible rfl)
 rotate_left
 ·simp only [Act.put,lA_,lZ_,lS_,i64_w,i32_w]
  rfl
 refine pure_ (i:=15) (N:=some 23) (v:=?_) (a':=?_) (Bt 45 61439) rfl rfl (by kernel_rfl) (fun _ _ _ h => h) (Or.inl ⟨by rfl,?_⟩) ?_ ?_
 rotate_left
 ·intro w'
  go_simp
  first | done | (with_reducible rfl)
 rotate_left
 ·simp only [Act.put,lA_,lZ_,lS_,i64_w,i32_w]
  rfl
 refine ta_ 16 (some 24) (Bt 45 126975) (by kernel_rfl) hHeld ?_
 refine pure_ (i:=17) (N:=some 25) (v:=?_) (a':=?_) (Bt 45 258047) rfl rfl (by kernel_rfl) (fun _ _ _ h => h) (Or.inl ⟨by rfl,?_⟩) ?_ ?_
 rotate_left
 ·intro w'
  go_simp
  first | done | (with_reducible rfl)
 rotate_left
 ·simp only [Act.put,lA_,lZ_,lS_,i64_w,i32_w]
  rfl
 refine pure_ (i:=18) (N:=some 26) (v:=?_) (a':=?_) (Bt 45 520191) rfl rfl (by kernel_rfl) (fun _ _ _ h => h) (Or.inl ⟨by rfl,?_⟩) ?_ ?_
 rotate_left
 ·intro w'
  go_simp
  first | done | (with_reducible rfl)
 rotate_left
 ·simp only [Act.put,lA_,lZ_,lS_,i64_w,i32_w]
  rfl
 refine pure_ (i:=19) (N:=some 27) (v:=?_) (a':=?_) (Bt 45 1044479) rfl rfl (by kernel_rfl) (fun _ _ _ h => h) (Or.inl ⟨by rfl,?_⟩) ?_ ?_
 rotate_left
 ·intro w'
  go_simp
  first | done | (with_reducible rfl)
 rotate_left
 ·simp only [Act.put,lA_,lZ_,lS_,i64_w,i32_w]
  rfl
 refine ta_ 20 (some 28) (Bt 45 2093055) (by kernel_rfl) hHeld ?_
 refine pure_ (i:=21) (N:=some 29) (v:=?_) (a':=?_) (Bt 45 4190207) rfl rfl (by kernel_rfl) (fun _ _ _ h => h) (Or.inl ⟨by rfl,?_⟩) ?_ ?_
 rotate_left
 ·intro w'
  go_simp
  first | done | (with_reducible rfl)
 rotate_left
 ·simp only [Act.put,lA_,lZ_,lS_,i64_w,i32_w]
  rfl
 refine pure_ (i:=22) (N:=some 30) (v:=?_) (a':=?_) (Bt 45 8384511) rfl rfl (by kernel_rfl) (fun _ _ _ h => h) (Or.inl ⟨by rfl,?_⟩) ?_ ?_
 rotate_left
 ·intro w'
  go_simp
  first | done | (with_reducible rfl)
 rotate_left
 ·simp only [Act.put,lA_,lZ_,lS_,i64_w,i32_w]
  rfl
 refine pure_ (i:=23) (N:=some 31) (v:=?_) (a':=?_) (Bt 45 16773119) rfl rfl (by kernel_rfl) (fun _ _ _ h => h) (Or.inl ⟨by rfl,?_⟩) ?_ ?_
 rotate_left
 ·intro w'
  go_simp
  first | done | (with_reducible rfl)
 rotate_left
 ·simp only [Act.put,lA_,lZ_,lS_,i64_w,i32_w]
  rfl
 refine ta_ 24 (some 32) (Bt 45 33550335) (by kernel_rfl) hHeld ?_
 refine pure_ (i:=25) (N:=some 33) (v:=?_) (a':=?_) (Bt 45 67104767) rfl rfl (by kernel_rfl) (fun _ _ _ h => h) (Or.inl ⟨by rfl,?_⟩) ?_ ?_
 rotate_left
 ·intro w'
  go_simp
  first | done | (with_reducible rfl)
 rotate_left
 ·simp only [Act.put,lA_,lZ_,lS_,i64_w,i32_w]
  rfl
 refine ta_ 26 (some 34) (Bt 45 134213631) (by kernel_rfl) hHeld ?_
 refine pure_ (i:=27) (N:=some 35) (v:=?_) (a':=?_) (Bt 45 268431359) rfl rfl (by kernel_rfl) (fun _ _ _ h => h) (Or.inl ⟨by rfl,?_⟩) ?_ ?_
 rotate_left
 ·intro w'
  go_simp
  first | done | (with_reducible rfl)
 rotate_left
 ·simp only [Act.put,lA_,lZ_,lS_,i64_w,i32_w]
  rfl
 refine ta_ 28 (some 36) (Bt 45 536866815) (by kernel_rfl) hHeld ?_
 refine pure_ (i:=29) (N:=some 37) (v:=?_) (a':=?_) (Bt 45 1073737727) rfl rfl (by kernel_rfl) (fun _ _ _ h => h) (Or.inl ⟨by rfl,?_⟩) ?_ ?_
 rotate_left
 ·intro w'
  go_simp
  first | done | (with_reducible rfl)
 rotate_left
 ·simp only [Act.put,lA_,lZ_,lS_,i64_w,i32_w]
  rfl
 refine ta_ 30 (some 38) (Bt 45 2147479551) (by kernel_rfl) hHeld ?_
 refine pure_ (i:=31) (N:=some 39) (v:=?_) (a':=?_) (Bt 45 4294963199) rfl rfl (by kernel_rfl) (fun _ _ _ h => h) (Or.inl ⟨by rfl,?_⟩) ?_ ?_
 rotate_left
 ·intro w'
  go_simp
  first | done | (with_reducible rfl)
 rotate_left
 ·simp only [Act.put,lA_,lZ_,lS_,i64_w,i32_w]
  rfl
 refine ta_ 32 (some 40) (Bt 45 8589930495) (by kernel_rfl) hHeld ?_
 refine pure_ (i:=34) (N:=some 42) (v:=?_) (a':=?_) (Bt 45 25769799679) rfl rfl (by kernel_rfl) (fun _ _ _ h => h) (Or.inl ⟨by rfl,?_⟩) ?_ ?_
 rotate_left
 ·intro w'
  go_simp
  first | done | (with_reducible rfl)
 rotate_left
 ·simp only [Act.put,lA_,lZ_,lS_,i64_w,i32_w]
  rfl
 refine pure_ (i:=35) (N:=some 43) (v:=?_) (a':=?_) (Bt 45 60129538047) rfl rfl (by kernel_rfl) (fun _ _ _ h => h) (Or.inl ⟨by rfl,?_⟩) ?_ ?_
 rotate_left
 ·intro w'
  go_simp
  first | done | (with_reducible rfl)
 rotate_left
 ·simp only [Act.put,lA_,lZ_,lS_,i64_w,i32_w]
  rfl
 refine pure_ (i:=36) (N:=some 44) (v:=?_) (a':=?_) (Bt 45 128849014783) rfl rfl (by kernel_rfl) (fun _ _ _ h => h) (Or.inl ⟨by rfl,?_⟩) ?_ ?_
 rotate_left
 ·intro w'
  go_simp
  first | done | (with_reducible rfl)
 rotate_left
 ·simp only [Act.put,lA_,lZ_,lS_,i64_w,i32_w]
  rfl
 refine ta_ 37 (some 45) (Bt 45 266287968255) (by kernel_rfl) hHeld ?_
 refine pure_ (i:=38) (N:=some 46) (v:=?_) (a':=?_) (Bt 45 541165875199) rfl rfl (by kernel_rfl) (fun _ _ _ h => h) (Or.inl ⟨by rfl,?_⟩) ?_ ?_
 rotate_left
 ·intro w'
  go_simp
  first | done | (with_reducible rfl)
 rotate_left
 ·simp only [Act.put,lA_,lZ_,lS_,i64_w,i32_w]
  rfl
 refine pure_ (i:=39) (N:=some 47) (v:=?_) (a':=?_) (Bt 45 1090921689087) rfl rfl (by kernel_rfl) (fun _ _ _ h => h) (Or.inl ⟨by rfl,?_⟩) ?_ ?_
 rotate_left
 ·intro w'
  go_simp
  first | done | (with_reducible rfl)
 rotate_left
 ·simp only [Act.put,lA_,lZ_,lS_,i64_w,i32_w]
  rfl
 refine pure_ (i:=40) (N:=some 48) (v:=?_) (a':=?_) (Bt 45 2190433316863) rfl rfl (by kernel_rfl) (fun _ _ _ h => h) (Or.inl ⟨by rfl,?_⟩) ?_ ?_
 rotate_left
 ·intro w'
  go_simp
  first | done | (with_reducible rfl)
 rotate_left
 ·simp only [Act.put,lA_,lZ_,lS_,i64_w,i32_w]
  rfl
 refine ta_ 41 (some 49) (Bt 45 4389456572415) (by kernel_rfl) hHeld ?_
 refine join_ (σ:=Value × Value × Value) 2 (Bt 45 8796093022207) (fun s_ => [(20,s_.1),(41,s_.2.1),(50,s_.2.2)]) (fun s_ W => (W.cell? ⟨g,5,none⟩ = some (.int .i64 x5) ∧ W.cell? ⟨g,7,none⟩ = some (.int .i64 x7) ∧ W.cell? ⟨g,9,none⟩ = some (.int .i64 x9) ∧ W.cell? ⟨g,6,none⟩ = some (.int .i64 x6) ∧ W.cell? ⟨g,8,none⟩ = some (.int .i64 x8) ∧ W.cell? ⟨g,10,none⟩ = some (.int .i64 x10) ∧ W.cell? ⟨g,15,none⟩ = some (.int .i64 x15) ∧ W.cell? ⟨g,16,none⟩ = some (.int .i64 x16) ∧ W.cell? ⟨g3,0,none⟩ = some (.int .i64 x11) ∧ W.cell? ⟨g3,1,none⟩ = some (.int .i64 x12) ∧ W.cell? ⟨g3,2,none⟩ = some (.int .i64 x13) ∧ W.cell? ⟨g3,3,none⟩ = some (.int .i64 x14)) ∧ Kd.R (Kd.int .i64) 2 W w.heap.size (fun _ => True) s_.1 [x5,x7,x9] ∧ Kd.R (Kd.int .i64) 2 W w.heap.size (fun _ => True) s_.2.1 [x6,x8,x10,x11,x12,x13,x14] ∧ Kd.R (Kd.int .i64) 2 W w.heap.size (fun _ => True) s_.2.2 [x15,x16] ∧ W.heap[g2]? = some (.cells #[.slice none 0 0,.slice none 0 0,.slice none 0 0] 154 (0,0)) ∧ Below w.heap.size w W) ?_ ?_
 rotate_left
 ·intro hCont
  refine three_ (i:=12) (j:=33) (k:=42) (Ni:=some 20) (Nj:=some 41) (Nk:=some 50) (Bt 45 4389456576511) (Bt 45 4398046507007) (Bt 45 8787503083519) rfl rfl rfl rfl rfl rfl (by kernel_rfl) (by decide) (by decide) (by decide) (fun K hK => ?_) (fun K hK => ?_) (fun K hK => ?_)
  ·skip
   refine Kd.R_lit_step (Kd.int .i64) _ 2 ?hg (N:=20) ?hd (xs:=([x5,x7,x9] : List Int)) (inner:=[.int .i64 x5,.int .i64 x7,.int .i64 x9]) (ok:=fun _ => True) (okp:=fun _ => True) ?hr ?hp (fun _ hk => hk) trivial (Below.refl _ _) (Nat.le_refl _) (by simp) ?_;(case hd => rfl);(case hg => rfl);(case hr => first | (go_simp;done) | (go_simp;rfl));(case hp => exact repsG_ _)
   intro v20 wE20 ho hb hg_ hnew_
   clear hg_ hnew_
   have R20:=Z_ (Kd.R_lower ho (below_size HB.out))
   have n0_:=Z_ (bB_ BG.out hb)
   have n1_:=Z_ (bB_ B2.out hb)
   have n2_:=Z_ (bB_ B3.out hb)
   have n3_:=Z_ (lP_ HB.out hb)
   clear BG B2 B3 HB ho hb
   have BG:=n0_
   have B2:=n1_
   have B3:=n2_
   have HB:=n3_
   clear n0_ n1_ n2_ n3_
   refine hK.out _ _ ⟨(blk_cell BG.out 5).trans rfl,(blk_cell BG.out 7).trans rfl,(blk_cell BG.out 9).trans rfl,(blk_cell BG.out 6).trans rfl,(blk_cell BG.out 8).trans rfl,(blk_cell BG.out 10).trans rfl,(blk_cell BG.out 15).trans rfl,(blk_cell BG.out 16).trans rfl,(blk_cell B3.out 0).trans rfl,(blk_cell B3.out 1).trans rfl,(blk_cell B3.out 2).trans rfl,(blk_cell B3.out 3).trans rfl⟩ (fun hHeld => ?_)
   clear hK K
   refine norm_ (a':=?_) ?_ ?_
   rotate_left
   ·show Act.put _ (some 20) _ = _
    simp only [Act.put,lA_,lZ_,lS_,i64_w,i32_w]
    rfl
   refine two_ (i:=33) (j:=42) (Ni:=some 41) (Nj:=some 50) (Bt 45 4398046511103) (Bt 45 8787503087615) rfl rfl rfl rfl (by kernel_rfl) (by decide) (by decide) (fun K hK => ?_) (fun K hK => ?_)
   ·skip
    refine Kd.R_lit_step (Kd.int .i64) _ 2 ?hg (N:=41) ?hd (xs:=([x6,x8,x10,x11,x12,x13,x14] : List Int)) (inner:=[.int .i64 x6,.int .i64 x8,.int .i64 x10,.int .i64 x11,.int .i64 x12,.int .i64 x13,.int .i64 x14]) (ok:=fun _ => True) (okp:=fun _ => True) ?hr ?hp (fun _ hk => hk) trivial (Below.refl _ _) (Nat.le_refl _) (by simp) ?_;(case hd => rfl);(case hg => rfl);(case hr => first | (go_simp;done) | (go_simp;rfl));(case hp => exact repsG_ _)
    intro v41 wE41 ho hb hg_ hnew_
    clear hg_ hnew_
    have R41:=Z_ (Kd.R_lower ho (below_size HB.out))
    replace R20:=Z_ (Kd.R_below R20.out hb)
    have n0_:=Z_ (bB_ BG.out hb)
    have n1_:=Z_ (bB_ B2.out hb)
    have n2_:=Z_ (bB_ B3.out hb)
    have n3_:=Z_ (lP_ HB.out hb)
    clear BG B2 B3 HB ho hb
    have BG:=n0_
    have B2:=n1_
    have B3:=n2_
    have HB:=n3_
    clear n0_ n1_ n2_ n3_
    refine hK.out _ _ ⟨(blk_cell BG.out 5).trans rfl,(blk_cell BG.out 7).trans rfl,(blk_cell BG.out 9).trans rfl,(blk_cell BG.out 6).trans rfl,(blk_cell BG.out 8).trans rfl,(blk_cell BG.out 10).trans rfl,(blk_cell BG.out 15).trans rfl,(blk_cell BG.out 16).trans rfl,(blk_cell B3.out 0).trans rfl,(blk_cell B3.out 1).trans rfl,(blk_cell B3.out 2).trans rfl,(blk_cell B3.out 3).trans rfl⟩ (fun hHeld => ?_)
    clear hK K
    refine norm_ (a':=?_) ?_ ?_
    rotate_left
    ·show Act.put _ (some 41) _ = _
     simp only [Act.put,lA_,lZ_,lS_,i64_w,i32_w]
     rfl
    refine one_ (i:=42) (N:=some 50) (Bt 45 8796093022207) rfl rfl (by kernel_rfl) (by decide) (fun K hK => ?_)
    refine Kd.R_lit_step (Kd.int .i64) _ 2 ?hg (N:=50) ?hd (xs:=([x15,x16] : List Int)) (inner:=[.int .i64 x15,.int .i64 x16]) (ok:=fun _ => True) (okp:=fun _ => True) ?hr ?hp (fun _ hk => hk) trivial (Below.refl _ _) (Nat.le_refl _) (by simp) ?_;(case hd => rfl);(case hg => rfl);(case hr => first | (go_simp;done) | (go_simp;rfl));(case hp => exact repsG_ _)
    intro v50 wE50 ho hb hg_ hnew_
    clear hg_ hnew_
    have R50:=Z_ (Kd.R_lower ho (below_size HB.out))
    replace R20:=Z_ (Kd.R_below R20.out hb)
    replace R41:=Z_ (Kd.R_below R41.out hb)
    have n0_:=Z_ (bB_ BG.out hb)
    have n1_:=Z_ (bB_ B2.out hb)
    have n2_:=Z_ (bB_ B3.out hb)
    have n3_:=Z_ (lP_ HB.out hb)
    clear BG B2 B3 HB ho hb
    have BG:=n0_
    have B2:=n1_
    have B3:=n2_
    have HB:=n3_
    clear n0_ n1_ n2_ n3_
    refine hK.out _ _ ⟨(blk_cell BG.out 5).trans rfl,(blk_cell BG.out 7).trans rfl,(blk_cell BG.out 9).trans rfl,(blk_cell BG.out 6).trans rfl,(blk_cell BG.out 8).trans rfl,(blk_cell BG.out 10).trans rfl,(blk_cell BG.out 15).trans rfl,(blk_cell BG.out 16).trans rfl,(blk_cell B3.out 0).trans rfl,(blk_cell B3.out 1).trans rfl,(blk_cell B3.out 2).trans rfl,(blk_cell B3.out 3).trans rfl⟩ (fun hHeld => ?_)
    clear hK K
    refine norm_ (a':=?_) ?_ ?_
    rotate_left
    ·show Act.put _ (some 50) _ = _
     simp only [Act.put,lA_,lZ_,lS_,i64_w,i32_w]
     rfl
    exact norm_ (by simp only [putAll,Act.put,lA_,lZ_,lS_]) (hCont (v20,v41,v50) _ ⟨hHeld,R20.out,R41.out,R50.out,B2.out,HB.out⟩)
   ·skip
    refine Kd.R_lit_step (Kd.int .i64) _ 2 ?hg (N:=50) ?hd (xs:=([x15,x16] : List Int)) (inner:=[.int .i64 x15,.int .i64 x16]) (ok:=fun _ => True) (okp:=fun _ => True) ?hr ?hp (fun _ hk => hk) trivial (Below.refl _ _) (Nat.le_refl _) (by simp) ?_;(case hd => rfl);(case hg => rfl);(case hr => first | (go_simp;done) | (go_simp;rfl));(case hp => exact repsG_ _)
    intro v50 wE50 ho hb hg_ hnew_
    clear hg_ hnew_
    have R50:=Z_ (Kd.R_lower ho (below_size HB.out))
    replace R20:=Z_ (Kd.R_below R20.out hb)
    have n0_:=Z_ (bB_ BG.out hb)
    have n1_:=Z_ (bB_ B2.out hb)
    have n2_:=Z_ (bB_ B3.out hb)
    have n3_:=Z_ (lP_ HB.out hb)
    clear BG B2 B3 HB ho hb
    have BG:=n0_
    have B2:=n1_
    have B3:=n2_
    have HB:=n3_
    clear n0_ n1_ n2_ n3_
    refine hK.out _ _ ⟨(blk_cell BG.out 5).trans rfl,(blk_cell BG.out 7).trans rfl,(blk_cell BG.out 9).trans rfl,(blk_cell BG.out 6).trans rfl,(blk_cell BG.out 8).trans rfl,(blk_cell BG.out 10).trans rfl,(blk_cell BG.out 15).trans rfl,(blk_cell BG.out 16).trans rfl,(blk_cell B3.out 0).trans rfl,(blk_cell B3.out 1).trans rfl,(blk_cell B3.out 2).trans rfl,(blk_cell B3.out 3).trans rfl⟩ (fun hHeld => ?_)
    clear hK K
    refine norm_ (a':=?_) ?_ ?_
    rotate_left
    ·show Act.put _ (some 50) _ = _
     simp only [Act.put,lA_,lZ_,lS_,i64_w,i32_w]
     rfl
    refine one_ (i:=33) (N:=some 41) (Bt 45 8796093022207) rfl rfl (by kernel_rfl) (by decide) (fun K hK => ?_)
    refine Kd.R_lit_step (Kd.int .i64) _ 2 ?hg (N:=41) ?hd (xs:=([x6,x8,x10,x11,x12,x13,x14] : List Int)) (inner:=[.int .i64 x6,.int .i64 x8,.int .i64 x10,.int .i64 x11,.int .i64 x12,.int .i64 x13,.int .i64 x14]) (ok:=fun _ => True) (okp:=fun _ => True) ?hr ?hp (fun _ hk => hk) trivial (Below.refl _ _) (Nat.le_refl _) (by simp) ?_;(case hd => rfl);(case hg => rfl);(case hr => first | (go_simp;done) | (go_simp;rfl));(case hp => exact repsG_ _)
    intro v41 wE41 ho hb hg_ hnew_
    clear hg_ hnew_
    have R41:=Z_ (Kd.R_lower ho (below_size HB.out))
    replace R20:=Z_ (Kd.R_below R20.out hb)
    replace R50:=Z_ (Kd.R_below R50.out hb)
    have n0_:=Z_ (bB_ BG.out hb)
    have n1_:=Z_ (bB_ B2.out hb)
    have n2_:=Z_ (bB_ B3.out hb)
    have n3_:=Z_ (lP_ HB.out hb)
    clear BG B2 B3 HB ho hb
    have BG:=n0_
    have B2:=n1_
    have B3:=n2_
    have HB:=n3_
    clear n0_ n1_ n2_ n3_
    refine hK.out _ _ ⟨(blk_cell BG.out 5).trans rfl,(blk_cell BG.out 7).trans rfl,(blk_cell BG.out 9).trans rfl,(blk_cell BG.out 6).trans rfl,(blk_cell BG.out 8).trans rfl,(blk_cell BG.out 10).trans rfl,(blk_cell BG.out 15).trans rfl,(blk_cell BG.out 16).trans rfl,(blk_cell B3.out 0).trans rfl,(blk_cell B3.out 1).trans rfl,(blk_cell B3.out 2).trans rfl,(blk_cell B3.out 3).trans rfl⟩ (fun hHeld => ?_)
    clear hK K
    refine norm_ (a':=?_) ?_ ?_
    rotate_left
    ·show Act.put _ (some 41) _ = _
     simp only [Act.put,lA_,lZ_,lS_,i64_w,i32_w]
     rfl
    exact norm_ (by simp only [putAll,Act.put,lA_,lZ_,lS_]) (hCont (v20,v41,v50) _ ⟨hHeld,R20.out,R41.out,R50.out,B2.out,HB.out⟩)
  ·skip
   refine Kd.R_lit_step (Kd.int .i64) _ 2 ?hg (N:=41) ?hd (xs:=([x6,x8,x10,x11,x12,x13,x14] : List Int)) (inner:=[.int .i64 x6,.int .i64 x8,.int .i64 x10,.int .i64 x11,.int .i64 x12,.int .i64 x13,.int .i64 x14]) (ok:=fun _ => True) (okp:=fun _ => True) ?hr ?hp (fun _ hk => hk) trivial (Below.refl _ _) (Nat.le_refl _) (by simp) ?_;(case hd => rfl);(case hg => rfl);(case hr => first | (go_simp;done) | (go_simp;rfl));(case hp => exact repsG_ _)
   intro v41 wE41 ho hb hg_ hnew_
   clear hg_ hnew_
   have R41:=Z_ (Kd.R_lower ho (below_size HB.out))
   have n0_:=Z_ (bB_ BG.out hb)
   have n1_:=Z_ (bB_ B2.out hb)
   have n2_:=Z_ (bB_ B3.out hb)
   have n3_:=Z_ (lP_ HB.out hb)
   clear BG B2 B3 HB ho hb
   have BG:=n0_
   have B2:=n1_
   have B3:=n2_
   have HB:=n3_
   clear n0_ n1_ n2_ n3_
   refine hK.out _ _ ⟨(blk_cell BG.out 5).trans rfl,(blk_cell BG.out 7).trans rfl,(blk_cell BG.out 9).trans rfl,(blk_cell BG.out 6).trans rfl,(blk_cell BG.out 8).trans rfl,(blk_cell BG.out 10).trans rfl,(blk_cell BG.out 15).trans rfl,(blk_cell BG.out 16).trans rfl,(blk_cell B3.out 0).trans rfl,(blk_cell B3.out 1).trans rfl,(blk_cell B3.out 2).trans rfl,(blk_cell B3.out 3).trans rfl⟩ (fun hHeld => ?_)
   clear hK K
   refine norm_ (a':=?_) ?_ ?_
   rotate_left
   ·show Act.put _ (some 41) _ = _
    simp only [Act.put,lA_,lZ_,lS_,i64_w,i32_w]
    rfl
   refine two_ (i:=12) (j:=42) (Ni:=some 20) (Nj:=some 50) (Bt 45 4398046511103) (Bt 45 8796093018111) rfl rfl rfl rfl (by kernel_rfl) (by decide) (by decide) (fun K hK => ?_) (fun K hK => ?_)
   ·skip
    refine Kd.R_lit_step (Kd.int .i64) _ 2 ?hg (N:=20) ?hd (xs:=([x5,x7,x9] : List Int)) (inner:=[.int .i64 x5,.int .i64 x7,.int .i64 x9]) (ok:=fun _ => True) (okp:=fun _ => True) ?hr ?hp (fun _ hk => hk) trivial (Below.refl _ _) (Nat.le_refl _) (by simp) ?_;(case hd => rfl);(case hg => rfl);(case hr => first | (go_simp;done) | (go_simp;rfl));(case hp => exact repsG_ _)
    intro v20 wE20 ho hb hg_ hnew_
    clear hg_ hnew_
    have R20:=Z_ (Kd.R_lower ho (below_size HB.out))
    replace R41:=Z_ (Kd.R_below R41.out hb)
    have n0_:=Z_ (bB_ BG.out hb)
    have n1_:=Z_ (bB_ B2.out hb)
    have n2_:=Z_ (bB_ B3.out hb)
    have n3_:=Z_ (lP_ HB.out hb)
    clear BG B2 B3 HB ho hb
    have BG:=n0_
    have B2:=n1_
    have B3:=n2_
    have HB:=n3_
    clear n0_ n1_ n2_ n3_
    refine hK.out _ _ ⟨(blk_cell BG.out 5).trans rfl,(blk_cell BG.out 7).trans rfl,(blk_cell BG.out 9).trans rfl,(blk_cell BG.out 6).trans rfl,(blk_cell BG.out 8).trans rfl,(blk_cell BG.out 10).trans rfl,(blk_cell BG.out 15).trans rfl,(blk_cell BG.out 16).trans rfl,(blk_cell B3.out 0).trans rfl,(blk_cell B3.out 1).trans rfl,(blk_cell B3.out 2).trans rfl,(blk_cell B3.out 3).trans rfl⟩ (fun hHeld => ?_)
    clear hK K
    refine norm_ (a':=?_) ?_ ?_
    rotate_left
    ·show Act.put _ (some 20) _ = _
     simp only [Act.put,lA_,lZ_,lS_,i64_w,i32_w]
     rfl
    refine one_ (i:=42) (N:=some 50) (Bt 45 8796093022207) rfl rfl (by kernel_rfl) (by decide) (fun K hK => ?_)
    refine Kd.R_lit_step (Kd.int .i64) _ 2 ?hg (N:=50) ?hd (xs:=([x15,x16] : List Int)) (inner:=[.int .i64 x15,.int .i64 x16]) (ok:=fun _ => True) (okp:=fun _ => True) ?hr ?hp (fun _ hk => hk) trivial (Below.refl _ _) (Nat.le_refl _) (by simp) ?_;(case hd => rfl);(case hg => rfl);(case hr => first | (go_simp;done) | (go_simp;rfl));(case hp => exact repsG_ _)
    intro v50 wE50 ho hb hg_ hnew_
    clear hg_ hnew_
    have R50:=Z_ (Kd.R_lower ho (below_size HB.out))
    replace R41:=Z_ (Kd.R_below R41.out hb)
    replace R20:=Z_ (Kd.R_below R20.out hb)
    have n0_:=Z_ (bB_ BG.out hb)
    have n1_:=Z_ (bB_ B2.out hb)
    have n2_:=Z_ (bB_ B3.out hb)
    have n3_:=Z_ (lP_ HB.out hb)
    clear BG B2 B3 HB ho hb
    have BG:=n0_
    have B2:=n1_
    have B3:=n2_
    have HB:=n3_
    clear n0_ n1_ n2_ n3_
    refine hK.out _ _ ⟨(blk_cell BG.out 5).trans rfl,(blk_cell BG.out 7).trans rfl,(blk_cell BG.out 9).trans rfl,(blk_cell BG.out 6).trans rfl,(blk_cell BG.out 8).trans rfl,(blk_cell BG.out 10).trans rfl,(blk_cell BG.out 15).trans rfl,(blk_cell BG.out 16).trans rfl,(blk_cell B3.out 0).trans rfl,(blk_cell B3.out 1).trans rfl,(blk_cell B3.out 2).trans rfl,(blk_cell B3.out 3).trans rfl⟩ (fun hHeld => ?_)
    clear hK K
    refine norm_ (a':=?_) ?_ ?_
    rotate_left
    ·show Act.put _ (some 50) _ = _
     simp only [Act.put,lA_,lZ_,lS_,i64_w,i32_w]
     rfl
    exact norm_ (by simp only [putAll,Act.put,lA_,lZ_,lS_]) (hCont (v20,v41,v50) _ ⟨hHeld,R20.out,R41.out,R50.out,B2.out,HB.out⟩)
   ·skip
    refine Kd.R_lit_step (Kd.int .i64) _ 2 ?hg (N:=50) ?hd (xs:=([x15,x16] : List Int)) (inner:=[.int .i64 x15,.int .i64 x16]) (ok:=fun _ => True) (okp:=fun _ => True) ?hr ?hp (fun _ hk => hk) trivial (Below.refl _ _) (Nat.le_refl _) (by simp) ?_;(case hd => rfl);(case hg => rfl);(case hr => first | (go_simp;done) | (go_simp;rfl));(case hp => exact repsG_ _)
    intro v50 wE50 ho hb hg_ hnew_
    clear hg_ hnew_
    have R50:=Z_ (Kd.R_lower ho (below_size HB.out))
    replace R41:=Z_ (Kd.R_below R41.out hb)
    have n0_:=Z_ (bB_ BG.out hb)
    have n1_:=Z_ (bB_ B2.out hb)
    have n2_:=Z_ (bB_ B3.out hb)
    have n3_:=Z_ (lP_ HB.out hb)
    clear BG B2 B3 HB ho hb
    have BG:=n0_
    have B2:=n1_
    have B3:=n2_
    have HB:=n3_
    clear n0_ n1_ n2_ n3_
    refine hK.out _ _ ⟨(blk_cell BG.out 5).trans rfl,(blk_cell BG.out 7).trans rfl,(blk_cell BG.out 9).trans rfl,(blk_cell BG.out 6).trans rfl,(blk_cell BG.out 8).trans rfl,(blk_cell BG.out 10).trans rfl,(blk_cell BG.out 15).trans rfl,(blk_cell BG.out 16).trans rfl,(blk_cell B3.out 0).trans rfl,(blk_cell B3.out 1).trans rfl,(blk_cell B3.out 2).trans rfl,(blk_cell B3.out 3).trans rfl⟩ (fun hHeld => ?_)
    clear hK K
    refine norm_ (a':=?_) ?_ ?_
    rotate_left
    ·show Act.put _ (some 50) _ = _
     simp only [Act.put,lA_,lZ_,lS_,i64_w,i32_w]
     rfl
    refine one_ (i:=12) (N:=some 20) (Bt 45 8796093022207) rfl rfl (by kernel_rfl) (by decide) (fun K hK => ?_)
    refine Kd.R_lit_step (Kd.int .i64) _ 2 ?hg (N:=20) ?hd (xs:=([x5,x7,x9] : List Int)) (inner:=[.int .i64 x5,.int .i64 x7,.int .i64 x9]) (ok:=fun _ => True) (okp:=fun _ => True) ?hr ?hp (fun _ hk => hk) trivial (Below.refl _ _) (Nat.le_refl _) (by simp) ?_;(case hd => rfl);(case hg => rfl);(case hr => first | (go_simp;done) | (go_simp;rfl));(case hp => exact repsG_ _)
    intro v20 wE20 ho hb hg_ hnew_
    clear hg_ hnew_
    have R20:=Z_ (Kd.R_lower ho (below_size HB.out))
    replace R41:=Z_ (Kd.R_below R41.out hb)
    replace R50:=Z_ (Kd.R_below R50.out hb)
    have n0_:=Z_ (bB_ BG.out hb)
    have n1_:=Z_ (bB_ B2.out hb)
    have n2_:=Z_ (bB_ B3.out hb)
    have n3_:=Z_ (lP_ HB.out hb)
    clear BG B2 B3 HB ho hb
    have BG:=n0_
    have B2:=n1_
    have B3:=n2_
    have HB:=n3_
    clear n0_ n1_ n2_ n3_
    refine hK.out _ _ ⟨(blk_cell BG.out 5).trans rfl,(blk_cell BG.out 7).trans rfl,(blk_cell BG.out 9).trans rfl,(blk_cell BG.out 6).trans rfl,(blk_cell BG.out 8).trans rfl,(blk_cell BG.out 10).trans rfl,(blk_cell BG.out 15).trans rfl,(blk_cell BG.out 16).trans rfl,(blk_cell B3.out 0).trans rfl,(blk_cell B3.out 1).trans rfl,(blk_cell B3.out 2).trans rfl,(blk_cell B3.out 3).trans rfl⟩ (fun hHeld => ?_)
    clear hK K
    refine norm_ (a':=?_) ?_ ?_
    rotate_left
    ·show Act.put _ (some 20) _ = _
     simp only [Act.put,lA_,lZ_,lS_,i64_w,i32_w]
     rfl
    exact norm_ (by simp only [putAll,Act.put,lA_,lZ_,lS_]) (hCont (v20,v41,v50) _ ⟨hHeld,R20.out,R41.out,R50.out,B2.out,HB.out⟩)
  ·skip
   refine Kd.R_lit_step (Kd.int .i64) _ 2 ?hg (N:=50) ?hd (xs:=([x15,x16] : List Int)) (inner:=[.int .i64 x15,.int .i64 x16]) (ok:=fun _ => True) (okp:=fun _ => True) ?hr ?hp (fun _ hk => hk) trivial (Below.refl _ _) (Nat.le_refl _) (by simp) ?_;(case hd => rfl);(case hg => rfl);(case hr => first | (go_simp;done) | (go_simp;rfl));(case hp => exact repsG_ _)
   intro v50 wE50 ho hb hg_ hnew_
   clear hg_ hnew_
   have R50:=Z_ (Kd.R_lower ho (below_size HB.out))
   have n0_:=Z_ (bB_ BG.out hb)
   have n1_:=Z_ (bB_ B2.out hb)
   have n2_:=Z_ (bB_ B3.out hb)
   have n3_:=Z_ (lP_ HB.out hb)
   clear BG B2 B3 HB ho hb
   have BG:=n0_
   have B2:=n1_
   have B3:=n2_
   have HB:=n3_
   clear n0_ n1_ n2_ n3_
   refine hK.out _ _ ⟨(blk_cell BG.out 5).trans rfl,(blk_cell BG.out 7).trans rfl,(blk_cell BG.out 9).trans rfl,(blk_cell BG.out 6).trans rfl,(blk_cell BG.out 8).trans rfl,(blk_cell BG.out 10).trans rfl,(blk_cell BG.out 15).trans rfl,(blk_cell BG.out 16).trans rfl,(blk_cell B3.out 0).trans rfl,(blk_cell B3.out 1).trans rfl,(blk_cell B3.out 2).trans rfl,(blk_cell B3.out 3).trans rfl⟩ (fun hHeld => ?_)
   clear hK K
   refine norm_ (a':=?_) ?_ ?_
   rotate_left
   ·show Act.put _ (some 50) _ = _
    simp only [Act.put,lA_,lZ_,lS_,i64_w,i32_w]
    rfl
   refine two_ (i:=12) (j:=33) (Ni:=some 20) (Nj:=some 41) (Bt 45 8787503087615) (Bt 45 8796093018111) rfl rfl rfl rfl (by kernel_rfl) (by decide) (by decide) (fun K hK => ?_) (fun K hK => ?_)
   ·skip
    refine Kd.R_lit_step (Kd.int .i64) _ 2 ?hg (N:=20) ?hd (xs:=([x5,x7,x9] : List Int)) (inner:=[.int .i64 x5,.int .i64 x7,.int .i64 x9]) (ok:=fun _ => True) (okp:=fun _ => True) ?hr ?hp (fun _ hk => hk) trivial (Below.refl _ _) (Nat.le_refl _) (by simp) ?_;(case hd => rfl);(case hg => rfl);(case hr => first | (go_simp;done) | (go_simp;rfl));(case hp => exact repsG_ _)
    intro v20 wE20 ho hb hg_ hnew_
    clear hg_ hnew_
    have R20:=Z_ (Kd.R_lower ho (below_size HB.out))
    replace R50:=Z_ (Kd.R_below R50.out hb)
    have n0_:=Z_ (bB_ BG.out hb)
    have n1_:=Z_ (bB_ B2.out hb)
    have n2_:=Z_ (bB_ B3.out hb)
    have n3_:=Z_ (lP_ HB.out hb)
    clear BG B2 B3 HB ho hb
    have BG:=n0_
    have B2:=n1_
    have B3:=n2_
    have HB:=n3_
    clear n0_ n1_ n2_ n3_
    refine hK.out _ _ ⟨(blk_cell BG.out 5).trans rfl,(blk_cell BG.out 7).trans rfl,(blk_cell BG.out 9).trans rfl,(blk_cell BG.out 6).trans rfl,(blk_cell BG.out 8).trans rfl,(blk_cell BG.out 10).trans rfl,(blk_cell BG.out 15).trans rfl,(blk_cell BG.out 16).trans rfl,(blk_cell B3.out 0).trans rfl,(blk_cell B3.out 1).trans rfl,(blk_cell B3.out 2).trans rfl,(blk_cell B3.out 3).trans rfl⟩ (fun hHeld => ?_)
    clear hK K
    refine norm_ (a':=?_) ?_ ?_
    rotate_left
    ·show Act.put _ (some 20) _ = _
     simp only [Act.put,lA_,lZ_,lS_,i64_w,i32_w]
     rfl
    refine one_ (i:=33) (N:=some 41) (Bt 45 8796093022207) rfl rfl (by kernel_rfl) (by decide) (fun K hK => ?_)
    refine Kd.R_lit_step (Kd.int .i64) _ 2 ?hg (N:=41) ?hd (xs:=([x6,x8,x10,x11,x12,x13,x14] : List Int)) (inner:=[.int .i64 x6,.int .i64 x8,.int .i64 x10,.int .i64 x11,.int .i64 x12,.int .i64 x13,.int .i64 x14]) (ok:=fun _ => True) (okp:=fun _ => True) ?hr ?hp (fun _ hk => hk) trivial (Below.refl _ _) (Nat.le_refl _) (by simp) ?_;(case hd => rfl);(case hg => rfl);(case hr => first | (go_simp;done) | (go_simp;rfl));(case hp => exact repsG_ _)
    intro v41 wE41 ho hb hg_ hnew_
    clear hg_ hnew_
    have R41:=Z_ (Kd.R_lower ho (below_size HB.out))
    replace R50:=Z_ (Kd.R_below R50.out hb)
    replace R20:=Z_ (Kd.R_below R20.out hb)
    have n0_:=Z_ (bB_ BG.out hb)
    have n1_:=Z_ (bB_ B2.out hb)
    have n2_:=Z_ (bB_ B3.out hb)
    have n3_:=Z_ (lP_ HB.out hb)
    clear BG B2 B3 HB ho hb
    have BG:=n0_
    have B2:=n1_
    have B3:=n2_
    have HB:=n3_
    clear n0_ n1_ n2_ n3_
    refine hK.out _ _ ⟨(blk_cell BG.out 5).trans rfl,(blk_cell BG.out 7).trans rfl,(blk_cell BG.out 9).trans rfl,(blk_cell BG.out 6).trans rfl,(blk_cell BG.out 8).trans rfl,(blk_cell BG.out 10).trans rfl,(blk_cell BG.out 15).trans rfl,(blk_cell BG.out 16).trans rfl,(blk_cell B3.out 0).trans rfl,(blk_cell B3.out 1).trans rfl,(blk_cell B3.out 2).trans rfl,(blk_cell B3.out 3).trans rfl⟩ (fun hHeld => ?_)
    clear hK K
    refine norm_ (a':=?_) ?_ ?_
    rotate_left
    ·show Act.put _ (some 41) _ = _
     simp only [Act.put,lA_,lZ_,lS_,i64_w,i32_w]
     rfl
    exact norm_ (by simp only [putAll,Act.put,lA_,lZ_,lS_]) (hCont (v20,v41,v50) _ ⟨hHeld,R20.out,R41.out,R50.out,B2.out,HB.out⟩)
   ·skip
    refine Kd.R_lit_step (Kd.int .i64) _ 2 ?hg (N:=41) ?hd (xs:=([x6,x8,x10,x11,x12,x13,x14] : List Int)) (inner:=[.int .i64 x6,.int .i64 x8,.int .i64 x10,.int .i64 x11,.int .i64 x12,.int .i64 x13,.int .i64 x14]) (ok:=fun _ => True) (okp:=fun _ => True) ?hr ?hp (fun _ hk => hk) trivial (Below.refl _ _) (Nat.le_refl _) (by simp) ?_;(case hd => rfl);(case hg => rfl);(case hr => first | (go_simp;done) | (go_simp;rfl));(case hp => exact repsG_ _)
    intro v41 wE41 ho hb hg_ hnew_
    clear hg_ hnew_
    have R41:=Z_ (Kd.R_lower ho (below_size HB.out))
    replace R50:=Z_ (Kd.R_below R50.out hb)
    have n0_:=Z_ (bB_ BG.out hb)
    have n1_:=Z_ (bB_ B2.out hb)
    have n2_:=Z_ (bB_ B3.out hb)
    have n3_:=Z_ (lP_ HB.out hb)
    clear BG B2 B3 HB ho hb
    have BG:=n0_
    have B2:=n1_
    have B3:=n2_
    have HB:=n3_
    clear n0_ n1_ n2_ n3_
    refine hK.out _ _ ⟨(blk_cell BG.out 5).trans rfl,(blk_cell BG.out 7).trans rfl,(blk_cell BG.out 9).trans rfl,(blk_cell BG.out 6).trans rfl,(blk_cell BG.out 8).trans rfl,(blk_cell BG.out 10).trans rfl,(blk_cell BG.out 15).trans rfl,(blk_cell BG.out 16).trans rfl,(blk_cell B3.out 0).trans rfl,(blk_cell B3.out 1).trans rfl,(blk_cell B3.out 2).trans rfl,(blk_cell B3.out 3).trans rfl⟩ (fun hHeld => ?_)
    clear hK K
    refine norm_ (a':=?_) ?_ ?_
    rotate_left
    ·show Act.put _ (some 41) _ = _
     simp only [Act.put,lA_,lZ_,lS_,i64_w,i32_w]
     rfl
    refine one_ (i:=12) (N:=some 20) (Bt 45 8796093022207) rfl rfl (by kernel_rfl) (by decide) (fun K hK => ?_)
    refine Kd.R_lit_step (Kd.int .i64) _ 2 ?hg (N:=20) ?hd (xs:=([x5,x7,x9] : List Int)) (inner:=[.int .i64 x5,.int .i64 x7,.int .i64 x9]) (ok:=fun _ => True) (okp:=fun _ => True) ?hr ?hp (fun _ hk => hk) trivial (Below.refl _ _) (Nat.le_refl _) (by simp) ?_;(case hd => rfl);(case hg => rfl);(case hr => first | (go_simp;done) | (go_simp;rfl));(case hp => exact repsG_ _)
    intro v20 wE20 ho hb hg_ hnew_
    clear hg_ hnew_
    have R20:=Z_ (Kd.R_lower ho (below_size HB.out))
    replace R50:=Z_ (Kd.R_below R50.out hb)
    replace R41:=Z_ (Kd.R_below R41.out hb)
    have n0_:=Z_ (bB_ BG.out hb)
    have n1_:=Z_ (bB_ B2.out hb)
    have n2_:=Z_ (bB_ B3.out hb)
    have n3_:=Z_ (lP_ HB.out hb)
    clear BG B2 B3 HB ho hb
    have BG:=n0_
    have B2:=n1_
    have B3:=n2_
    have HB:=n3_
    clear n0_ n1_ n2_ n3_
    refine hK.out _ _ ⟨(blk_cell BG.out 5).trans rfl,(blk_cell BG.out 7).trans rfl,(blk_cell BG.out 9).trans rfl,(blk_cell BG.out 6).trans rfl,(blk_cell BG.out 8).trans rfl,(blk_cell BG.out 10).trans rfl,(blk_cell BG.out 15).trans rfl,(blk_cell BG.out 16).trans rfl,(blk_cell B3.out 0).trans rfl,(blk_cell B3.out 1).trans rfl,(blk_cell B3.out 2).trans rfl,(blk_cell B3.out 3).trans rfl⟩ (fun hHeld => ?_)
    clear hK K
    refine norm_ (a':=?_) ?_ ?_
    rotate_left
    ·show Act.put _ (some 20) _ = _
     simp only [Act.put,lA_,lZ_,lS_,i64_w,i32_w]
     rfl
    exact norm_ (by simp only [putAll,Act.put,lA_,lZ_,lS_]) (hCont (v20,v41,v50) _ ⟨hHeld,R20.out,R41.out,R50.out,B2.out,HB.out⟩)
 rintro ⟨v20,v41,v50⟩ wJ ⟨hHeld,r20,r41,r50,b2,hb⟩
 clear BG B2 B3 HB
 have R20:=Z_ r20
 have R41:=Z_ r41
 have R50:=Z_ r50
 have B2:=Z_ b2
 have HB:=Z_ hb
 clear r20 r41 r50 b2 hb
 obtain ⟨A20,c20,e20⟩:=Kd.R_slice R20.out
 subst e20
 obtain ⟨A41,c41,e41⟩:=Kd.R_slice R41.out
 subst e41
 obtain ⟨A50,c50,e50⟩:=Kd.R_slice R50.out
 subst e50
 refine norm_ (a':=?_) ?_ ?_
 rotate_left
 ·simp only [putAll,Act.put,lA_,lZ_,lS_]
  rfl
 refine pure_ (i:=43) (N:=some 51) (v:=?_) (a':=?_) (Bt 45 17592186044415) rfl rfl (by kernel_rfl) (fun _ _ _ h => h) (Or.inl ⟨by rfl,?_⟩) ?_ ?_
 rotate_left
 ·intro w'
  go_simp
  first | done | (with_reducible rfl)
 rotate_left
 ·simp only [Act.put,lA_,lZ_,lS_,i64_w,i32_w]
  rfl
 refine last_ (i:=44) (N:=none) (Bt 45 35184372088831) rfl rfl (by kernel_rfl) (by decide) (fun K hK => ?_)
 obtain ⟨_,_,_,_,_,_⟩:=bc3 B2.out
 refine skip_ (w1:=?_) (by rfl) rfl ?_ ?_
 rotate_left
 ·go_simp
  rfl
 refine hK.out _ _ ?_
 clear hK K
 refine done_ (by kernel_rfl) ?_
 try go_wp2
 refine bodyPost_ret (results_cell_row rfl _ _ g2 154 #[.slice A20 3 c20,.slice A41 7 c41,.slice A50 2 c50] (0,0) _ rfl (by apply fill3;exact B2.out) Tryz.underlying154 rfl (by kernel_rfl)) rfl ?_
 refine ⟨_,_,_,rfl,?_,?_,?_,lS1_ (lS1_ (lS1_ HB.out Sg2.out) Sg2.out) Sg2.out⟩
 ·exact Kd.R_mono (rfar3 (g:=g2) (Kd.R_types R20.out B2.out (by decide)) (fun _ hk => hk.2)) (fun _ hk => trivial)
 ·exact Kd.R_mono (rfar3 (g:=g2) (Kd.R_types R41.out B2.out (by decide)) (fun _ hk => hk.2)) (fun _ hk => trivial)
 ·exact Kd.R_mono (rfar3 (g:=g2) (Kd.R_types R50.out B2.out (by decide)) (fun _ hk => hk.2)) (fun _ hk => trivial)
def tkP (l0 : List S83) (b : Bool) (x : Int) : Bool:=if b = true then notIn l0 x else x != -1
def tkAny (l0 : List S83) (st i : Int) (xs : List Int) : Bool:=xs.any (tkP l0 (decide (st > i)))
def impl_TalkFault.f (k : Nat) (l0 : List S83) (x0 x1 x2 x3 x4 x5 x6 x7 x8 x9 x10 x11 x12 x13 x14 x15 x16 x17 x18 x19 : Int) : Option Int :=
  if (decide (0 ≤ x0 ∧ x0 ≤ 9) && decide (1 ≤ x1 ∧ x1 ≤ 2) && decide (1 ≤ x2 ∧ x2 ≤ 3) && decide (0 ≤ x3 ∧ x3 ≤ 9999) && decide (0 ≤ x4 ∧ x4 ≤ 9999) && decide (0 ≤ x17 ∧ x17 ≤ 9999)) = true then (impl_WindowFault.f k x18 x19).bind fun c => (if c = 0 then ((impl_Talk_formOk.f k x0 x1 x2 x3 x4 x5 x6 x7 x8 x9 x10 x11 x12 x13 x14 x15 x16 x17 x18 x19).bind fun b => (if b.1 = true then (if (tkAny l0 x2 0 [x5,x7,x9] || tkAny l0 x2 1 [x6,x8,x10,x11,x12,x13,x14] || tkAny l0 x2 2 [x15,x16]) = true then some 3 else (if (rd_T83 l0 x7).f0 = 2 then (if 2 ≤ x2 then (if (rd_T83 l0 x8).f0 = 6 then some 0 else some 1) else some 0) else some 1)) else some 1)) else some c) else some 3
theorem formOk_same {k : Nat} {x0 x1 x2 x3 x4 x5 x6 x7 x8 x9 x10 x11 x12 x13 x14 x15 x16 x17 x18 x19 : Int} {b : Bool} {y0 y1 y2 y3 y4 y5 y6 y7 y8 y9 y10 y11 y12 y13 y14 y15 y16 y17 y18 y19 : Int} (h : impl_Talk_formOk.f k x0 x1 x2 x3 x4 x5 x6 x7 x8 x9 x10 x11 x12 x13 x14 x15 x16 x17 x18 x19 = some (b,y0,y1,y2,y3,y4,y5,y6,y7,y8,y9,y10,y11,y12,y13,y14,y15,y16,y17,y18,y19)) : x0 = y0 ∧ x1 = y1 ∧ x2 = y2 ∧ x3 = y3 ∧ x4 = y4 ∧ x5 = y5 ∧ x6 = y6 ∧ x7 = y7 ∧ x8 = y8 ∧ x9 = y9 ∧ x10 = y10 ∧ x11 = y11 ∧ x12 = y12 ∧ x13 = y13 ∧ x14 = y14 ∧ x15 = y15 ∧ x16 = y16 ∧ x17 = y17 ∧ x18 = y18 ∧ x19 = y19:=by
  have hj1 : ∀ (k : Nat) (a c : Bool),impl_Talk_formOk.j1 k a c x0 x1 x2 x3 x4 x5 x6 x7 x8 x9 x10 x11 x12 x13 x14 x15 x16 x17 x18 x19 = some (b,y0,y1,y2,y3,y4,y5,y6,y7,y8,y9,y10,y11,y12,y13,y14,y15,y16,y17,y18,y19) → (x0 = y0 ∧ x1 = y1 ∧ x2 = y2 ∧ x3 = y3 ∧ x4 = y4 ∧ x5 = y5 ∧ x6 = y6 ∧ x7 = y7 ∧ x8 = y8 ∧ x9 = y9 ∧ x10 = y10 ∧ x11 = y11 ∧ x12 = y12 ∧ x13 = y13 ∧ x14 = y14 ∧ x15 = y15 ∧ x16 = y16 ∧ x17 = y17 ∧ x18 = y18 ∧ x19 = y19):=by
    intro k a c h
    cases k with
    | zero => simp [impl_Talk_formOk.j1] at h
    | succ k =>
      rw [impl_Talk_formOk.j1] at h
      repeat' split at h
      all_goals first | (simp only [Option.some.injEq,Prod.mk.injEq] at h;obtain ⟨_,rfl,rfl,rfl,rfl,rfl,rfl,rfl,rfl,rfl,rfl,rfl,rfl,rfl,rfl,rfl,rfl,rfl,rfl,rfl,rfl⟩:=h;simp) | (cases h)
  have hj0 : ∀ (k : Nat) (a c : Bool),impl_Talk_formOk.j0 k a c x0 x1 x2 x3 x4 x5 x6 x7 x8 x9 x10 x11 x12 x13 x14 x15 x16 x17 x18 x19 = some (b,y0,y1,y2,y3,y4,y5,y6,y7,y8,y9,y10,y11,y12,y13,y14,y15,y16,y17,y18,y19) → (x0 = y0 ∧ x1 = y1 ∧ x2 = y2 ∧ x3 = y3 ∧ x4 = y4 ∧ x5 = y5 ∧ x6 = y6 ∧ x7 = y7 ∧ x8 = y8 ∧ x9 = y9 ∧ x10 = y10 ∧ x11 = y11 ∧ x12 = y12 ∧ x13 = y13 ∧ x14 = y14 ∧ x15 = y15 ∧ x16 = y16 ∧ x17 = y17 ∧ x18 = y18 ∧ x19 = y19):=by
    intro k a c h
    cases k with
    | zero => simp [impl_Talk_formOk.j0] at h
    | succ k =>
      rw [impl_Talk_formOk.j0] at h
      repeat' split at h
      all_goals first | exact hj1 _ _ _ h | (simp only [Option.some.injEq,Prod.mk.injEq] at h;obtain ⟨_,rfl,rfl,rfl,rfl,rfl,rfl,rfl,rfl,rfl,rfl,rfl,rfl,rfl,rfl,rfl,rfl,rfl,rfl,rfl,rfl⟩:=h;simp) | (cases h)
  unfold impl_Talk_formOk.f at h
  split at h
  · exact hj0 _ _ _ h
  · exact hj0 _ _ _ h
set_option maxHeartbeats 8000000 in
set_option maxRecDepth 100000 in
theorem impl_TalkFault.calls (k : Nat) (A0 : Option Addr) (c0 : Nat) (l0 : List S83) (x0 x1 x2 x3 x4 x5 x6 x7 x8 x9 x10 x11 x12 x13 x14 x15 x16 x17 x18 x19 r : Int) (w : World) (hr0 : Kd.C k83 w A0 l0.length l0) (hc0 : l0.length ≤ c0) (h : impl_TalkFault.f k l0 x0 x1 x2 x3 x4 x5 x6 x7 x8 x9 x10 x11 x12 x13 x14 x15 x16 x17 x18 x19 = some r) :
    Calls Tryz.prog 103 #[.slice A0 l0.length c0,.agg #[.int .i64 x0,.int .i64 x1,.int .i64 x2,.int .i64 x3,.int .i64 x4,.int .i64 x5,.int .i64 x6,.int .i64 x7,.int .i64 x8,.int .i64 x9,.int .i64 x10,.int .i64 x11,.int .i64 x12,.int .i64 x13,.int .i64 x14,.int .i64 x15,.int .i64 x16,.int .i64 x17,.int .i64 x18,.int .i64 x19]] w fun e w' => e = .returned (.int .i64 r) ∧ Below w.heap.size w w':=by
 have hmf : ∀ (fn : Fn) (first cap : Array Value) (w : World),(Instr.makeFunc fn first cap).run Tryz.prog w = .ok (.func fn first cap) w:=fun _ _ _ _ => rfl
 have hu1:=Tryz.underlying30
 have hu2:=Tryz.underlying114
 have hu3:=Tryz.underlying83
 unfold impl_TalkFault.f at h
 have HR0:=Z_ hr0
 have HN0:=Z_ hr0.2.1
 have HB:=Z_ (Below.refl w.heap.size w)
 clear hr0
 obtain ⟨b1,hb1⟩ : ∃ b,b = decide (0 ≤ x0 ∧ x0 ≤ 9):=⟨_,rfl⟩
 rw [← hb1] at h
 have H1:=Z_ (show impl_in.f x0 0 9 = some b1 by rw [hb1];exact impl_in_eq _ _ _)
 clear hb1
 obtain ⟨b2,hb2⟩ : ∃ b,b = decide (1 ≤ x1 ∧ x1 ≤ 2):=⟨_,rfl⟩
 rw [← hb2] at h
 have H2:=Z_ (show impl_in.f x1 1 2 = some b2 by rw [hb2];exact impl_in_eq _ _ _)
 clear hb2
 obtain ⟨b3,hb3⟩ : ∃ b,b = decide (1 ≤ x2 ∧ x2 ≤ 3):=⟨_,rfl⟩
 rw [← hb3] at h
 have H3:=Z_ (show impl_in.f x2 1 3 = some b3 by rw [hb3];exact impl_in_eq _ _ _)
 have HS:=Z_ (show b3 = true → 1 ≤ x2 ∧ x2 ≤ 3 by rw [hb3];exact of_decide_eq_true)
 clear hb3
 obtain ⟨b4,hb4⟩ : ∃ b,b = decide (0 ≤ x3 ∧ x3 ≤ 9999):=⟨_,rfl⟩
 rw [← hb4] at h
 have H4:=Z_ (show impl_isName.f x3 = some b4 by unfold impl_isName.f;rw [impl_in_eq,hb4];rfl)
 clear hb4
 obtain ⟨b5,hb5⟩ : ∃ b,b = decide (0 ≤ x4 ∧ x4 ≤ 9999):=⟨_,rfl⟩
 rw [← hb5] at h
 have H5:=Z_ (show impl_isName.f x4 = some b5 by unfold impl_isName.f;rw [impl_in_eq,hb5];rfl)
 clear hb5
 obtain ⟨b6,hb6⟩ : ∃ b,b = decide (0 ≤ x17 ∧ x17 ≤ 9999):=⟨_,rfl⟩
 rw [← hb6] at h
 have H6:=Z_ (show impl_in.f x17 0 9999 = some b6 by rw [hb6];exact impl_in_eq _ _ _)
 clear hb6
 cases b1 with
 | false =>
  rw [if_neg (by simp)] at h
  obtain rfl:=Option.some.inj h
  go_enter Tryz.func103,Tryz.ntmps103
  go_wp2_with (first | ((with_reducible refine gD_ 2 rfl ?_);refine bx_ #[.slice A0 l0.length c0] 30 ?_;intro g2 hg wg2 hbox hb;have n2_:=Z_ (lP_ HB.out hb);have n3_:=Z_ hbox;have Sg2:=Z_ ((by rw [hg];exact (below_size HB.out) : w.heap.size ≤ g2));clear HB hbox hb hg;have HB:=n2_;have BK2:=n3_;have c2_ : wg2.cell? ⟨g2,0,none⟩ = some (.slice A0 l0.length c0):=(blk_cell BK2.out 0).trans rfl;clear n2_ n3_) | ((with_reducible refine gD_ 3 rfl ?_);refine bx_ #[.int .i64 x0,.int .i64 x1,.int .i64 x2,.int .i64 x3,.int .i64 x4,.int .i64 x5,.int .i64 x6,.int .i64 x7,.int .i64 x8,.int .i64 x9,.int .i64 x10,.int .i64 x11,.int .i64 x12,.int .i64 x13,.int .i64 x14,.int .i64 x15,.int .i64 x16,.int .i64 x17,.int .i64 x18,.int .i64 x19] 114 ?_;intro g3 hg wg3 hbox hb;clear c2_;have n0_:=Z_ (bB_ BK2.out hb);have NE:=Z_ ((by rw [hg];exact Nat.ne_of_lt (blk_lt BK2.out)) : g2 ≠ g3);have n2_:=Z_ (lP_ HB.out hb);have n3_:=Z_ hbox;have Sg3:=Z_ ((by rw [hg];exact (below_size HB.out) : w.heap.size ≤ g3));clear BK2;clear HB hbox hb hg;have HB:=n2_;have BK2:=n0_;have BK3:=n3_;clear n0_;obtain ⟨_,_,_,_,_,_,_,_,_,_,_,_,_,_,_,_,_,_,_,_,_,_,_,_,_,_,_,_,_,_,_,_,_,_,_,_,_,_,_,_⟩:=bc20 BK3.out;clear n2_ n3_) | (go_at_call 61;(first | (with_reducible refine (impl_in.calls x0 0 9 false _ H1.out).mono ?_));rintro e w9_ ⟨rfl,⟨nd,rfl⟩⟩))
  go_ret
  exact ⟨rfl,(by repeat (first | exact HB.out | apply lN_ | apply lD_))⟩
 | true =>
  cases b2 with
  | false =>
   rw [if_neg (by simp)] at h
   obtain rfl:=Option.some.inj h
   go_enter Tryz.func103,Tryz.ntmps103
   go_wp2_with (first | ((with_reducible refine gD_ 2 rfl ?_);refine bx_ #[.slice A0 l0.length c0] 30 ?_;intro g2 hg wg2 hbox hb;have n2_:=Z_ (lP_ HB.out hb);have n3_:=Z_ hbox;have Sg2:=Z_ ((by rw [hg];exact (below_size HB.out) : w.heap.size ≤ g2));clear HB hbox hb hg;have HB:=n2_;have BK2:=n3_;have c2_ : wg2.cell? ⟨g2,0,none⟩ = some (.slice A0 l0.length c0):=(blk_cell BK2.out 0).trans rfl;clear n2_ n3_) | ((with_reducible refine gD_ 3 rfl ?_);refine bx_ #[.int .i64 x0,.int .i64 x1,.int .i64 x2,.int .i64 x3,.int .i64 x4,.int .i64 x5,.int .i64 x6,.int .i64 x7,.int .i64 x8,.int .i64 x9,.int .i64 x10,.int .i64 x11,.int .i64 x12,.int .i64 x13,.int .i64 x14,.int .i64 x15,.int .i64 x16,.int .i64 x17,.int .i64 x18,.int .i64 x19] 114 ?_;intro g3 hg wg3 hbox hb;clear c2_;have n0_:=Z_ (bB_ BK2.out hb);have NE:=Z_ ((by rw [hg];exact Nat.ne_of_lt (blk_lt BK2.out)) : g2 ≠ g3);have n2_:=Z_ (lP_ HB.out hb);have n3_:=Z_ hbox;have Sg3:=Z_ ((by rw [hg];exact (below_size HB.out) : w.heap.size ≤ g3));clear BK2;clear HB hbox hb hg;have HB:=n2_;have BK2:=n0_;have BK3:=n3_;clear n0_;obtain ⟨_,_,_,_,_,_,_,_,_,_,_,_,_,_,_,_,_,_,_,_,_,_,_,_,_,_,_,_,_,_,_,_,_,_,_,_,_,_,_,_⟩:=bc20 BK3.out;clear n2_ n3_) | (go_at_call 61;(first | (with_reducible refine (impl_in.calls x0 0 9 true _ H1.out).mono ?_) | (with_reducible refine (impl_in.calls x1 1 2 false _ H2.out).mono ?_));rintro e w9_ ⟨rfl,⟨nd,rfl⟩⟩))
   go_ret
   exact ⟨rfl,(by repeat (first | exact HB.out | apply lN_ | apply lD_))⟩
  | true =>
   cases b3 with
   | false =>
    rw [if_neg (by simp)] at h
    obtain rfl:=Option.some.inj h
    go_enter Tryz.func103,Tryz.ntmps103
    go_wp2_with (first | ((with_reducible refine gD_ 2 rfl ?_);refine bx_ #[.slice A0 l0.length c0] 30 ?_;intro g2 hg wg2 hbox hb;have n2_:=Z_ (lP_ HB.out hb);have n3_:=Z_ hbox;have Sg2:=Z_ ((by rw [hg];exact (below_size HB.out) : w.heap.size ≤ g2));clear HB hbox hb hg;have HB:=n2_;have BK2:=n3_;have c2_ : wg2.cell? ⟨g2,0,none⟩ = some (.slice A0 l0.length c0):=(blk_cell BK2.out 0).trans rfl;clear n2_ n3_) | ((with_reducible refine gD_ 3 rfl ?_);refine bx_ #[.int .i64 x0,.int .i64 x1,.int .i64 x2,.int .i64 x3,.int .i64 x4,.int .i64 x5,.int .i64 x6,.int .i64 x7,.int .i64 x8,.int .i64 x9,.int .i64 x10,.int .i64 x11,.int .i64 x12,.int .i64 x13,.int .i64 x14,.int .i64 x15,.int .i64 x16,.int .i64 x17,.int .i64 x18,.int .i64 x19] 114 ?_;intro g3 hg wg3 hbox hb;clear c2_;have n0_:=Z_ (bB_ BK2.out hb);have NE:=Z_ ((by rw [hg];exact Nat.ne_of_lt (blk_lt BK2.out)) : g2 ≠ g3);have n2_:=Z_ (lP_ HB.out hb);have n3_:=Z_ hbox;have Sg3:=Z_ ((by rw [hg];exact (below_size HB.out) : w.heap.size ≤ g3));clear BK2;clear HB hbox hb hg;have HB:=n2_;have BK2:=n0_;have BK3:=n3_;clear n0_;obtain ⟨_,_,_,_,_,_,_,_,_,_,_,_,_,_,_,_,_,_,_,_,_,_,_,_,_,_,_,_,_,_,_,_,_,_,_,_,_,_,_,_⟩:=bc20 BK3.out;clear n2_ n3_) | (go_at_call 61;(first | (with_reducible refine (impl_in.calls x0 0 9 true _ H1.out).mono ?_) | (with_reducible refine (impl_in.calls x1 1 2 true _ H2.out).mono ?_) | (with_reducible refine (impl_in.calls x2 1 3 false _ H3.out).mono ?_));rintro e w9_ ⟨rfl,⟨nd,rfl⟩⟩))
    go_ret
    exact ⟨rfl,(by repeat (first | exact HB.out | apply lN_ | apply lD_))⟩
   | true =>
    cases b4 with
    | false =>
     rw [if_neg (by simp)] at h
     obtain rfl:=Option.some.inj h
     go_enter Tryz.func103,Tryz.ntmps103
     go_wp2_with (first | ((with_reducible refine gD_ 2 rfl ?_);refine bx_ #[.slice A0 l0.length c0] 30 ?_;intro g2 hg wg2 hbox hb;have n2_:=Z_ (lP_ HB.out hb);have n3_:=Z_ hbox;have Sg2:=Z_ ((by rw [hg];exact (below_size HB.out) : w.heap.size ≤ g2));clear HB hbox hb hg;have HB:=n2_;have BK2:=n3_;have c2_ : wg2.cell? ⟨g2,0,none⟩ = some (.slice A0 l0.length c0):=(blk_cell BK2.out 0).trans rfl;clear n2_ n3_) | ((with_reducible refine gD_ 3 rfl ?_);refine bx_ #[.int .i64 x0,.int .i64 x1,.int .i64 x2,.int .i64 x3,.int .i64 x4,.int .i64 x5,.int .i64 x6,.int .i64 x7,.int .i64 x8,.int .i64 x9,.int .i64 x10,.int .i64 x11,.int .i64 x12,.int .i64 x13,.int .i64 x14,.int .i64 x15,.int .i64 x16,.int .i64 x17,.int .i64 x18,.int .i64 x19] 114 ?_;intro g3 hg wg3 hbox hb;clear c2_;have n0_:=Z_ (bB_ BK2.out hb);have NE:=Z_ ((by rw [hg];exact Nat.ne_of_lt (blk_lt BK2.out)) : g2 ≠ g3);have n2_:=Z_ (lP_ HB.out hb);have n3_:=Z_ hbox;have Sg3:=Z_ ((by rw [hg];exact (below_size HB.out) : w.heap.size ≤ g3));clear BK2;clear HB hbox hb hg;have HB:=n2_;have BK2:=n0_;have BK3:=n3_;clear n0_;obtain ⟨_,_,_,_,_,_,_,_,_,_,_,_,_,_,_,_,_,_,_,_,_,_,_,_,_,_,_,_,_,_,_,_,_,_,_,_,_,_,_,_⟩:=bc20 BK3.out;clear n2_ n3_) | (go_at_call 61;(first | (with_reducible refine (impl_in.calls x0 0 9 true _ H1.out).mono ?_) | (with_reducible refine (impl_in.calls x1 1 2 true _ H2.out).mono ?_) | (with_reducible refine (impl_in.calls x2 1 3 true _ H3.out).mono ?_));rintro e w9_ ⟨rfl,⟨nd,rfl⟩⟩) | (go_at_call 109;(first | (with_reducible refine (impl_isName.calls x3 false _ H4.out).mono ?_));rintro e w9_ ⟨rfl,⟨nd,rfl⟩⟩))
     go_ret
     exact ⟨rfl,(by repeat (first | exact HB.out | apply lN_ | apply lD_))⟩
    | true =>
     cases b5 with
     | false =>
      rw [if_neg (by simp)] at h
      obtain rfl:=Option.some.inj h
      go_enter Tryz.func103,Tryz.ntmps103
      go_wp2_with (first | ((with_reducible refine gD_ 2 rfl ?_);refine bx_ #[.slice A0 l0.length c0] 30 ?_;intro g2 hg wg2 hbox hb;have n2_:=Z_ (lP_ HB.out hb);have n3_:=Z_ hbox;have Sg2:=Z_ ((by rw [hg];exact (below_size HB.out) : w.heap.size ≤ g2));clear HB hbox hb hg;have HB:=n2_;have BK2:=n3_;have c2_ : wg2.cell? ⟨g2,0,none⟩ = some (.slice A0 l0.length c0):=(blk_cell BK2.out 0).trans rfl;clear n2_ n3_) | ((with_reducible refine gD_ 3 rfl ?_);refine bx_ #[.int .i64 x0,.int .i64 x1,.int .i64 x2,.int .i64 x3,.int .i64 x4,.int .i64 x5,.int .i64 x6,.int .i64 x7,.int .i64 x8,.int .i64 x9,.int .i64 x10,.int .i64 x11,.int .i64 x12,.int .i64 x13,.int .i64 x14,.int .i64 x15,.int .i64 x16,.int .i64 x17,.int .i64 x18,.int .i64 x19] 114 ?_;intro g3 hg wg3 hbox hb;clear c2_;have n0_:=Z_ (bB_ BK2.out hb);have NE:=Z_ ((by rw [hg];exact Nat.ne_of_lt (blk_lt BK2.out)) : g2 ≠ g3);have n2_:=Z_ (lP_ HB.out hb);have n3_:=Z_ hbox;have Sg3:=Z_ ((by rw [hg];exact (below_size HB.out) : w.heap.size ≤ g3));clear BK2;clear HB hbox hb hg;have HB:=n2_;have BK2:=n0_;have BK3:=n3_;clear n0_;obtain ⟨_,_,_,_,_,_,_,_,_,_,_,_,_,_,_,_,_,_,_,_,_,_,_,_,_,_,_,_,_,_,_,_,_,_,_,_,_,_,_,_⟩:=bc20 BK3.out;clear n2_ n3_) | (go_at_call 61;(first | (with_reducible refine (impl_in.calls x0 0 9 true _ H1.out).mono ?_) | (with_reducible refine (impl_in.calls x1 1 2 true _ H2.out).mono ?_) | (with_reducible refine (impl_in.calls x2 1 3 true _ H3.out).mono ?_));rintro e w9_ ⟨rfl,⟨nd,rfl⟩⟩) | (go_at_call 109;(first | (with_reducible refine (impl_isName.calls x3 true _ H4.out).mono ?_) | (with_reducible refine (impl_isName.calls x4 false _ H5.out).mono ?_));rintro e w9_ ⟨rfl,⟨nd,rfl⟩⟩))
      go_ret
      exact ⟨rfl,(by repeat (first | exact HB.out | apply lN_ | apply lD_))⟩
     | true =>
      cases b6 with
      | false =>
       rw [if_neg (by simp)] at h
       obtain rfl:=Option.some.inj h
       go_enter Tryz.func103,Tryz.ntmps103
       go_wp2_with (first | ((with_reducible refine gD_ 2 rfl ?_);refine bx_ #[.slice A0 l0.length c0] 30 ?_;intro g2 hg wg2 hbox hb;have n2_:=Z_ (lP_ HB.out hb);have n3_:=Z_ hbox;have Sg2:=Z_ ((by rw [hg];exact (below_size HB.out) : w.heap.size ≤ g2));clear HB hbox hb hg;have HB:=n2_;have BK2:=n3_;have c2_ : wg2.cell? ⟨g2,0,none⟩ = some (.slice A0 l0.length c0):=(blk_cell BK2.out 0).trans rfl;clear n2_ n3_) | ((with_reducible refine gD_ 3 rfl ?_);refine bx_ #[.int .i64 x0,.int .i64 x1,.int .i64 x2,.int .i64 x3,.int .i64 x4,.int .i64 x5,.int .i64 x6,.int .i64 x7,.int .i64 x8,.int .i64 x9,.int .i64 x10,.int .i64 x11,.int .i64 x12,.int .i64 x13,.int .i64 x14,.int .i64 x15,.int .i64 x16,.int .i64 x17,.int .i64 x18,.int .i64 x19] 114 ?_;intro g3 hg wg3 hbox hb;clear c2_;have n0_:=Z_ (bB_ BK2.out hb);have NE:=Z_ ((by rw [hg];exact Nat.ne_of_lt (blk_lt BK2.out)) : g2 ≠ g3);have n2_:=Z_ (lP_ HB.out hb);have n3_:=Z_ hbox;have Sg3:=Z_ ((by rw [hg];exact (below_size HB.out) : w.heap.size ≤ g3));clear BK2;clear HB hbox hb hg;have HB:=n2_;have BK2:=n0_;have BK3:=n3_;clear n0_;obtain ⟨_,_,_,_,_,_,_,_,_,_,_,_,_,_,_,_,_,_,_,_,_,_,_,_,_,_,_,_,_,_,_,_,_,_,_,_,_,_,_,_⟩:=bc20 BK3.out;clear n2_ n3_) | (go_at_call 61;(first | (with_reducible refine (impl_in.calls x0 0 9 true _ H1.out).mono ?_) | (with_reducible refine (impl_in.calls x1 1 2 true _ H2.out).mono ?_) | (with_reducible refine (impl_in.calls x2 1 3 true _ H3.out).mono ?_) | (with_reducible refine (impl_in.calls x17 0 9999 false _ H6.out).mono ?_));rintro e w9_ ⟨rfl,⟨nd,rfl⟩⟩) | (go_at_call 109;(first | (with_reducible refine (impl_isName.calls x3 true _ H4.out).mono ?_) | (with_reducible refine (impl_isName.calls x4 true _ H5.out).mono ?_));rintro e w9_ ⟨rfl,⟨nd,rfl⟩⟩))
       go_ret
       exact ⟨rfl,(by repeat (first | exact HB.out | apply lN_ | apply lD_))⟩
      | true =>
       rw [if_pos (by simp)] at h
       have HS2:=Z_ (HS.out rfl)
       obtain ⟨c,hc,h⟩:=Option.bind_eq_some_iff.mp h
       have HW:=Z_ hc
       clear hc
       by_cases hz : c = 0
       rotate_left
       ·rw [if_neg hz] at h
        obtain rfl:=Option.some.inj h
        have hz0 : (c == 0) = false:=by simpa using hz
        have hz1 : (c != 0) = true:=by simpa using hz
        go_enter Tryz.func103,Tryz.ntmps103
        go_wp2_with (first | ((with_reducible refine gD_ 2 rfl ?_);refine bx_ #[.slice A0 l0.length c0] 30 ?_;intro g2 hg wg2 hbox hb;have n2_:=Z_ (lP_ HB.out hb);have n3_:=Z_ hbox;have Sg2:=Z_ ((by rw [hg];exact (below_size HB.out) : w.heap.size ≤ g2));clear HB hbox hb hg;have HB:=n2_;have BK2:=n3_;have c2_ : wg2.cell? ⟨g2,0,none⟩ = some (.slice A0 l0.length c0):=(blk_cell BK2.out 0).trans rfl;clear n2_ n3_) | ((with_reducible refine gD_ 3 rfl ?_);refine bx_ #[.int .i64 x0,.int .i64 x1,.int .i64 x2,.int .i64 x3,.int .i64 x4,.int .i64 x5,.int .i64 x6,.int .i64 x7,.int .i64 x8,.int .i64 x9,.int .i64 x10,.int .i64 x11,.int .i64 x12,.int .i64 x13,.int .i64 x14,.int .i64 x15,.int .i64 x16,.int .i64 x17,.int .i64 x18,.int .i64 x19] 114 ?_;intro g3 hg wg3 hbox hb;clear c2_;have n0_:=Z_ (bB_ BK2.out hb);have NE:=Z_ ((by rw [hg];exact Nat.ne_of_lt (blk_lt BK2.out)) : g2 ≠ g3);have n2_:=Z_ (lP_ HB.out hb);have n3_:=Z_ hbox;have Sg3:=Z_ ((by rw [hg];exact (below_size HB.out) : w.heap.size ≤ g3));clear BK2;clear HB hbox hb hg;have HB:=n2_;have BK2:=n0_;have BK3:=n3_;clear n0_;obtain ⟨_,_,_,_,_,_,_,_,_,_,_,_,_,_,_,_,_,_,_,_,_,_,_,_,_,_,_,_,_,_,_,_,_,_,_,_,_,_,_,_⟩:=bc20 BK3.out;clear n2_ n3_) | (go_at_call 61;(first | (with_reducible refine (impl_in.calls x0 0 9 true _ H1.out).mono ?_) | (with_reducible refine (impl_in.calls x1 1 2 true _ H2.out).mono ?_) | (with_reducible refine (impl_in.calls x2 1 3 true _ H3.out).mono ?_) | (with_reducible refine (impl_in.calls x17 0 9999 true _ H6.out).mono ?_));rintro e w9_ ⟨rfl,⟨nd,rfl⟩⟩) | (go_at_call 109;(first | (with_reducible refine (impl_isName.calls x3 true _ H4.out).mono ?_) | (with_reducible refine (impl_isName.calls x4 true _ H5.out).mono ?_));rintro e w9_ ⟨rfl,⟨nd,rfl⟩⟩) | (go_at_call 110;(with_reducible refine (impl_WindowFault.calls k x18 x19 c _ HW.out).mono ?_);rintro e w4_ ⟨rfl,hb⟩;replace BK2:=Z_ (bB_ (by repeat (first | exact BK2.out | apply bN_ | apply bD_)) hb);replace BK3:=Z_ (bB_ (by repeat (first | exact BK3.out | apply bN_ | apply bD_)) hb);replace HB:=Z_ (lP_ (by repeat (first | exact HB.out | apply lN_ | apply lD_)) hb);clear hb;obtain ⟨_,_,_,_,_,_,_,_,_,_,_,_,_,_,_,_,_,_,_,_,_,_,_,_,_,_,_,_,_,_,_,_,_,_,_,_,_,_,_,_⟩:=bc20 BK3.out))
        go_ret
        exact ⟨rfl,(by repeat (first | exact HB.out | apply lN_ | apply lD_))⟩
       rw [if_pos hz] at h
       subst hz
       obtain ⟨⟨fb,y0,y1,y2,y3,y4,y5,y6,y7,y8,y9,y10,y11,y12,y13,y14,y15,y16,y17,y18,y19⟩,hf,h⟩:=Option.bind_eq_some_iff.mp h
       obtain ⟨rfl,rfl,rfl,rfl,rfl,rfl,rfl,rfl,rfl,rfl,rfl,rfl,rfl,rfl,rfl,rfl,rfl,rfl,rfl,rfl⟩:=formOk_same hf
       have HF:=Z_ hf
       clear hf
       try dsimp only at h
       cases fb with
       | false =>
        rw [if_neg (by simp)] at h
        obtain rfl:=Option.some.inj h
        go_enter Tryz.func103,Tryz.ntmps103
        go_wp2_with (first | ((with_reducible refine gD_ 2 rfl ?_);refine bx_ #[.slice A0 l0.length c0] 30 ?_;intro g2 hg wg2 hbox hb;have n2_:=Z_ (lP_ HB.out hb);have n3_:=Z_ hbox;have Sg2:=Z_ ((by rw [hg];exact (below_size HB.out) : w.heap.size ≤ g2));clear HB hbox hb hg;have HB:=n2_;have BK2:=n3_;have c2_ : wg2.cell? ⟨g2,0,none⟩ = some (.slice A0 l0.length c0):=(blk_cell BK2.out 0).trans rfl;clear n2_ n3_) | ((with_reducible refine gD_ 3 rfl ?_);refine bx_ #[.int .i64 x0,.int .i64 x1,.int .i64 x2,.int .i64 x3,.int .i64 x4,.int .i64 x5,.int .i64 x6,.int .i64 x7,.int .i64 x8,.int .i64 x9,.int .i64 x10,.int .i64 x11,.int .i64 x12,.int .i64 x13,.int .i64 x14,.int .i64 x15,.int .i64 x16,.int .i64 x17,.int .i64 x18,.int .i64 x19] 114 ?_;intro g3 hg wg3 hbox hb;clear c2_;have n0_:=Z_ (bB_ BK2.out hb);have NE:=Z_ ((by rw [hg];exact Nat.ne_of_lt (blk_lt BK2.out)) : g2 ≠ g3);have n2_:=Z_ (lP_ HB.out hb);have n3_:=Z_ hbox;have Sg3:=Z_ ((by rw [hg];exact (below_size HB.out) : w.heap.size ≤ g3));clear BK2;clear HB hbox hb hg;have HB:=n2_;have BK2:=n0_;have BK3:=n3_;clear n0_;obtain ⟨_,_,_,_,_,_,_,_,_,_,_,_,_,_,_,_,_,_,_,_,_,_,_,_,_,_,_,_,_,_,_,_,_,_,_,_,_,_,_,_⟩:=bc20 BK3.out;clear n2_ n3_) | (go_at_call 61;(first | (with_reducible refine (impl_in.calls x0 0 9 true _ H1.out).mono ?_) | (with_reducible refine (impl_in.calls x1 1 2 true _ H2.out).mono ?_) | (with_reducible refine (impl_in.calls x2 1 3 true _ H3.out).mono ?_) | (with_reducible refine (impl_in.calls x17 0 9999 true _ H6.out).mono ?_));rintro e w9_ ⟨rfl,⟨nd,rfl⟩⟩) | (go_at_call 109;(first | (with_reducible refine (impl_isName.calls x3 true _ H4.out).mono ?_) | (with_reducible refine (impl_isName.calls x4 true _ H5.out).mono ?_));rintro e w9_ ⟨rfl,⟨nd,rfl⟩⟩) | (go_at_call 110;(with_reducible refine (impl_WindowFault.calls k x18 x19 0 _ HW.out).mono ?_);rintro e w4_ ⟨rfl,hb⟩;replace BK2:=Z_ (bB_ (by repeat (first | exact BK2.out | apply bN_ | apply bD_)) hb);replace BK3:=Z_ (bB_ (by repeat (first | exact BK3.out | apply bN_ | apply bD_)) hb);replace HB:=Z_ (lP_ (by repeat (first | exact HB.out | apply lN_ | apply lD_)) hb);clear hb;obtain ⟨_,_,_,_,_,_,_,_,_,_,_,_,_,_,_,_,_,_,_,_,_,_,_,_,_,_,_,_,_,_,_,_,_,_,_,_,_,_,_,_⟩:=bc20 BK3.out) | (go_at_call 111;(with_reducible refine (impl_Talk_formOk.calls k g3 x0 x1 x2 x3 x4 x5 x6 x7 x8 x9 x10 x11 x12 x13 x14 x15 x16 x17 x18 x19 false x0 x1 x2 x3 x4 x5 x6 x7 x8 x9 x10 x11 x12 x13 x14 x15 x16 x17 x18 x19 w _ ?hI ?hB HF.out).mono ?_);(case hI => exact ⟨(by repeat (first | exact BK3.out | apply bN_ | apply bD_)),Sg3.out⟩);(case hB => exact (by repeat (first | exact HB.out | apply lN_ | apply lD_)));rintro e w5_ ⟨rfl,hI,hB,hk⟩;replace BK2:=Z_ ((hk.2 g2 (blk_lt (by repeat (first | exact BK2.out | apply bN_ | apply bD_))) NE.out (by simp)).trans (by repeat (first | exact BK2.out | apply bN_ | apply bD_)));replace BK3:=Z_ hI.1;replace HB:=Z_ hB;clear hI hB hk;obtain ⟨_,_,_,_,_,_,_,_,_,_,_,_,_,_,_,_,_,_,_,_,_,_,_,_,_,_,_,_,_,_,_,_,_,_,_,_,_,_,_,_⟩:=bc20 BK3.out))
        go_ret
        exact ⟨rfl,(by repeat (first | exact HB.out | apply lN_ | apply lD_))⟩
       | true =>
        rw [if_pos rfl] at h
        obtain ⟨q0,hq0⟩ : ∃ b,b = tkAny l0 x2 0 [x5,x7,x9]:=⟨_,rfl⟩
        obtain ⟨q1,hq1⟩ : ∃ b,b = tkAny l0 x2 1 [x6,x8,x10,x11,x12,x13,x14]:=⟨_,rfl⟩
        obtain ⟨q2,hq2⟩ : ∃ b,b = tkAny l0 x2 2 [x15,x16]:=⟨_,rfl⟩
        rw [← hq0,← hq1,← hq2] at h
        have HQ0:=Z_ hq0.symm
        clear hq0
        have HQ1:=Z_ hq1.symm
        clear hq1
        have HQ2:=Z_ hq2.symm
        clear hq2
        have H:=Z_ h
        clear h
        go_enter Tryz.func103,Tryz.ntmps103
        go_wp2_with (first | ((with_reducible refine gD_ 2 rfl ?_);refine bx_ #[.slice A0 l0.length c0] 30 ?_;intro g2 hg wg2 hbox hb;have n2_:=Z_ (lP_ HB.out hb);have n3_:=Z_ hbox;have Sg2:=Z_ ((by rw [hg];exact (below_size HB.out) : w.heap.size ≤ g2));clear HB hbox hb hg;have HB:=n2_;have BK2:=n3_;have c2_ : wg2.cell? ⟨g2,0,none⟩ = some (.slice A0 l0.length c0):=(blk_cell BK2.out 0).trans rfl;clear n2_ n3_) | ((with_reducible refine gD_ 3 rfl ?_);refine bx_ #[.int .i64 x0,.int .i64 x1,.int .i64 x2,.int .i64 x3,.int .i64 x4,.int .i64 x5,.int .i64 x6,.int .i64 x7,.int .i64 x8,.int .i64 x9,.int .i64 x10,.int .i64 x11,.int .i64 x12,.int .i64 x13,.int .i64 x14,.int .i64 x15,.int .i64 x16,.int .i64 x17,.int .i64 x18,.int .i64 x19] 114 ?_;intro g3 hg wg3 hbox hb;clear c2_;have n0_:=Z_ (bB_ BK2.out hb);have NE:=Z_ ((by rw [hg];exact Nat.ne_of_lt (blk_lt BK2.out)) : g2 ≠ g3);have n2_:=Z_ (lP_ HB.out hb);have n3_:=Z_ hbox;have Sg3:=Z_ ((by rw [hg];exact (below_size HB.out) : w.heap.size ≤ g3));clear BK2;clear HB hbox hb hg;have HB:=n2_;have BK2:=n0_;have BK3:=n3_;clear n0_;obtain ⟨_,_,_,_,_,_,_,_,_,_,_,_,_,_,_,_,_,_,_,_,_,_,_,_,_,_,_,_,_,_,_,_,_,_,_,_,_,_,_,_⟩:=bc20 BK3.out;clear n2_ n3_) | (go_at_call 61;(first | (with_reducible refine (impl_in.calls x0 0 9 true _ H1.out).mono ?_) | (with_reducible refine (impl_in.calls x1 1 2 true _ H2.out).mono ?_) | (with_reducible refine (impl_in.calls x2 1 3 true _ H3.out).mono ?_) | (with_reducible refine (impl_in.calls x17 0 9999 true _ H6.out).mono ?_));rintro e w9_ ⟨rfl,⟨nd,rfl⟩⟩) | (go_at_call 109;(first | (with_reducible refine (impl_isName.calls x3 true _ H4.out).mono ?_) | (with_reducible refine (impl_isName.calls x4 true _ H5.out).mono ?_));rintro e w9_ ⟨rfl,⟨nd,rfl⟩⟩) | (go_at_call 110;(with_reducible refine (impl_WindowFault.calls k x18 x19 0 _ HW.out).mono ?_);rintro e w4_ ⟨rfl,hb⟩;replace BK2:=Z_ (bB_ (by repeat (first | exact BK2.out | apply bN_ | apply bD_)) hb);replace BK3:=Z_ (bB_ (by repeat (first | exact BK3.out | apply bN_ | apply bD_)) hb);replace HB:=Z_ (lP_ (by repeat (first | exact HB.out | apply lN_ | apply lD_)) hb);clear hb;obtain ⟨_,_,_,_,_,_,_,_,_,_,_,_,_,_,_,_,_,_,_,_,_,_,_,_,_,_,_,_,_,_,_,_,_,_,_,_,_,_,_,_⟩:=bc20 BK3.out) | (go_at_call 111;(with_reducible refine (impl_Talk_formOk.calls k g3 x0 x1 x2 x3 x4 x5 x6 x7 x8 x9 x10 x11 x12 x13 x14 x15 x16 x17 x18 x19 true x0 x1 x2 x3 x4 x5 x6 x7 x8 x9 x10 x11 x12 x13 x14 x15 x16 x17 x18 x19 w _ ?hI ?hB HF.out).mono ?_);(case hI => exact ⟨(by repeat (first | exact BK3.out | apply bN_ | apply bD_)),Sg3.out⟩);(case hB => exact (by repeat (first | exact HB.out | apply lN_ | apply lD_)));rintro e w5_ ⟨rfl,hI,hB,hk⟩;replace BK2:=Z_ ((hk.2 g2 (blk_lt (by repeat (first | exact BK2.out | apply bN_ | apply bD_))) NE.out (by simp)).trans (by repeat (first | exact BK2.out | apply bN_ | apply bD_)));replace BK3:=Z_ hI.1;replace HB:=Z_ hB;clear hI hB hk;obtain ⟨_,_,_,_,_,_,_,_,_,_,_,_,_,_,_,_,_,_,_,_,_,_,_,_,_,_,_,_,_,_,_,_,_,_,_,_,_,_,_,_⟩:=bc20 BK3.out) | (go_at_call 112;(with_reducible refine (impl_Talk_places.calls g3 x0 x1 x2 x3 x4 x5 x6 x7 x8 x9 x10 x11 x12 x13 x14 x15 x16 x17 x18 x19 _ (by repeat (first | exact BK3.out | apply bN_ | apply bD_))).mono ?_);rintro e w6_ ⟨v1,v2,v3,rfl,r1,r2,r3,hb⟩;replace BK2:=Z_ (bB_ (by repeat (first | exact BK2.out | apply bN_ | apply bD_)) hb);replace BK3:=Z_ (bB_ (by repeat (first | exact BK3.out | apply bN_ | apply bD_)) hb);replace HB:=Z_ (lP_ (by repeat (first | exact HB.out | apply lN_ | apply lD_)) hb);clear hb;obtain ⟨_,_,_,_,_,_,_,_,_,_,_,_,_,_,_,_,_,_,_,_,_,_,_,_,_,_,_,_,_,_,_,_,_,_,_,_,_,_,_,_⟩:=bc20 BK3.out;obtain ⟨A1,c1,e1⟩:=Kd.R_slice r1;subst e1;obtain ⟨A2,c2,e2⟩:=Kd.R_slice r2;subst e2;obtain ⟨A3,c3,e3⟩:=Kd.R_slice r3;subst e3;have C1:=Z_ (Kd.R_reads' r1).2.2;have C2:=Z_ (Kd.R_reads' r2).2.2;have C3:=Z_ (Kd.R_reads' r3).2.2;clear r1 r2 r3))
        go_loopg [52] 3 (fun gg s52 wr => ∃ kk : Nat,kk ≤ 3 ∧ 3 - kk ≤ gg ∧ s52 = .int .i64 kk ∧ Aside0 (∀ j : Nat,j < kk → (if j = 0 then q0 else if j = 1 then q1 else q2) = false) ∧ Aside0 (Below w6_.heap.size w6_ wr))
        case atStart => exact ⟨0,by omega,by omega,rfl,⟨fun j hj => absurd hj (by omega)⟩,⟨Below.refl _ _⟩⟩
        case round =>
         obtain ⟨kk,hk3,hgg,rfl,HP,HL⟩:=hrel
         have BW2:=Z_ (HL.out.block g2 (blk_lt BK2.out) |>.trans BK2.out)
         have BW3:=Z_ (HL.out.block g3 (blk_lt BK3.out) |>.trans BK3.out)
         have HBW:=Z_ (lP_ HB.out HL.out)
         obtain ⟨_,_,_,_,_,_,_,_,_,_,_,_,_,_,_,_,_,_,_,_,_,_,_,_,_,_,_,_,_,_,_,_,_,_,_,_,_,_,_,_⟩:=bc20 BW3.out
         have c2_ : wr.cell? ⟨g2,0,none⟩ = some (.slice A0 l0.length c0):=(blk_cell BW2.out 0).trans rfl
         by_cases hlt : kk < 3
         have hix0 : ∀ W : World,(Instr.index 154 (.agg #[.slice A1 3 c1,.slice A2 7 c2,.slice A3 2 c3]) (.int .i64 0)).run Tryz.prog W = .ok (.slice A1 3 c1) W:=by intro W;first | kernel_rfl | (go_simp;rfl)
         have hix1 : ∀ W : World,(Instr.index 154 (.agg #[.slice A1 3 c1,.slice A2 7 c2,.slice A3 2 c3]) (.int .i64 1)).run Tryz.prog W = .ok (.slice A2 7 c2) W:=by intro W;first | kernel_rfl | (go_simp;rfl)
         have hix2 : ∀ W : World,(Instr.index 154 (.agg #[.slice A1 3 c1,.slice A2 7 c2,.slice A3 2 c3]) (.int .i64 2)).run Tryz.prog W = .ok (.slice A3 2 c3) W:=by intro W;first | kernel_rfl | (go_simp;rfl)
         ·obtain rfl | rfl | rfl : kk = 0 ∨ kk = 1 ∨ kk = 2:=by omega
          ·cases q0 with
           | true =>
            obtain rfl : 3 = r:=by simpa using H.out
            go_wp2_with (first | ((with_reducible refine gD_ 8 rfl ?_);refine bx_ #[.bool false] 4 ?_;intro g8 hg w8_ hbox hb;have n0_:=Z_ (bB_ BW2.out hb);have n1_:=Z_ (bB_ BW3.out hb);have n2_:=Z_ (lP_ HL.out hb);have n3_:=Z_ hbox;have S8:=Z_ ((by rw [hg];exact (below_size HL.out) : w6_.heap.size ≤ g8));have N82:=Z_ ((by rw [hg];exact Nat.ne_of_lt (blk_lt BW2.out) : g2 ≠ g8));have N83:=Z_ ((by rw [hg];exact Nat.ne_of_lt (blk_lt BW3.out) : g3 ≠ g8));clear c2_ BW2 BW3 HL hbox hb hg;have BW2:=n0_;have BW3:=n1_;have HL:=n2_;have B8:=n3_;clear n0_ n1_ n2_ n3_;obtain ⟨_,_,_,_,_,_,_,_,_,_,_,_,_,_,_,_,_,_,_,_,_,_,_,_,_,_,_,_,_,_,_,_,_,_,_,_,_,_,_,_⟩:=bc20 BW3.out;have c8_ : w8_.cell? ⟨g8,0,none⟩ = some (.bool false):=(blk_cell B8.out 0).trans rfl;have z8_:=blk_frozen B8.out 0;have m82:=N82.out;have m83:=N83.out;have m28:=N82.out.symm;have m38:=N83.out.symm) | (go_at_call 98;refine (slices_ContainsFunc_int64_int64.calls 113 #[.pointer (some ⟨g8,0,none⟩),.pointer (some ⟨g2,0,none⟩)] (tkP l0 (decide (x2 > 0))) A1 c1 [x5,x7,x9] _ (enters_of Tryz.func113 (by kernel_rfl) rfl) (fun W x _ hB => (impl_TalkFault_1.calls A0 l0.length c0 g8 g2 (decide (x2 > 0)) x HN0.out W ((hB.cell (p:=⟨g8,0,none⟩) (blk_lt (blk_put (cs':=#[.bool (decide (x2 > 0))]) B8.out 0 (.bool (decide (x2 > 0))) rfl))).trans ((blk_cell (blk_put (cs':=#[.bool (decide (x2 > 0))]) B8.out 0 (.bool (decide (x2 > 0))) rfl) 0).trans rfl)) ((hB.cell (p:=⟨g2,0,none⟩) (blk_lt (bF_ BW2.out N82.out _))).trans ((blk_cell (bF_ BW2.out N82.out _) 0).trans rfl))).mono (fun _ _ h => ⟨h.1,below_step hB h.2⟩)) (Kd.C_below C1.out (lS1_ HL.out S8.out)) (by simp)).mono ?_;rintro e w9 ⟨he,hb⟩;rw [show ([x5,x7,x9] : List Int).any (tkP l0 (decide (x2 > 0))) = true from HQ0.out] at he;subst he;replace HL:=Z_ (below_step (lS1_ HL.out S8.out) hb);clear hb))
            go_ret
            exact ⟨rfl,lP_ HB.out HL.out⟩
           | false =>
            go_wp2_with (first | ((with_reducible refine gD_ 8 rfl ?_);refine bx_ #[.bool false] 4 ?_;intro g8 hg w8_ hbox hb;have n0_:=Z_ (bB_ BW2.out hb);have n1_:=Z_ (bB_ BW3.out hb);have n2_:=Z_ (lP_ HL.out hb);have n3_:=Z_ hbox;have S8:=Z_ ((by rw [hg];exact (below_size HL.out) : w6_.heap.size ≤ g8));have N82:=Z_ ((by rw [hg];exact Nat.ne_of_lt (blk_lt BW2.out) : g2 ≠ g8));have N83:=Z_ ((by rw [hg];exact Nat.ne_of_lt (blk_lt BW3.out) : g3 ≠ g8));clear c2_ BW2 BW3 HL hbox hb hg;have BW2:=n0_;have BW3:=n1_;have HL:=n2_;have B8:=n3_;clear n0_ n1_ n2_ n3_;obtain ⟨_,_,_,_,_,_,_,_,_,_,_,_,_,_,_,_,_,_,_,_,_,_,_,_,_,_,_,_,_,_,_,_,_,_,_,_,_,_,_,_⟩:=bc20 BW3.out;have c8_ : w8_.cell? ⟨g8,0,none⟩ = some (.bool false):=(blk_cell B8.out 0).trans rfl;have z8_:=blk_frozen B8.out 0;have m82:=N82.out;have m83:=N83.out;have m28:=N82.out.symm;have m38:=N83.out.symm) | (go_at_call 98;refine (slices_ContainsFunc_int64_int64.calls 113 #[.pointer (some ⟨g8,0,none⟩),.pointer (some ⟨g2,0,none⟩)] (tkP l0 (decide (x2 > 0))) A1 c1 [x5,x7,x9] _ (enters_of Tryz.func113 (by kernel_rfl) rfl) (fun W x _ hB => (impl_TalkFault_1.calls A0 l0.length c0 g8 g2 (decide (x2 > 0)) x HN0.out W ((hB.cell (p:=⟨g8,0,none⟩) (blk_lt (blk_put (cs':=#[.bool (decide (x2 > 0))]) B8.out 0 (.bool (decide (x2 > 0))) rfl))).trans ((blk_cell (blk_put (cs':=#[.bool (decide (x2 > 0))]) B8.out 0 (.bool (decide (x2 > 0))) rfl) 0).trans rfl)) ((hB.cell (p:=⟨g2,0,none⟩) (blk_lt (bF_ BW2.out N82.out _))).trans ((blk_cell (bF_ BW2.out N82.out _) 0).trans rfl))).mono (fun _ _ h => ⟨h.1,below_step hB h.2⟩)) (Kd.C_below C1.out (lS1_ HL.out S8.out)) (by simp)).mono ?_;rintro e w9 ⟨he,hb⟩;rw [show ([x5,x7,x9] : List Int).any (tkP l0 (decide (x2 > 0))) = false from HQ0.out] at he;subst he;replace HL:=Z_ (below_step (lS1_ HL.out S8.out) hb);clear hb))
            go_roundg (3 - (0 + 1))
            case measure => omega
            case rel =>
             refine ⟨1,by omega,by omega,by first | rfl | simp,⟨fun j hj => ?_⟩,⟨HL.out⟩⟩
             rcases (show j < 0 ∨ j = 0 by omega) with hj2 | rfl
             ·exact HP.out j hj2
             ·rfl
          ·cases q1 with
           | true =>
            obtain rfl : 3 = r:=by simpa using H.out
            go_wp2_with (first | ((with_reducible refine gD_ 8 rfl ?_);refine bx_ #[.bool false] 4 ?_;intro g8 hg w8_ hbox hb;have n0_:=Z_ (bB_ BW2.out hb);have n1_:=Z_ (bB_ BW3.out hb);have n2_:=Z_ (lP_ HL.out hb);have n3_:=Z_ hbox;have S8:=Z_ ((by rw [hg];exact (below_size HL.out) : w6_.heap.size ≤ g8));have N82:=Z_ ((by rw [hg];exact Nat.ne_of_lt (blk_lt BW2.out) : g2 ≠ g8));have N83:=Z_ ((by rw [hg];exact Nat.ne_of_lt (blk_lt BW3.out) : g3 ≠ g8));clear c2_ BW2 BW3 HL hbox hb hg;have BW2:=n0_;have BW3:=n1_;have HL:=n2_;have B8:=n3_;clear n0_ n1_ n2_ n3_;obtain ⟨_,_,_,_,_,_,_,_,_,_,_,_,_,_,_,_,_,_,_,_,_,_,_,_,_,_,_,_,_,_,_,_,_,_,_,_,_,_,_,_⟩:=bc20 BW3.out;have c8_ : w8_.cell? ⟨g8,0,none⟩ = some (.bool false):=(blk_cell B8.out 0).trans rfl;have z8_:=blk_frozen B8.out 0;have m82:=N82.out;have m83:=N83.out;have m28:=N82.out.symm;have m38:=N83.out.symm) | (go_at_call 98;refine (slices_ContainsFunc_int64_int64.calls 113 #[.pointer (some ⟨g8,0,none⟩),.pointer (some ⟨g2,0,none⟩)] (tkP l0 (decide (x2 > 1))) A2 c2 [x6,x8,x10,x11,x12,x13,x14] _ (enters_of Tryz.func113 (by kernel_rfl) rfl) (fun W x _ hB => (impl_TalkFault_1.calls A0 l0.length c0 g8 g2 (decide (x2 > 1)) x HN0.out W ((hB.cell (p:=⟨g8,0,none⟩) (blk_lt (blk_put (cs':=#[.bool (decide (x2 > 1))]) B8.out 0 (.bool (decide (x2 > 1))) rfl))).trans ((blk_cell (blk_put (cs':=#[.bool (decide (x2 > 1))]) B8.out 0 (.bool (decide (x2 > 1))) rfl) 0).trans rfl)) ((hB.cell (p:=⟨g2,0,none⟩) (blk_lt (bF_ BW2.out N82.out _))).trans ((blk_cell (bF_ BW2.out N82.out _) 0).trans rfl))).mono (fun _ _ h => ⟨h.1,below_step hB h.2⟩)) (Kd.C_below C2.out (lS1_ HL.out S8.out)) (by simp)).mono ?_;rintro e w9 ⟨he,hb⟩;rw [show ([x6,x8,x10,x11,x12,x13,x14] : List Int).any (tkP l0 (decide (x2 > 1))) = true from HQ1.out] at he;subst he;replace HL:=Z_ (below_step (lS1_ HL.out S8.out) hb);clear hb))
            go_ret
            exact ⟨rfl,lP_ HB.out HL.out⟩
           | false =>
            go_wp2_with (first | ((with_reducible refine gD_ 8 rfl ?_);refine bx_ #[.bool false] 4 ?_;intro g8 hg w8_ hbox hb;have n0_:=Z_ (bB_ BW2.out hb);have n1_:=Z_ (bB_ BW3.out hb);have n2_:=Z_ (lP_ HL.out hb);have n3_:=Z_ hbox;have S8:=Z_ ((by rw [hg];exact (below_size HL.out) : w6_.heap.size ≤ g8));have N82:=Z_ ((by rw [hg];exact Nat.ne_of_lt (blk_lt BW2.out) : g2 ≠ g8));have N83:=Z_ ((by rw [hg];exact Nat.ne_of_lt (blk_lt BW3.out) : g3 ≠ g8));clear c2_ BW2 BW3 HL hbox hb hg;have BW2:=n0_;have BW3:=n1_;have HL:=n2_;have B8:=n3_;clear n0_ n1_ n2_ n3_;obtain ⟨_,_,_,_,_,_,_,_,_,_,_,_,_,_,_,_,_,_,_,_,_,_,_,_,_,_,_,_,_,_,_,_,_,_,_,_,_,_,_,_⟩:=bc20 BW3.out;have c8_ : w8_.cell? ⟨g8,0,none⟩ = some (.bool false):=(blk_cell B8.out 0).trans rfl;have z8_:=blk_frozen B8.out 0;have m82:=N82.out;have m83:=N83.out;have m28:=N82.out.symm;have m38:=N83.out.symm) | (go_at_call 98;refine (slices_ContainsFunc_int64_int64.calls 113 #[.pointer (some ⟨g8,0,none⟩),.pointer (some ⟨g2,0,none⟩)] (tkP l0 (decide (x2 > 1))) A2 c2 [x6,x8,x10,x11,x12,x13,x14] _ (enters_of Tryz.func113 (by kernel_rfl) rfl) (fun W x _ hB => (impl_TalkFault_1.calls A0 l0.length c0 g8 g2 (decide (x2 > 1)) x HN0.out W ((hB.cell (p:=⟨g8,0,none⟩) (blk_lt (blk_put (cs':=#[.bool (decide (x2 > 1))]) B8.out 0 (.bool (decide (x2 > 1))) rfl))).trans ((blk_cell (blk_put (cs':=#[.bool (decide (x2 > 1))]) B8.out 0 (.bool (decide (x2 > 1))) rfl) 0).trans rfl)) ((hB.cell (p:=⟨g2,0,none⟩) (blk_lt (bF_ BW2.out N82.out _))).trans ((blk_cell (bF_ BW2.out N82.out _) 0).trans rfl))).mono (fun _ _ h => ⟨h.1,below_step hB h.2⟩)) (Kd.C_below C2.out (lS1_ HL.out S8.out)) (by simp)).mono ?_;rintro e w9 ⟨he,hb⟩;rw [show ([x6,x8,x10,x11,x12,x13,x14] : List Int).any (tkP l0 (decide (x2 > 1))) = false from HQ1.out] at he;subst he;replace HL:=Z_ (below_step (lS1_ HL.out S8.out) hb);clear hb))
            go_roundg (3 - (1 + 1))
            case measure => omega
            case rel =>
             refine ⟨2,by omega,by omega,by first | rfl | simp,⟨fun j hj => ?_⟩,⟨HL.out⟩⟩
             rcases (show j < 1 ∨ j = 1 by omega) with hj2 | rfl
             ·exact HP.out j hj2
             ·rfl
          ·cases q2 with
           | true =>
            obtain rfl : 3 = r:=by simpa using H.out
            go_wp2_with (first | ((with_reducible refine gD_ 8 rfl ?_);refine bx_ #[.bool false] 4 ?_;intro g8 hg w8_ hbox hb;have n0_:=Z_ (bB_ BW2.out hb);have n1_:=Z_ (bB_ BW3.out hb);have n2_:=Z_ (lP_ HL.out hb);have n3_:=Z_ hbox;have S8:=Z_ ((by rw [hg];exact (below_size HL.out) : w6_.heap.size ≤ g8));have N82:=Z_ ((by rw [hg];exact Nat.ne_of_lt (blk_lt BW2.out) : g2 ≠ g8));have N83:=Z_ ((by rw [hg];exact Nat.ne_of_lt (blk_lt BW3.out) : g3 ≠ g8));clear c2_ BW2 BW3 HL hbox hb hg;have BW2:=n0_;have BW3:=n1_;have HL:=n2_;have B8:=n3_;clear n0_ n1_ n2_ n3_;obtain ⟨_,_,_,_,_,_,_,_,_,_,_,_,_,_,_,_,_,_,_,_,_,_,_,_,_,_,_,_,_,_,_,_,_,_,_,_,_,_,_,_⟩:=bc20 BW3.out;have c8_ : w8_.cell? ⟨g8,0,none⟩ = some (.bool false):=(blk_cell B8.out 0).trans rfl;have z8_:=blk_frozen B8.out 0;have m82:=N82.out;have m83:=N83.out;have m28:=N82.out.symm;have m38:=N83.out.symm) | (go_at_call 98;refine (slices_ContainsFunc_int64_int64.calls 113 #[.pointer (some ⟨g8,0,none⟩),.pointer (some ⟨g2,0,none⟩)] (tkP l0 (decide (x2 > 2))) A3 c3 [x15,x16] _ (enters_of Tryz.func113 (by kernel_rfl) rfl) (fun W x _ hB => (impl_TalkFault_1.calls A0 l0.length c0 g8 g2 (decide (x2 > 2)) x HN0.out W ((hB.cell (p:=⟨g8,0,none⟩) (blk_lt (blk_put (cs':=#[.bool (decide (x2 > 2))]) B8.out 0 (.bool (decide (x2 > 2))) rfl))).trans ((blk_cell (blk_put (cs':=#[.bool (decide (x2 > 2))]) B8.out 0 (.bool (decide (x2 > 2))) rfl) 0).trans rfl)) ((hB.cell (p:=⟨g2,0,none⟩) (blk_lt (bF_ BW2.out N82.out _))).trans ((blk_cell (bF_ BW2.out N82.out _) 0).trans rfl))).mono (fun _ _ h => ⟨h.1,below_step hB h.2⟩)) (Kd.C_below C3.out (lS1_ HL.out S8.out)) (by simp)).mono ?_;rintro e w9 ⟨he,hb⟩;rw [show ([x15,x16] : List Int).any (tkP l0 (decide (x2 > 2))) = true from HQ2.out] at he;subst he;replace HL:=Z_ (below_step (lS1_ HL.out S8.out) hb);clear hb))
            go_ret
            exact ⟨rfl,lP_ HB.out HL.out⟩
           | false =>
            go_wp2_with (first | ((with_reducible refine gD_ 8 rfl ?_);refine bx_ #[.bool false] 4 ?_;intro g8 hg w8_ hbox hb;have n0_:=Z_ (bB_ BW2.out hb);have n1_:=Z_ (bB_ BW3.out hb);have n2_:=Z_ (lP_ HL.out hb);have n3_:=Z_ hbox;have S8:=Z_ ((by rw [hg];exact (below_size HL.out) : w6_.heap.size ≤ g8));have N82:=Z_ ((by rw [hg];exact Nat.ne_of_lt (blk_lt BW2.out) : g2 ≠ g8));have N83:=Z_ ((by rw [hg];exact Nat.ne_of_lt (blk_lt BW3.out) : g3 ≠ g8));clear c2_ BW2 BW3 HL hbox hb hg;have BW2:=n0_;have BW3:=n1_;have HL:=n2_;have B8:=n3_;clear n0_ n1_ n2_ n3_;obtain ⟨_,_,_,_,_,_,_,_,_,_,_,_,_,_,_,_,_,_,_,_,_,_,_,_,_,_,_,_,_,_,_,_,_,_,_,_,_,_,_,_⟩:=bc20 BW3.out;have c8_ : w8_.cell? ⟨g8,0,none⟩ = some (.bool false):=(blk_cell B8.out 0).trans rfl;have z8_:=blk_frozen B8.out 0;have m82:=N82.out;have m83:=N83.out;have m28:=N82.out.symm;have m38:=N83.out.symm) | (go_at_call 98;refine (slices_ContainsFunc_int64_int64.calls 113 #[.pointer (some ⟨g8,0,none⟩),.pointer (some ⟨g2,0,none⟩)] (tkP l0 (decide (x2 > 2))) A3 c3 [x15,x16] _ (enters_of Tryz.func113 (by kernel_rfl) rfl) (fun W x _ hB => (impl_TalkFault_1.calls A0 l0.length c0 g8 g2 (decide (x2 > 2)) x HN0.out W ((hB.cell (p:=⟨g8,0,none⟩) (blk_lt (blk_put (cs':=#[.bool (decide (x2 > 2))]) B8.out 0 (.bool (decide (x2 > 2))) rfl))).trans ((blk_cell (blk_put (cs':=#[.bool (decide (x2 > 2))]) B8.out 0 (.bool (decide (x2 > 2))) rfl) 0).trans rfl)) ((hB.cell (p:=⟨g2,0,none⟩) (blk_lt (bF_ BW2.out N82.out _))).trans ((blk_cell (bF_ BW2.out N82.out _) 0).trans rfl))).mono (fun _ _ h => ⟨h.1,below_step hB h.2⟩)) (Kd.C_below C3.out (lS1_ HL.out S8.out)) (by simp)).mono ?_;rintro e w9 ⟨he,hb⟩;rw [show ([x15,x16] : List Int).any (tkP l0 (decide (x2 > 2))) = false from HQ2.out] at he;subst he;replace HL:=Z_ (below_step (lS1_ HL.out S8.out) hb);clear hb))
            go_roundg (3 - (2 + 1))
            case measure => omega
            case rel =>
             refine ⟨3,by omega,by omega,by first | rfl | simp,⟨fun j hj => ?_⟩,⟨HL.out⟩⟩
             rcases (show j < 2 ∨ j = 2 by omega) with hj2 | rfl
             ·exact HP.out j hj2
             ·rfl
         ·obtain rfl : kk = 3:=by omega
          obtain rfl : q0 = false:=HP.out 0 (by omega)
          obtain rfl : q1 = false:=HP.out 1 (by omega)
          obtain rfl : q2 = false:=HP.out 2 (by omega)
          have h:=H.out
          clear H
          rw [if_neg (by decide)] at h
          have hpx7 : 0 ≤ x7 ∧ x7 < (l0.length : Int):=by
            have h1:=HQ0.out
            have h2:=HS2.out
            unfold tkAny at h1
            rw [decide_eq_true (show x2 > 0 by omega)] at h1
            simp only [List.any_cons,List.any_nil,tkP,notIn,if_true,Bool.or_eq_false_iff,Bool.not_eq_false',decide_eq_true_eq] at h1
            omega
          obtain ⟨ad7,e7,a70,a71,a72,a73⟩:=at_T83 HR0.out x7 hpx7.1 hpx7.2
          cases e7
          replace a70:=(HBW.out.cell (World.block_lt_of_cell? w _ a70)).trans a70
          replace a71:=(HBW.out.cell (World.block_lt_of_cell? w _ a71)).trans a71
          replace a72:=(HBW.out.cell (World.block_lt_of_cell? w _ a72)).trans a72
          replace a73:=(HBW.out.cell (World.block_lt_of_cell? w _ a73)).trans a73
          have p7:=eq_true hpx7.1
          have r7:=eq_true hpx7.2
          have s2:=HS2.out
          by_cases f7 : (rd_T83 l0 x7).f0 = 2
          rotate_left
          ·rw [if_neg f7] at h
           have u1 : ((rd_T83 l0 x7).f0 == 2) = false:=by simpa using f7
           have u2 : ((rd_T83 l0 x7).f0 != 2) = true:=by simpa using f7
           obtain rfl:=Option.some.inj h
           go_wp2
           go_ret
           exact ⟨rfl,HBW.out⟩
          rw [if_pos f7] at h
          have u1 : ((rd_T83 l0 x7).f0 == 2) = true:=by simpa using f7
          have u2 : ((rd_T83 l0 x7).f0 != 2) = false:=by simpa using f7
          by_cases g2_ : 2 ≤ x2
          rotate_left
          ·rw [if_neg g2_] at h
           have u3 : decide (2 ≤ x2) = false:=decide_eq_false g2_
           have u4 : decide (x2 ≥ 2) = false:=decide_eq_false g2_
           have u5:=eq_false g2_
           obtain rfl:=Option.some.inj h
           go_wp2
           go_ret
           exact ⟨rfl,HBW.out⟩
          rw [if_pos g2_] at h
          have u3 : decide (2 ≤ x2) = true:=decide_eq_true g2_
          have u4 : decide (x2 ≥ 2) = true:=decide_eq_true g2_
          have u5:=eq_true g2_
          have hpx8 : 0 ≤ x8 ∧ x8 < (l0.length : Int):=by
            have h1:=HQ1.out
            have h2:=HS2.out
            unfold tkAny at h1
            rw [decide_eq_true (show x2 > 1 by omega)] at h1
            simp only [List.any_cons,List.any_nil,tkP,notIn,if_true,Bool.or_eq_false_iff,Bool.not_eq_false',decide_eq_true_eq] at h1
            omega
          obtain ⟨ad8,e8,a80,a81,a82,a83⟩:=at_T83 HR0.out x8 hpx8.1 hpx8.2
          cases e8
          replace a80:=(HBW.out.cell (World.block_lt_of_cell? w _ a80)).trans a80
          replace a81:=(HBW.out.cell (World.block_lt_of_cell? w _ a81)).trans a81
          replace a82:=(HBW.out.cell (World.block_lt_of_cell? w _ a82)).trans a82
          replace a83:=(HBW.out.cell (World.block_lt_of_cell? w _ a83)).trans a83
          have p8:=eq_true hpx8.1
          have r8:=eq_true hpx8.2
          by_cases f8 : (rd_T83 l0 x8).f0 = 6
          ·rw [if_pos f8] at h
           have u6 : ((rd_T83 l0 x8).f0 == 6) = true:=by simpa using f8
           have u7 : ((rd_T83 l0 x8).f0 != 6) = false:=by simpa using f8
           obtain rfl:=Option.some.inj h
           go_wp2
           go_ret
           exact ⟨rfl,HBW.out⟩
          ·rw [if_neg f8] at h
           have u6 : ((rd_T83 l0 x8).f0 == 6) = false:=by simpa using f8
           have u7 : ((rd_T83 l0 x8).f0 != 6) = true:=by simpa using f8
           obtain rfl:=Option.some.inj h
           go_wp2
           go_ret
           exact ⟨rfl,HBW.out⟩
end
end Go.Proofs.YtcafikgabidphaaGreat.G
namespace Go.Proofs.YtcafikgabidphaaGreat.G
open Go.RowKit Go.Proofs.YtcafikgabidphaaGreatW.PrintWords Go.Proofs.YtcafikgabidphaaGreatW.PrintLast Go.Proofs.YtcafikgabidphaaGreatW.PrintMore
attribute [local go_sem] max2_int min2_int max_two min_two max_three min_three max_four min_four   -- for this text's walks alone
set_option linter.unusedVariables false
set_option linter.unusedSimpArgs false
def impl_isId.f (a0 : Int) : Option (Bool):=(impl_in.f a0 1 9).bind fun t360 => (some t360)
set_option maxHeartbeats 8000000 in
set_option maxRecDepth 100000 in
theorem impl_isId.calls (a0 : Int) (r : Bool) (w : World) (h : impl_isId.f a0 = some r) :
  Calls Tryz.prog 102 #[.int .i64 a0] w fun e w' => e = .returned (.bool r) ∧ Drawn0 w w':=by
 unfold impl_isId.f at h
 have H:=h
 clear h
 replace H:=bS_ H
 obtain ⟨t360,A2,H⟩:=H
 obtain rfl:=Option.some.inj H
 go_enter Tryz.func102,Tryz.ntmps102
 go_wp2_with (first | ((with_reducible refine gate_callee (f:=61) rfl ?_);refine goesA_ (some 4) rfl rfl Tryz.func61 (by kernel_rfl) rfl #[.int .i64 a0,.int .i64 1,.int .i64 9] rfl ?_;(with_reducible refine (impl_in.calls a0 1 9 t360 _ A2.out).mono ?_);rintro e w' ⟨rfl,⟨nd,rfl⟩⟩;refine ⟨_,rfl,?_⟩))
 go_ret
 exact ⟨by first | rfl | (simp;done) | (simp [*];done),by repeat (first | exact Drawn0.refl _ | apply Drawn0.step)⟩
mutual
def impl_GateFault.j0 : Nat → List (S83) → Bool → Int → Int → List (S114) → Option (Int)
 | 0,_,_,_,_,_ => none
 | k + 1,x0,x14,x381000,x381001,x381002 => if x14 = true then (some 3) else (if (x381002.length : Int) > 12 then (some 2) else (impl_GateFault.l0 k x0 x381002 (x381002.length : Int) 0))
def impl_GateFault.l0 : Nat → List (S83) → List (S114) → Int → Int → Option (Int)
 | 0,_,_,_,_ => none
 | k + 1,x0,x31,x32,x33 => if x33 < x32 then (if 0 ≤ x33 then (if x33 < (x31.length : Int) then ((impl_TalkFault.f k x0 ((rd_T114 x31 x33).f0) ((rd_T114 x31 x33).f1) ((rd_T114 x31 x33).f2) ((rd_T114 x31 x33).f3) ((rd_T114 x31 x33).f4) ((rd_T114 x31 x33).f5) ((rd_T114 x31 x33).f6) ((rd_T114 x31 x33).f7) ((rd_T114 x31 x33).f8) ((rd_T114 x31 x33).f9) ((rd_T114 x31 x33).f10) ((rd_T114 x31 x33).f11.f0) ((rd_T114 x31 x33).f11.f1) ((rd_T114 x31 x33).f11.f2) ((rd_T114 x31 x33).f11.f3) ((rd_T114 x31 x33).f12) ((rd_T114 x31 x33).f13) ((rd_T114 x31 x33).f14) ((rd_T114 x31 x33).f15.f0) ((rd_T114 x31 x33).f15.f1)).bind fun t386 => (if t386 = 0 then (impl_GateFault.l0 k x0 x31 x32 (wrap64 (x33 + 1))) else (some t386))) else (none)) else (none)) else (some 0)
end
def impl_GateFault.f (k : Nat) (l0 : List (S83)) (a1_0 a1_1 : Int) (l1_2 : List (S114)) : Option (Int):=(impl_TermsFault.f l0).bind fun t381 => (if t381 = 0 then ((impl_isId.f a1_0).bind fun t382 => (if t382 = true then ((impl_in.f a1_1 0 90).bind fun t383 => (impl_GateFault.j0 k l0 (!t383) a1_0 a1_1 l1_2)) else (impl_GateFault.j0 k l0 true a1_0 a1_1 l1_2))) else (some t381))
set_option maxHeartbeats 8000000 in
set_option maxRecDepth 100000 in
theorem impl_GateFault.calls (k : Nat) (A0 : Option Addr) (c0 : Nat) (l0 : List (S83)) (a1_0 a1_1 : Int) (A1_2 : Option Addr) (c1_2 : Nat) (l1_2 : List (S114)) (r : Int) (w : World) (hr0 : Kd.C k83 w A0 l0.length l0) (hc0 : l0.length ≤ c0) (hr1_2 : Kd.C k114 w A1_2 l1_2.length l1_2) (hc1_2 : l1_2.length ≤ c1_2) (h : impl_GateFault.f k l0 a1_0 a1_1 l1_2 = some r) :
  Calls Tryz.prog 82 #[.slice A0 l0.length c0,.agg #[.int .i64 a1_0,.int .i64 a1_1,.slice A1_2 l1_2.length c1_2]] w fun e w' => e = .returned (.int .i64 r) ∧ Below w.heap.size w w':=by
 have hu76:=Tryz.underlying76
 have hu114:=Tryz.underlying114
 have a8:=Z_ hr0
 have a9:=Z_ hc0
 clear hr0 hc0
 have HR1_2:=Z_ hr1_2
 have HC1_2:=Z_ hc1_2
 clear hr1_2 hc1_2
 have HB:=Z_ (Below.refl w.heap.size w)
 unfold impl_GateFault.f at h
 have H:=h
 clear h
 replace H:=bS_ H
 obtain ⟨t381,A3,H⟩:=H
 replace H:=iC_ H
 obtain ⟨c4,H⟩ | ⟨c4,H⟩:=H
 rotate_left
 ·have c4b0 : (t381 == 0) = false:=beq_eq_false_iff_ne.mpr c4
  have c4b1 : (t381 != 0) = true:=bne_iff_ne.mpr c4
  obtain rfl:=Option.some.inj H
  go_enter Tryz.func82,Tryz.ntmps82
  go_wp2_with (first | ((with_reducible refine gate_load_ (t:=114) rfl ?_);refine load_row_ (by rfl) (by rfl) (by rfl) hL384 Tryz.underlying114 rfl size114_ ?_) | ((with_reducible refine gD_ 3 rfl ?_);refine bx_ #[.int .i64 a1_0,.int .i64 a1_1,.slice A1_2 l1_2.length c1_2] 76 ?_;intro a2 hg w30 hbox hb;have a1:=Z_ ((by rw [hg];exact (below_size Lb_) : w.heap.size ≤ a2));replace HB:=Z_ (lP_ Lb_ hb);clear hb hbox hg) | ((with_reducible refine gate_callee (f:=53) rfl ?_);refine goesA_ (some 10) rfl rfl Tryz.func53 (by kernel_rfl) rfl #[.slice A0 l0.length c0] rfl ?_;(with_reducible refine (impl_TermsFault.calls _ _ l0 t381 _ ?side1 ?side2 A3.out).mono ?_);(case side1 => exact Cb_ a8);(case side2 => exact a9.out);rintro e w31 ⟨rfl,hb⟩;refine ⟨_,rfl,?_⟩;replace HB:=Z_ (lP_ Lb_ hb);(try clear hb)))
  go_ret
  exact ⟨Er_,Lb_⟩
 rotate_right
 have c4b0 : (t381 == 0) = true:=beq_iff_eq.mpr c4
 have c4b1 : (t381 != 0) = false:=bne_eq_false_iff_eq.mpr c4
 clear c4
 have aa:=Z_ H
 clear H
 go_enter Tryz.func82,Tryz.ntmps82
 go_upto_region 4 with (first | ((with_reducible refine gD_ 3 rfl ?_);refine bx_ #[.int .i64 a1_0,.int .i64 a1_1,.slice A1_2 l1_2.length c1_2] 76 ?_;intro a2 hg w6 hbox hb;have a0:=Z_ hbox;have ah:=Z_ ((by rw [hg];exact (below_size Lb_) : w.heap.size ≤ a2));have a1:=Z_ ((by rw [hg];exact (below_size Lb_) : w.heap.size ≤ a2));replace HB:=Z_ (lP_ Lb_ hb);clear hb hbox hg) | ((with_reducible refine gate_callee (f:=53) rfl ?_);refine goesA_ (some 10) rfl rfl Tryz.func53 (by kernel_rfl) rfl #[.slice A0 l0.length c0] rfl ?_;(with_reducible refine (impl_TermsFault.calls _ _ l0 t381 _ ?side1 ?side2 A3.out).mono ?_);(case side1 => exact Cb_ a8);(case side2 => exact a9.out);rintro e w7 ⟨rfl,hb⟩;refine ⟨_,rfl,?_⟩;replace a0:=Z_ (bB_ (g:=a2) (o:=.cells #[.int .i64 a1_0,.int .i64 a1_1,.slice A1_2 l1_2.length c1_2] 76 (0,0)) (Bk_ a0) hb);replace HB:=Z_ (lP_ Lb_ hb);(try clear hb)))
 (try simp only [Act.put,lA_,lZ_,lS_])
 go_cut [14] (fun v14 wc => ∃ (kq : Nat) (x14_4 : Bool),v14 = .bool x14_4 ∧ Aside0 (impl_GateFault.j0 kq l0 x14_4 a1_0 a1_1 l1_2 = some r) ∧ Aside0 (kq ≤ k) ∧ Aside0 (wc.heap[a2]? = some (.cells #[.int .i64 a1_0,.int .i64 a1_1,(.slice A1_2 l1_2.length c1_2)] 76 (0,0))) ∧ Aside0 (Below w.heap.size w wc))
 case first =>
  have H:=aa.out
  clear aa
  replace H:=bS_ H
  obtain ⟨t382,A8,H⟩:=H
  replace H:=iB_ H
  obtain ⟨rfl,H⟩ | ⟨rfl,H⟩:=H
  replace H:=bS_ H
  obtain ⟨t383,ag,H⟩:=H
  all_goals
   have H':=Z_ H
   clear H
   obtain ⟨_,_,_,_,_,_⟩:=bc3 a0.out
   go_wp2_with (first | ((with_reducible refine gate_callee (f:=102) rfl ?_);refine goesA_ (some 17) rfl rfl Tryz.func102 (by kernel_rfl) rfl #[.int .i64 a1_0] rfl ?_;(with_reducible refine (impl_isId.calls a1_0 _ _ A8.out).mono ?_);rintro e w' ⟨rfl,⟨nd,rfl⟩⟩;refine ⟨_,rfl,?_⟩) | (go_at_call 61;(with_reducible refine (impl_in.calls a1_1 0 90 t383 _ ag.out).mono ?_);rintro e w' ⟨rfl,⟨nd,rfl⟩⟩))
   go_meet
   case rel => exact ⟨_,_,Sr_,H',Ol_,⟨Bk_ a0⟩,⟨Lb_⟩⟩
 case rest =>
  clear aa
  try clear c1
  try clear p2
  try clear c4
  try clear c4b0
  try clear c4b1
  try clear c5
  try clear c8
  try clear c9
  try clear c10
  obtain ⟨kq,x14_4,rfl,HA,HJ4,a0,HB⟩:=hcut
  cases kq with
  | zero => exact absurd HA.out (by simp [impl_GateFault.j0])
  | succ kj4 =>
   have H:=HA.out
   clear HA
   simp only [impl_GateFault.j0] at H
   replace H:=iB_ H
   obtain ⟨rfl,H⟩ | ⟨rfl,H⟩:=H
   rotate_left
   replace H:=iC_ H
   obtain ⟨c14,H⟩ | ⟨c14,H⟩:=H
   focus
    have c14b0 : decide (12 < (l1_2.length : Int)) = true:=decide_eq_true c14
    have c14b1 : decide (12 < l1_2.length) = true:=decide_eq_true (by omega)
    clear c14
   rotate_left
   ·have c14b0 : decide (12 < (l1_2.length : Int)) = false:=decide_eq_false c14
    have c14b1 : decide (12 < l1_2.length) = false:=decide_eq_false (by omega)
    clear c14
    have H':=Z_ H
    clear H
    obtain ⟨_,_,_,_,_,_⟩:=bc3 a0.out
    go_wp2
    go_loopg [33] kj4 (fun kq v33 w' => ∃ (x33_2 : Int),v33 = .int .i64 x33_2 ∧ Aside0 (impl_GateFault.l0 kq l0 l1_2 (l1_2.length : Int) x33_2 = some r) ∧ Aside0 (kq ≤ kj4) ∧ Aside0 (w'.heap[a2]? = some (.cells #[.int .i64 a1_0,.int .i64 a1_1,(.slice A1_2 l1_2.length c1_2)] 76 (0,0))) ∧ Aside0 (Below w.heap.size w w'))
    case atStart => exact ⟨(0),Sr_,H',⟨Nat.le_refl _⟩,⟨Bk_ a0⟩,⟨Lb_⟩⟩
    case round =>
     clear H'
     try clear c1
     try clear p2
     try clear c4
     try clear c4b0
     try clear c4b1
     try clear c5
     try clear c8
     try clear c9
     try clear c10
     try clear c13
     try clear c14
     try clear c14b0
     try clear c14b1
     try clear p2
     obtain ⟨x33_2,rfl,HA,HK2,a0,HB⟩:=hrel
     cases gk with
     | zero => exact absurd HA.out (by simp [impl_GateFault.l0])
     | succ k2 =>
      have H:=HA.out
      clear HA
      simp only [impl_GateFault.l0] at H
      replace H:=iD_ H
      obtain ⟨c17b0,H⟩ | ⟨c17b0,H⟩:=H
      rotate_left
      ·obtain rfl:=Option.some.inj H
       go_wp2
       go_ret
       exact ⟨Er_,Lb_⟩
      rotate_right
      replace H:=iM_ H
      obtain ⟨c18b0,H⟩:=H
      replace H:=iM_ H
      obtain ⟨c19b0,H⟩:=H
      replace H:=bS_ H
      obtain ⟨t386,af,H⟩:=H
      replace H:=iE_ H
      obtain ⟨c21b0,c21b1,H⟩ | ⟨c21b0,c21b1,H⟩:=H
      rotate_left
      ·obtain rfl:=Option.some.inj H
       have p384 : 0 ≤ (x33_2 : Int):=dA_
       have q384 : x33_2 < (l1_2.length : Int):=dA_
       obtain ⟨ad384,e384,hL384⟩:=at_L114 HR1_2.out x33_2 p384 q384
       cases e384
       replace hL384:=RowAt.below (B:=0) hL384 HB.out
       replace p384:=eq_true p384
       replace q384:=eq_true q384
       go_wp2_with (first | ((with_reducible refine gate_load_ (t:=114) rfl ?_);refine load_row_ (by rfl) (by rfl) (by rfl) hL384 Tryz.underlying114 rfl size114_ ?_) | ((with_reducible refine gD_ 7 rfl ?_);refine bx_ #[.int .i64 0,.int .i64 0,.int .i64 0,.int .i64 0,.int .i64 0,.int .i64 0,.int .i64 0,.int .i64 0,.int .i64 0,.int .i64 0,.int .i64 0,.int .i64 0,.int .i64 0,.int .i64 0,.int .i64 0,.int .i64 0,.int .i64 0,.int .i64 0,.int .i64 0,.int .i64 0] 114 ?_;intro a6 hg w26 hbox hb;have a7:=Z_ hbox;have a4:=Z_ ((by rw [hg];exact (below_size Lb_) : w.heap.size ≤ a6));replace HB:=Z_ (lP_ Lb_ hb);have a3:=Z_ ((by rw [hg];exact Nat.ne_of_lt (blk_lt (g:=a2) (o:=.cells #[.int .i64 a1_0,.int .i64 a1_1,.slice (some ad384) l1_2.length c1_2] 76 (0,0)) (Bk_ a0)) : a2 ≠ a6));have a5:=Z_ a3.out.symm;clear hb hbox hg;have ak:=a5.out;have al:=a3.out;obtain ⟨_,_,_,_,_,_,_,_,_,_,_,_,_,_,_,_,_,_,_,_,_,_,_,_,_,_,_,_,_,_,_,_,_,_,_,_,_,_,_,_⟩:=bc20 a7.out) | ((with_reducible refine gate_store (t:=114) rfl ?_);refine store_box_ (by rfl) (by rfl) (by rfl) (by rfl) (by rfl) a7.out (by rfl) size114_ (by rfl) ?_;intro w99_ hst hU;replace HB:=Z_ (lU_ hU HB.out a4.out);replace a7:=Z_ hst;clear hU hst;obtain ⟨_,_,_,_,_,_,_,_,_,_,_,_,_,_,_,_,_,_,_,_,_,_,_,_,_,_,_,_,_,_,_,_,_,_,_,_,_,_,_,_⟩:=bc20 a7.out) | ((with_reducible refine gate_load_ (t:=114) rfl ?_);refine load_row_ (by rfl) (by rfl) (by rfl) (rowAt_block (t:=114) (cs:=[.int .i64 (rd_T114 l1_2 x33_2).f0,.int .i64 (rd_T114 l1_2 x33_2).f1,.int .i64 (rd_T114 l1_2 x33_2).f2,.int .i64 (rd_T114 l1_2 x33_2).f3,.int .i64 (rd_T114 l1_2 x33_2).f4,.int .i64 (rd_T114 l1_2 x33_2).f5,.int .i64 (rd_T114 l1_2 x33_2).f6,.int .i64 (rd_T114 l1_2 x33_2).f7,.int .i64 (rd_T114 l1_2 x33_2).f8,.int .i64 (rd_T114 l1_2 x33_2).f9,.int .i64 (rd_T114 l1_2 x33_2).f10,.int .i64 (rd_T114 l1_2 x33_2).f11.f0,.int .i64 (rd_T114 l1_2 x33_2).f11.f1,.int .i64 (rd_T114 l1_2 x33_2).f11.f2,.int .i64 (rd_T114 l1_2 x33_2).f11.f3,.int .i64 (rd_T114 l1_2 x33_2).f12,.int .i64 (rd_T114 l1_2 x33_2).f13,.int .i64 (rd_T114 l1_2 x33_2).f14,.int .i64 (rd_T114 l1_2 x33_2).f15.f0,.int .i64 (rd_T114 l1_2 x33_2).f15.f1]) (Bk_ a7)) Tryz.underlying114 rfl size114_ ?_) | ((with_reducible refine gate_callee (f:=103) rfl ?_);refine goesA_ (some 39) rfl rfl Tryz.func103 (by kernel_rfl) rfl #[.slice A0 l0.length c0,.agg #[.int .i64 ((rd_T114 l1_2 x33_2).f0),.int .i64 ((rd_T114 l1_2 x33_2).f1),.int .i64 ((rd_T114 l1_2 x33_2).f2),.int .i64 ((rd_T114 l1_2 x33_2).f3),.int .i64 ((rd_T114 l1_2 x33_2).f4),.int .i64 ((rd_T114 l1_2 x33_2).f5),.int .i64 ((rd_T114 l1_2 x33_2).f6),.int .i64 ((rd_T114 l1_2 x33_2).f7),.int .i64 ((rd_T114 l1_2 x33_2).f8),.int .i64 ((rd_T114 l1_2 x33_2).f9),.int .i64 ((rd_T114 l1_2 x33_2).f10),.int .i64 ((rd_T114 l1_2 x33_2).f11.f0),.int .i64 ((rd_T114 l1_2 x33_2).f11.f1),.int .i64 ((rd_T114 l1_2 x33_2).f11.f2),.int .i64 ((rd_T114 l1_2 x33_2).f11.f3),.int .i64 ((rd_T114 l1_2 x33_2).f12),.int .i64 ((rd_T114 l1_2 x33_2).f13),.int .i64 ((rd_T114 l1_2 x33_2).f14),.int .i64 ((rd_T114 l1_2 x33_2).f15.f0),.int .i64 ((rd_T114 l1_2 x33_2).f15.f1)]] rfl ?_;(with_reducible refine (impl_TalkFault.calls k2 _ _ l0 ((rd_T114 l1_2 x33_2).f0) ((rd_T114 l1_2 x33_2).f1) ((rd_T114 l1_2 x33_2).f2) ((rd_T114 l1_2 x33_2).f3) ((rd_T114 l1_2 x33_2).f4) ((rd_T114 l1_2 x33_2).f5) ((rd_T114 l1_2 x33_2).f6) ((rd_T114 l1_2 x33_2).f7) ((rd_T114 l1_2 x33_2).f8) ((rd_T114 l1_2 x33_2).f9) ((rd_T114 l1_2 x33_2).f10) ((rd_T114 l1_2 x33_2).f11.f0) ((rd_T114 l1_2 x33_2).f11.f1) ((rd_T114 l1_2 x33_2).f11.f2) ((rd_T114 l1_2 x33_2).f11.f3) ((rd_T114 l1_2 x33_2).f12) ((rd_T114 l1_2 x33_2).f13) ((rd_T114 l1_2 x33_2).f14) ((rd_T114 l1_2 x33_2).f15.f0) ((rd_T114 l1_2 x33_2).f15.f1) t386 _ ?side1 ?side2 af.out).mono ?_);(case side1 => exact Kd.C_below a8.out Lb_);(case side2 => exact a9.out);rintro e w29 ⟨rfl,hb⟩;refine ⟨_,rfl,?_⟩;replace HB:=Z_ (lP_ Lb_ hb);(try clear hb)))
       go_ret
       exact ⟨Er_,Lb_⟩
      rotate_right
      have H':=Z_ H
      clear H
      have p384 : 0 ≤ (x33_2 : Int):=dA_
      have q384 : x33_2 < (l1_2.length : Int):=dA_
      obtain ⟨ad384,e384,hL384⟩:=at_L114 HR1_2.out x33_2 p384 q384
      cases e384
      replace hL384:=RowAt.below (B:=0) hL384 HB.out
      replace p384:=eq_true p384
      replace q384:=eq_true q384
      go_wp2_with (first | ((with_reducible refine gate_load_ (t:=114) rfl ?_);refine load_row_ (by rfl) (by rfl) (by rfl) hL384 Tryz.underlying114 rfl size114_ ?_) | ((with_reducible refine gD_ 7 rfl ?_);refine bx_ #[.int .i64 0,.int .i64 0,.int .i64 0,.int .i64 0,.int .i64 0,.int .i64 0,.int .i64 0,.int .i64 0,.int .i64 0,.int .i64 0,.int .i64 0,.int .i64 0,.int .i64 0,.int .i64 0,.int .i64 0,.int .i64 0,.int .i64 0,.int .i64 0,.int .i64 0,.int .i64 0] 114 ?_;intro a6 hg w22 hbox hb;have a7:=Z_ hbox;have a4:=Z_ ((by rw [hg];exact (below_size HB.out) : w.heap.size ≤ a6));replace HB:=Z_ (lP_ HB.out hb);have a3:=Z_ ((by rw [hg];exact Nat.ne_of_lt (blk_lt a0.out) : a2 ≠ a6));replace a0:=Z_ (bB_ a0.out hb);have a5:=Z_ a3.out.symm;clear hb hbox hg;have ai:=a5.out;have aj:=a3.out;obtain ⟨_,_,_,_,_,_,_,_,_,_,_,_,_,_,_,_,_,_,_,_,_,_,_,_,_,_,_,_,_,_,_,_,_,_,_,_,_,_,_,_⟩:=bc20 a7.out) | ((with_reducible refine gate_store (t:=114) rfl ?_);refine store_box_ (by rfl) (by rfl) (by rfl) (by rfl) (by rfl) a7.out (by rfl) size114_ (by rfl) ?_;intro w99_ hst hU;replace a0:=Z_ (bU_ hU a0.out a3.out);replace HB:=Z_ (lU_ hU HB.out a4.out);replace a7:=Z_ hst;clear hU hst;obtain ⟨_,_,_,_,_,_,_,_,_,_,_,_,_,_,_,_,_,_,_,_,_,_,_,_,_,_,_,_,_,_,_,_,_,_,_,_,_,_,_,_⟩:=bc20 a7.out) | ((with_reducible refine gate_load_ (t:=114) rfl ?_);refine load_row_ (by rfl) (by rfl) (by rfl) (rowAt_block (t:=114) (cs:=[.int .i64 (rd_T114 l1_2 x33_2).f0,.int .i64 (rd_T114 l1_2 x33_2).f1,.int .i64 (rd_T114 l1_2 x33_2).f2,.int .i64 (rd_T114 l1_2 x33_2).f3,.int .i64 (rd_T114 l1_2 x33_2).f4,.int .i64 (rd_T114 l1_2 x33_2).f5,.int .i64 (rd_T114 l1_2 x33_2).f6,.int .i64 (rd_T114 l1_2 x33_2).f7,.int .i64 (rd_T114 l1_2 x33_2).f8,.int .i64 (rd_T114 l1_2 x33_2).f9,.int .i64 (rd_T114 l1_2 x33_2).f10,.int .i64 (rd_T114 l1_2 x33_2).f11.f0,.int .i64 (rd_T114 l1_2 x33_2).f11.f1,.int .i64 (rd_T114 l1_2 x33_2).f11.f2,.int .i64 (rd_T114 l1_2 x33_2).f11.f3,.int .i64 (rd_T114 l1_2 x33_2).f12,.int .i64 (rd_T114 l1_2 x33_2).f13,.int .i64 (rd_T114 l1_2 x33_2).f14,.int .i64 (rd_T114 l1_2 x33_2).f15.f0,.int .i64 (rd_T114 l1_2 x33_2).f15.f1]) (Bk_ a7)) Tryz.underlying114 rfl size114_ ?_) | ((with_reducible refine gate_callee (f:=103) rfl ?_);refine goesA_ (some 39) rfl rfl Tryz.func103 (by kernel_rfl) rfl #[.slice A0 l0.length c0,.agg #[.int .i64 ((rd_T114 l1_2 x33_2).f0),.int .i64 ((rd_T114 l1_2 x33_2).f1),.int .i64 ((rd_T114 l1_2 x33_2).f2),.int .i64 ((rd_T114 l1_2 x33_2).f3),.int .i64 ((rd_T114 l1_2 x33_2).f4),.int .i64 ((rd_T114 l1_2 x33_2).f5),.int .i64 ((rd_T114 l1_2 x33_2).f6),.int .i64 ((rd_T114 l1_2 x33_2).f7),.int .i64 ((rd_T114 l1_2 x33_2).f8),.int .i64 ((rd_T114 l1_2 x33_2).f9),.int .i64 ((rd_T114 l1_2 x33_2).f10),.int .i64 ((rd_T114 l1_2 x33_2).f11.f0),.int .i64 ((rd_T114 l1_2 x33_2).f11.f1),.int .i64 ((rd_T114 l1_2 x33_2).f11.f2),.int .i64 ((rd_T114 l1_2 x33_2).f11.f3),.int .i64 ((rd_T114 l1_2 x33_2).f12),.int .i64 ((rd_T114 l1_2 x33_2).f13),.int .i64 ((rd_T114 l1_2 x33_2).f14),.int .i64 ((rd_T114 l1_2 x33_2).f15.f0),.int .i64 ((rd_T114 l1_2 x33_2).f15.f1)]] rfl ?_;(with_reducible refine (impl_TalkFault.calls k2 _ _ l0 ((rd_T114 l1_2 x33_2).f0) ((rd_T114 l1_2 x33_2).f1) ((rd_T114 l1_2 x33_2).f2) ((rd_T114 l1_2 x33_2).f3) ((rd_T114 l1_2 x33_2).f4) ((rd_T114 l1_2 x33_2).f5) ((rd_T114 l1_2 x33_2).f6) ((rd_T114 l1_2 x33_2).f7) ((rd_T114 l1_2 x33_2).f8) ((rd_T114 l1_2 x33_2).f9) ((rd_T114 l1_2 x33_2).f10) ((rd_T114 l1_2 x33_2).f11.f0) ((rd_T114 l1_2 x33_2).f11.f1) ((rd_T114 l1_2 x33_2).f11.f2) ((rd_T114 l1_2 x33_2).f11.f3) ((rd_T114 l1_2 x33_2).f12) ((rd_T114 l1_2 x33_2).f13) ((rd_T114 l1_2 x33_2).f14) ((rd_T114 l1_2 x33_2).f15.f0) ((rd_T114 l1_2 x33_2).f15.f1) t386 _ ?side1 ?side2 af.out).mono ?_);(case side1 => exact Kd.C_below a8.out Lb_);(case side2 => exact a9.out);rintro e w25 ⟨rfl,hb⟩;refine ⟨_,rfl,?_⟩;replace a0:=Z_ (bB_ (g:=a2) (o:=.cells #[.int .i64 a1_0,.int .i64 a1_1,.slice (some ad384) l1_2.length c1_2] 76 (0,0)) (by exact a0.out) hb);replace HB:=Z_ (lP_ Lb_ hb);(try clear hb)))
      go_roundg k2
      case measure => have:=HJ4.out;have:=HK2.out;omega
      case rel => exact ⟨(wrap64 (x33_2 + 1)),Sr_,H',⟨by have:=HJ4.out;have:=HK2.out;omega⟩,⟨Bk_ a0⟩,⟨Lb_⟩⟩
   all_goals
    obtain rfl:=Option.some.inj H
    try obtain ⟨_,_,_,_,_,_⟩:=bc3 a0.out
    go_wp2
    go_ret
    exact ⟨Er_,Lb_⟩
def impl_brokenFault.l0 : Nat → List Int → List Int → Int → Int → Option (Int)
 | 0,_,_,_,_ => none
 | k + 1,x0,x8,x9,x10 => if x10 < x9 then (if 0 ≤ x10 then (if x10 < (x8.length : Int) then ((impl_in.f (rd x8 x10) 9011 9099).bind fun t392 => (if t392 = true then (if x10 > 0 then (if 0 ≤ (wrap64 (x10 - 1)) then (if (wrap64 (x10 - 1)) < (x0.length : Int) then (if (rd x0 (wrap64 (x10 - 1))) ≥ (rd x8 x10) then (some 1) else (impl_brokenFault.l0 k x0 x8 x9 (wrap64 (x10 + 1)))) else (none)) else (none)) else (impl_brokenFault.l0 k x0 x8 x9 (wrap64 (x10 + 1)))) else (some 3))) else (none)) else (none)) else (some 0)
def impl_brokenFault.f (k : Nat) (l0 : List Int) : Option (Int):=if (l0.length : Int) > 10 then (some 2) else (impl_brokenFault.l0 k l0 l0 (l0.length : Int) 0)
set_option maxHeartbeats 8000000 in
set_option maxRecDepth 100000 in
theorem impl_brokenFault.calls (k : Nat) (A0 : Option Addr) (c0 : Nat) (l0 : List Int) (r : Int) (w : World) (hr0 : Kd.C (Kd.int .i64) w A0 l0.length l0) (hc0 : l0.length ≤ c0) (h : impl_brokenFault.f k l0 = some r) :
  Calls Tryz.prog 55 #[.slice A0 l0.length c0] w fun e w' => e = .returned (.int .i64 r) ∧ Drawn0 w w':=by
 have a0:=Z_ hr0
 have a2:=Z_ hc0
 clear hr0 hc0
 unfold impl_brokenFault.f at h
 have H:=h
 clear h
 replace H:=iC_ H
 obtain ⟨c2,H⟩ | ⟨c2,H⟩:=H
 ·have c2b0 : decide (10 < (l0.length : Int)) = true:=decide_eq_true c2
  have c2b1 : decide (10 < l0.length) = true:=decide_eq_true (by omega)
  clear c2
  obtain rfl:=Option.some.inj H
  go_enter Tryz.func55,Tryz.ntmps55
  go_wp2
  go_ret
  exact ⟨by first | rfl | (simp;done) | (simp [*];done),by repeat (first | exact Drawn0.refl _ | apply Drawn0.step)⟩
 have c2b0 : decide (10 < (l0.length : Int)) = false:=decide_eq_false c2
 have c2b1 : decide (10 < l0.length) = false:=decide_eq_false (by omega)
 clear c2
 have H':=Z_ H
 clear H
 go_enter Tryz.func55,Tryz.ntmps55
 go_wp2
 go_loopg [10] k (fun kq v10 w' => ∃ (x10_1 : Int),v10 = .int .i64 x10_1 ∧ Aside0 (impl_brokenFault.l0 kq l0 l0 (l0.length : Int) x10_1 = some r) ∧ Aside0 (kq ≤ k) ∧ Drawn0 w w')
 case atStart => exact ⟨(0),Sr_,H',⟨Nat.le_refl _⟩,by repeat (first | exact Drawn0.refl _ | apply Drawn0.step)⟩
 case round =>
  clear H'
  try clear c2
  try clear c2b0
  try clear c2b1
  try clear p2
  obtain ⟨x10_1,rfl,HA,HK1,⟨m1,rfl⟩⟩:=hrel
  cases gk with
  | zero => exact absurd HA.out (by simp [impl_brokenFault.l0])
  | succ k1 =>
   have H:=HA.out
   clear HA
   simp only [impl_brokenFault.l0] at H
   replace H:=iD_ H
   obtain ⟨c3b0,H⟩ | ⟨c3b0,H⟩:=H
   rotate_left
   ·obtain rfl:=Option.some.inj H
    go_wp2
    go_ret
    exact ⟨by first | rfl | (simp;done) | (simp [*];done),by repeat (first | exact Drawn0.refl _ | apply Drawn0.step)⟩
   rotate_right
   replace H:=iM_ H
   obtain ⟨c4b0,H⟩:=H
   replace H:=iM_ H
   obtain ⟨c5b0,H⟩:=H
   replace H:=bS_ H
   obtain ⟨t392,A6,H⟩:=H
   replace H:=iB_ H
   obtain ⟨rfl,H⟩ | ⟨rfl,H⟩:=H
   rotate_left
   ·obtain rfl:=Option.some.inj H
    have p391 : 0 ≤ (x10_1 : Int):=dA_
    have q391 : x10_1 < (l0.length : Int):=dA_
    obtain ⟨ad391,e391,hx391_0⟩:=Kd.at_int a0.out x10_1 p391 q391
    cases e391
    replace p391:=eq_true p391
    replace q391:=eq_true q391
    go_wp2_with (first | ((with_reducible refine gate_callee (f:=61) rfl ?_);refine goesA_ (some 17) rfl rfl Tryz.func61 (by kernel_rfl) rfl #[.int .i64 (rd l0 x10_1),.int .i64 9011,.int .i64 9099] rfl ?_;(with_reducible refine (impl_in.calls (rd l0 x10_1) 9011 9099 false _ A6.out).mono ?_);rintro e w' ⟨rfl,⟨nd,rfl⟩⟩;refine ⟨_,rfl,?_⟩))
    go_ret
    exact ⟨by first | rfl | (simp;done) | (simp [*];done),by repeat (first | exact Drawn0.refl _ | apply Drawn0.step)⟩
   rotate_right
   replace H:=iD_ H
   obtain ⟨c8b0,H⟩ | ⟨c8b0,H⟩:=H
   rotate_left
   focus replace c8b0 : decide (0 < x10_1) = false:=c8b0
   rotate_right
   replace c8b0 : decide (0 < x10_1) = true:=c8b0
   obtain ⟨ji9,hji9⟩ : ∃ j_ : Int,(wrap64 (x10_1 - 1)) = j_:=⟨_,rfl⟩
   replace H : (if 0 ≤ (ji9) then (if (ji9) < (l0.length : Int) then (if (rd l0 (ji9)) ≥ (rd l0 x10_1) then (some 1) else (impl_brokenFault.l0 k1 l0 l0 (l0.length : Int) (wrap64 (x10_1 + 1)))) else (none)) else (none)) = some r:=by first | (rw [hji9] at H;exact H) | (simp only [hji9] at H ⊢;exact H)
   (try rw [hji9] at A6)
   have hji9w : (IntKind.i64.wrap (x10_1 - 1)) = ji9:=(i64_w _).trans hji9
   replace H:=iM_ H
   obtain ⟨c10b0,H⟩:=H
   replace H:=iM_ H
   obtain ⟨c11b0,H⟩:=H
   replace H:=iD_ H
   obtain ⟨c12b0,H⟩ | ⟨c12b0,H⟩:=H
   rotate_left
   focus replace c12b0 : decide ((rd l0 x10_1) ≤ (rd l0 (ji9))) = false:=c12b0
   rotate_right
   ·replace c12b0 : decide ((rd l0 x10_1) ≤ (rd l0 (ji9))) = true:=c12b0
    obtain rfl:=Option.some.inj H
    have p391 : 0 ≤ (x10_1 : Int):=dA_
    have q391 : x10_1 < (l0.length : Int):=dA_
    obtain ⟨ad391,e391,hx391_0⟩:=Kd.at_int a0.out x10_1 p391 q391
    cases e391
    replace p391:=eq_true p391
    replace q391:=eq_true q391
    go_wp2_with (first | ((with_reducible refine gate_callee (f:=61) rfl ?_);refine goesA_ (some 17) rfl rfl Tryz.func61 (by kernel_rfl) rfl #[.int .i64 (rd l0 x10_1),.int .i64 9011,.int .i64 9099] rfl ?_;(with_reducible refine (impl_in.calls (rd l0 x10_1) 9011 9099 true _ A6.out).mono ?_);rintro e w' ⟨rfl,⟨nd,rfl⟩⟩;refine ⟨_,rfl,?_⟩;have p393 : 0 ≤ ((ji9) : Int):=dA_;have q393 : (ji9) < (l0.length : Int):=dA_;obtain ⟨ad393,e393,hx393_0⟩:=Kd.at_int a0.out (ji9) p393 q393;obtain rfl : ad391 = ad393:=(by injection e393);replace p393:=eq_true p393;replace q393:=eq_true q393))
    go_ret
    exact ⟨by first | rfl | (simp;done) | (simp only [← hji9] <;> (first | rfl | simp)) | (simp [*];done),by repeat (first | exact Drawn0.refl _ | apply Drawn0.step)⟩
   all_goals
    have H':=Z_ H
    clear H
    have p391 : 0 ≤ (x10_1 : Int):=dA_
    have q391 : x10_1 < (l0.length : Int):=dA_
    obtain ⟨ad391,e391,hx391_0⟩:=Kd.at_int a0.out x10_1 p391 q391
    cases e391
    replace p391:=eq_true p391
    replace q391:=eq_true q391
    go_wp2_with (first | ((with_reducible refine gate_callee (f:=61) rfl ?_);refine goesA_ (some 17) rfl rfl Tryz.func61 (by kernel_rfl) rfl #[.int .i64 (rd l0 x10_1),.int .i64 9011,.int .i64 9099] rfl ?_;(with_reducible refine (impl_in.calls (rd l0 x10_1) 9011 9099 _ _ A6.out).mono ?_);rintro e w' ⟨rfl,⟨nd,rfl⟩⟩;refine ⟨_,rfl,?_⟩;have p393 : 0 ≤ ((ji9) : Int):=dA_;have q393 : (ji9) < (l0.length : Int):=dA_;obtain ⟨ad393,e393,hx393_0⟩:=Kd.at_int a0.out (ji9) p393 q393;obtain rfl : ad391 = ad393:=(by injection e393);replace p393:=eq_true p393;replace q393:=eq_true q393) | ((with_reducible refine gate_callee (f:=61) rfl ?_);refine goesA_ (some 17) rfl rfl Tryz.func61 (by kernel_rfl) rfl #[.int .i64 (rd l0 x10_1),.int .i64 9011,.int .i64 9099] rfl ?_;(with_reducible refine (impl_in.calls (rd l0 x10_1) 9011 9099 _ _ A6.out).mono ?_);rintro e w' ⟨rfl,⟨nd,rfl⟩⟩;refine ⟨_,rfl,?_⟩))
    go_roundg k1
    case measure => have:=HK1.out;omega
    case rel => exact ⟨_,Sr_,H',⟨by have:=HK1.out;omega⟩,by repeat (first | exact Drawn0.refl _ | apply Drawn0.step)⟩
def impl_KnownFault.l0 : Nat → List (S83) → List Int → List Int → Int → Int → Option (Int)
 | 0,_,_,_,_,_ => none
 | k + 1,x0,x1,x16,x17,x18 => if x18 < x17 then (if 0 ≤ x18 then (if x18 < (x16.length : Int) then ((impl_isPlace.f x0 (rd x16 x18)).bind fun t397 => (if t397 = true then (if x18 > 0 then (if 0 ≤ (wrap64 (x18 - 1)) then (if (wrap64 (x18 - 1)) < (x1.length : Int) then (if (rd x1 (wrap64 (x18 - 1))) ≥ (rd x16 x18) then (some 1) else (impl_KnownFault.l0 k x0 x1 x16 x17 (wrap64 (x18 + 1)))) else (none)) else (none)) else (impl_KnownFault.l0 k x0 x1 x16 x17 (wrap64 (x18 + 1)))) else (some 3))) else (none)) else (none)) else (some 0)
def impl_KnownFault.f (k : Nat) (l0 : List (S83)) (l1 : List Int) : Option (Int):=(impl_TermsFault.f l0).bind fun t395 => (if t395 = 0 then (if (l1.length : Int) > 400 then (some 2) else (impl_KnownFault.l0 k l0 l1 l1 (l1.length : Int) 0)) else (some t395))
set_option maxHeartbeats 8000000 in
set_option maxRecDepth 100000 in
theorem impl_KnownFault.calls (k : Nat) (A0 : Option Addr) (c0 : Nat) (l0 : List (S83)) (A1 : Option Addr) (c1 : Nat) (l1 : List Int) (r : Int) (w : World) (hr0 : Kd.C k83 w A0 l0.length l0) (hc0 : l0.length ≤ c0) (hr1 : Kd.C (Kd.int .i64) w A1 l1.length l1) (hc1 : l1.length ≤ c1) (h : impl_KnownFault.f k l0 l1 = some r) :
  Calls Tryz.prog 56 #[.slice A0 l0.length c0,.slice A1 l1.length c1] w fun e w' => e = .returned (.int .i64 r) ∧ Below w.heap.size w w':=by
 have a0:=Z_ hr0
 have a1:=Z_ hc0
 clear hr0 hc0
 have a2:=Z_ hr1
 have a6:=Z_ hc1
 clear hr1 hc1
 have HB:=Z_ (Below.refl w.heap.size w)
 unfold impl_KnownFault.f at h
 have H:=h
 clear h
 replace H:=bS_ H
 obtain ⟨t395,A3,H⟩:=H
 replace H:=iC_ H
 obtain ⟨c4,H⟩ | ⟨c4,H⟩:=H
 rotate_left
 focus
  have c4b0 : (t395 == 0) = false:=beq_eq_false_iff_ne.mpr c4
  have c4b1 : (t395 != 0) = true:=bne_iff_ne.mpr c4
 rotate_right
 have c4b0 : (t395 == 0) = true:=beq_iff_eq.mpr c4
 have c4b1 : (t395 != 0) = false:=bne_eq_false_iff_eq.mpr c4
 clear c4
 replace H:=iC_ H
 obtain ⟨c5,H⟩ | ⟨c5,H⟩:=H
 focus
  have c5b0 : decide (400 < (l1.length : Int)) = true:=decide_eq_true c5
  have c5b1 : decide (400 < l1.length) = true:=decide_eq_true (by omega)
  clear c5
 rotate_left
 ·have c5b0 : decide (400 < (l1.length : Int)) = false:=decide_eq_false c5
  have c5b1 : decide (400 < l1.length) = false:=decide_eq_false (by omega)
  clear c5
  have H':=Z_ H
  clear H
  go_enter Tryz.func56,Tryz.ntmps56
  go_wp2_with (first | ((with_reducible refine gate_callee (f:=53) rfl ?_);refine goesA_ (some 9) rfl rfl Tryz.func53 (by kernel_rfl) rfl #[.slice A0 l0.length c0] rfl ?_;(with_reducible refine (impl_TermsFault.calls _ _ l0 t395 _ ?side1 ?side2 A3.out).mono ?_);(case side1 => repeat (first | exact a0.out | (with_reducible refine Kd.C_alloc ?_ _) | (with_reducible refine Kd.C_drewN ?_ _) | (with_reducible refine Kd.C_drew ?_)));(case side2 => exact a1.out);rintro e w7 ⟨rfl,hb⟩;refine ⟨_,rfl,?_⟩;replace HB:=Z_ (lP_ Lb_ hb);(try clear hb)))
  go_loopg [18] k (fun kq v18 w' => ∃ (x18_1 : Int),v18 = .int .i64 x18_1 ∧ Aside0 (impl_KnownFault.l0 kq l0 l1 l1 (l1.length : Int) x18_1 = some r) ∧ Aside0 (kq ≤ k) ∧ Aside0 (Below w.heap.size w w'))
  case atStart => exact ⟨(0),Sr_,H',⟨Nat.le_refl _⟩,⟨Lb_⟩⟩
  case round =>
   clear H'
   try clear c1
   try clear p2
   try clear c4
   try clear c4b0
   try clear c4b1
   try clear c5
   try clear c5b0
   try clear c5b1
   obtain ⟨x18_1,rfl,HA,HK1,HB⟩:=hrel
   cases gk with
   | zero => exact absurd HA.out (by simp [impl_KnownFault.l0])
   | succ k1 =>
    have H:=HA.out
    clear HA
    simp only [impl_KnownFault.l0] at H
    replace H:=iD_ H
    obtain ⟨c8b0,H⟩ | ⟨c8b0,H⟩:=H
    rotate_left
    ·obtain rfl:=Option.some.inj H
     go_wp2
     go_ret
     exact ⟨Er_,Lb_⟩
    rotate_right
    replace H:=iM_ H
    obtain ⟨c9b0,H⟩:=H
    replace H:=iM_ H
    obtain ⟨c10b0,H⟩:=H
    replace H:=bS_ H
    obtain ⟨t397,a3,H⟩:=H
    replace H:=iB_ H
    obtain ⟨rfl,H⟩ | ⟨rfl,H⟩:=H
    rotate_left
    ·obtain rfl:=Option.some.inj H
     have p396 : 0 ≤ (x18_1 : Int):=dA_
     have q396 : x18_1 < (l1.length : Int):=dA_
     obtain ⟨ad396,e396,hx396_0⟩:=Kd.at_int a2.out x18_1 p396 q396
     cases e396
     replace hx396_0:=cB_ HB hx396_0
     replace p396:=eq_true p396
     replace q396:=eq_true q396
     go_wp2_with (first | ((with_reducible refine gate_callee (f:=28) rfl ?_);refine goesA_ (some 26) rfl rfl Tryz.func28 (by kernel_rfl) rfl #[.slice A0 l0.length c0,.int .i64 (rd l1 x18_1)] rfl ?_;(with_reducible refine (impl_isPlace.calls _ _ l0 (rd l1 x18_1) false _ ?side1 ?side2 a3.out).mono ?_);(case side1 => exact Cb_ a0);(case side2 => exact a1.out);rintro e w' ⟨rfl,⟨nd,rfl⟩⟩;refine ⟨_,rfl,?_⟩))
     go_ret
     exact ⟨Er_,Lb_⟩
    rotate_right
    replace H:=iD_ H
    obtain ⟨c13b0,H⟩ | ⟨c13b0,H⟩:=H
    rotate_left
    focus replace c13b0 : decide (0 < x18_1) = false:=c13b0
    rotate_right
    replace c13b0 : decide (0 < x18_1) = true:=c13b0
    obtain ⟨ji14,hji14⟩ : ∃ j_ : Int,(wrap64 (x18_1 - 1)) = j_:=⟨_,rfl⟩
    replace H : (if 0 ≤ (ji14) then (if (ji14) < (l1.length : Int) then (if (rd l1 (ji14)) ≥ (rd l1 x18_1) then (some 1) else (impl_KnownFault.l0 k1 l0 l1 l1 (l1.length : Int) (wrap64 (x18_1 + 1)))) else (none)) else (none)) = some r:=by first | (rw [hji14] at H;exact H) | (simp only [hji14] at H ⊢;exact H)
    (try rw [hji14] at a3)
    have hji14w : (IntKind.i64.wrap (x18_1 - 1)) = ji14:=(i64_w _).trans hji14
    replace H:=iM_ H
    obtain ⟨c15b0,H⟩:=H
    replace H:=iM_ H
    obtain ⟨c16b0,H⟩:=H
    replace H:=iD_ H
    obtain ⟨c17b0,H⟩ | ⟨c17b0,H⟩:=H
    rotate_left
    focus replace c17b0 : decide ((rd l1 x18_1) ≤ (rd l1 (ji14))) = false:=c17b0
    rotate_right
    ·replace c17b0 : decide ((rd l1 x18_1) ≤ (rd l1 (ji14))) = true:=c17b0
     obtain rfl:=Option.some.inj H
     have p396 : 0 ≤ (x18_1 : Int):=dA_
     have q396 : x18_1 < (l1.length : Int):=dA_
     obtain ⟨ad396,e396,hx396_0⟩:=Kd.at_int a2.out x18_1 p396 q396
     cases e396
     replace hx396_0:=cB_ HB hx396_0
     replace p396:=eq_true p396
     replace q396:=eq_true q396
     go_wp2_with (first | ((with_reducible refine gate_callee (f:=28) rfl ?_);refine goesA_ (some 26) rfl rfl Tryz.func28 (by kernel_rfl) rfl #[.slice A0 l0.length c0,.int .i64 (rd l1 x18_1)] rfl ?_;(with_reducible refine (impl_isPlace.calls _ _ l0 (rd l1 x18_1) true _ ?side1 ?side2 a3.out).mono ?_);(case side1 => exact Cb_ a0);(case side2 => exact a1.out);rintro e w' ⟨rfl,⟨nd,rfl⟩⟩;refine ⟨_,rfl,?_⟩;have p398 : 0 ≤ ((ji14) : Int):=dA_;have q398 : (ji14) < (l1.length : Int):=dA_;obtain ⟨ad398,e398,hx398_0⟩:=Kd.at_int a2.out (ji14) p398 q398;obtain rfl : ad396 = ad398:=(by injection e398);replace hx398_0:=cB_ HB hx398_0;replace p398:=eq_true p398;replace q398:=eq_true q398))
     go_ret
     exact ⟨by first | rfl | (simp [errW_none,errW_some] <;> rfl) | (simp only [← hji14];first | rfl | (simp [errW_none,errW_some] <;> rfl)) | (simp [*,errW_none,errW_some] <;> rfl),Lb_⟩
    all_goals
     have H':=Z_ H
     clear H
     have p396 : 0 ≤ (x18_1 : Int):=dA_
     have q396 : x18_1 < (l1.length : Int):=dA_
     obtain ⟨ad396,e396,hx396_0⟩:=Kd.at_int a2.out x18_1 p396 q396
     cases e396
     replace hx396_0:=cB_ HB hx396_0
     replace p396:=eq_true p396
     replace q396:=eq_true q396
     go_wp2_with (first | ((with_reducible refine gate_callee (f:=28) rfl ?_);refine goesA_ (some 26) rfl rfl Tryz.func28 (by kernel_rfl) rfl #[.slice A0 l0.length c0,.int .i64 (rd l1 x18_1)] rfl ?_;(with_reducible refine (impl_isPlace.calls _ _ l0 (rd l1 x18_1) _ _ ?side1 ?side2 a3.out).mono ?_);(case side1 => exact Cb_ a0);(case side2 => exact a1.out);rintro e w' ⟨rfl,⟨nd,rfl⟩⟩;refine ⟨_,rfl,?_⟩;have p398 : 0 ≤ ((ji14) : Int):=dA_;have q398 : (ji14) < (l1.length : Int):=dA_;obtain ⟨ad398,e398,hx398_0⟩:=Kd.at_int a2.out (ji14) p398 q398;obtain rfl : ad396 = ad398:=(by injection e398);replace hx398_0:=cB_ HB hx398_0;replace p398:=eq_true p398;replace q398:=eq_true q398) | ((with_reducible refine gate_callee (f:=28) rfl ?_);refine goesA_ (some 26) rfl rfl Tryz.func28 (by kernel_rfl) rfl #[.slice A0 l0.length c0,.int .i64 (rd l1 x18_1)] rfl ?_;(with_reducible refine (impl_isPlace.calls _ _ l0 (rd l1 x18_1) _ _ ?side1 ?side2 a3.out).mono ?_);(case side1 => exact Cb_ a0);(case side2 => exact a1.out);rintro e w' ⟨rfl,⟨nd,rfl⟩⟩;refine ⟨_,rfl,?_⟩))
     go_roundg k1
     case measure => have:=HK1.out;omega
     case rel => exact ⟨_,Sr_,H',⟨by have:=HK1.out;omega⟩,⟨Lb_⟩⟩
 all_goals
  obtain rfl:=Option.some.inj H
  go_enter Tryz.func56,Tryz.ntmps56
  go_wp2_with (first | ((with_reducible refine gate_callee (f:=53) rfl ?_);refine goesA_ (some 9) rfl rfl Tryz.func53 (by kernel_rfl) rfl #[.slice A0 l0.length c0] rfl ?_;(with_reducible refine (impl_TermsFault.calls _ _ l0 t395 _ ?side1 ?side2 A3.out).mono ?_);(case side1 => repeat (first | exact a0.out | (with_reducible refine Kd.C_alloc ?_ _) | (with_reducible refine Kd.C_drewN ?_ _) | (with_reducible refine Kd.C_drew ?_)));(case side2 => exact a1.out);rintro e w18 ⟨rfl,hb⟩;refine ⟨_,rfl,?_⟩;replace HB:=Z_ (lP_ Lb_ hb);(try clear hb)))
  go_ret
  exact ⟨Er_,Lb_⟩
set_option maxHeartbeats 4000000 in
set_option maxRecDepth 100000 in
theorem slices_IndexFunc_Gv.calls (g : Nat) (lb : Array Value) (p : S88 → Bool) (A0 : Option Addr) (c0 : Nat) (l0 : List S88) (w : World) (eg : ∀ args w,(callFunc g args).run Tryz.prog w = .ok (.enter g args) w)
    (hp : ∀ (W : World) (x : S88),x ∈ l0 → Below w.heap.size w W → Calls Tryz.prog g (#[.agg #[.int .i64 x.f0,.int .i64 x.f1,.int .i64 x.f2,.int .i64 x.f3]] ++ lb) W fun e w' => e = .returned (.bool (p x)) ∧ Below w.heap.size w w')
    (hr0 : Kd.C k88 w A0 l0.length l0) (hl : l0.length ≤ 9223372036854775807) :
    Calls Tryz.prog 83 #[.slice A0 l0.length c0,.func (.func g) #[] lb] w fun e w' => ∃ v : Int,e = .returned (.int .i64 v) ∧
      Aside0 ((v = -1 ∧ ∀ j : Nat,j < l0.length → p (rd_T88 l0 j) = false) ∨ ∃ i : Nat,v = i ∧ i < l0.length ∧ p (rd_T88 l0 i) = true ∧ ∀ j : Nat,j < i → p (rd_T88 l0 j) = false) ∧ Below w.heap.size w w':=by
 have HR:=Z_ hr0
 clear hr0
 go_enter Tryz.func83,Tryz.ntmps83
 go_wp2
 go_loopg [5,8] l0.length (fun gg _ s8 wr => ∃ kk : Nat,kk ≤ l0.length ∧ l0.length - kk ≤ gg ∧ s8 = .int .i64 kk ∧ Aside0 (Below w.heap.size w wr) ∧ Aside0 (∀ j : Nat,j < kk → p (rd_T88 l0 j) = false))
 case atStart => exact ⟨0,Nat.zero_le _,by omega,rfl,Z_ (Below.refl _ w),Z_ (fun j hj => absurd hj (Nat.not_lt_zero _))⟩
 case round =>
  obtain ⟨kk,hkk,hg,rfl,BW,HA⟩:=hrel
  by_cases hlt : kk < l0.length
  ·have hltz : (kk : Int) < (l0.length : Int):=by omega
   obtain ⟨ad,e,hx0,hx1,hx2,hx3⟩:=at_T88 (Kd.C_below HR.out BW.out) (kk : Int) (by omega) (by omega)
   rw [Int.toNat_natCast] at hx0 hx1 hx2 hx3
   subst e
   have hm : rd_T88 l0 (kk : Int) ∈ l0:=by
     have : rd_T88 l0 (kk : Int) = l0[kk]:=by simp [rd_T88,List.getD,List.getElem?_eq_getElem hlt]
     rw [this];exact List.getElem_mem hlt
   have hcall:=hp wr (rd_T88 l0 (kk : Int)) hm BW.out
   clear hp hm
   generalize hy : rd_T88 l0 (kk : Int) = y at hx0 hx1 hx2 hx3 hcall
   have HY:=Z_ hy
   clear hy
   cases hq : p y with
   | true =>
    rw [hq] at hcall
    go_wp2_with (go_at_fn g;refine hcall.mono ?_;rintro e w' ⟨rfl,hb'⟩)
    go_ret
    exact ⟨_,rfl,Z_ (.inr ⟨kk,rfl,hlt,by rw [HY.out];exact hq,HA.out⟩),hb'⟩
   | false =>
    rw [hq] at hcall
    go_wp2_with (go_at_fn g;refine hcall.mono ?_;rintro e w' ⟨rfl,hb'⟩)
    go_roundg (l0.length - (kk + 1))
    case measure => omega
    case rel =>
     refine ⟨kk + 1,by omega,by omega,by go_num,Z_ hb',Z_ (fun j hj => ?_)⟩
     by_cases e : j = kk
     ·subst e
      rw [HY.out];exact hq
     ·exact HA.out j (by omega)
  ·have hltz : ¬ (kk : Int) < (l0.length : Int):=by omega
   obtain rfl : kk = l0.length:=by omega
   go_wp2
   go_ret
   exact ⟨_,rfl,Z_ (.inl ⟨rfl,HA.out⟩),BW.out⟩
set_option maxHeartbeats 4000000 in
set_option maxRecDepth 100000 in
theorem slices_ContainsFunc_Gv.calls (g : Nat) (lb : Array Value) (p : S88 → Bool) (A0 : Option Addr) (c0 : Nat) (l0 : List S88) (w : World) (eg : ∀ args w,(callFunc g args).run Tryz.prog w = .ok (.enter g args) w)
    (hp : ∀ (W : World) (x : S88),x ∈ l0 → Below w.heap.size w W → Calls Tryz.prog g (#[.agg #[.int .i64 x.f0,.int .i64 x.f1,.int .i64 x.f2,.int .i64 x.f3]] ++ lb) W fun e w' => e = .returned (.bool (p x)) ∧ Below w.heap.size w w')
    (hr0 : Kd.C k88 w A0 l0.length l0) (hl : l0.length ≤ 9223372036854775807) :
    Calls Tryz.prog 57 #[.slice A0 l0.length c0,.func (.func g) #[] lb] w fun e w' => e = .returned (.bool (l0.any p)) ∧ Below w.heap.size w w':=by
 have hC:=slices_IndexFunc_Gv.calls g lb p A0 c0 l0 w eg hp hr0 hl
 clear hp hr0
 go_enter Tryz.func57,Tryz.ntmps57
 go_wp2_with (go_at_call 83;refine hC.mono ?_;rintro e w' ⟨v,rfl,hv,hb⟩)
 go_ret
 refine ⟨congrArg (fun b => Ending.returned (Value.bool b)) ?_,hb⟩
 rcases hv.out with ⟨rfl,h⟩ | ⟨i,rfl,hi,h,_⟩
 ·symm
  rw [show decide ((-1 : Int) ≥ 0) = false from rfl]
  rw [List.any_eq_false]
  intro x hx
  obtain ⟨j,hj,rfl⟩:=List.getElem_of_mem hx
  have:=h j hj
  rw [show rd_T88 l0 (j : Int) = l0[j] by simp [rd_T88,List.getD,List.getElem?_eq_getElem hj]] at this
  simp [this]
 ·rw [decide_eq_true (show ((i : Nat) : Int) ≥ 0 by omega)]
  symm
  exact List.any_eq_true.2 ⟨rd_T88 l0 (i : Int),by rw [show rd_T88 l0 (i : Int) = l0[i] by simp [rd_T88,List.getD,List.getElem?_eq_getElem hi]];exact List.getElem_mem hi,h⟩
set_option maxHeartbeats 4000000 in
set_option maxRecDepth 100000 in
theorem impl_Given_58.grow (n : Int) (w : World) (h0 : 0 ≤ n) (h1 : n ≤ 4398046511104) :
    Calls Tryz.prog 84 #[.slice none 0 0,.int .i64 n] w fun e w' => ∃ v0_ : Value,e = .returned (v0_) ∧ Kd.R k88 88 w' w.heap.size (fun _ => True) v0_ ([] : List (S88)) ∧ Below w.heap.size w w':=by
  by_cases hn : 0 < n
  · have HB:=Z_ (Below.refl w.heap.size w)
    have HN:=Z_ h1
    have hd : decide (n < 0) = false:=decide_eq_false (by omega)
    have hd2 : decide (0 < n) = true:=decide_eq_true hn
    go_enter Tryz.func84,Tryz.ntmps84
    go_wp2_with (first | ((with_reducible refine gate_builtin (b:=.append) (xs:=#[.tmp 20,.tmp 21]) rfl ?_);at_builtin;refine Kd.R_append_zeros k88 (w0:=w) w.heap.size rfl (.tmp 20) (.tmp 21) 32 3 88 (.agg #[(.int .i64 0),(.int .i64 0),(.int .i64 0),(.int .i64 0)]) 32 rfl Tryz.underlying32 Tryz.underlying3 info88 rfl (by decide) (by omega) (.slice none 0 0) [] z88 n (fun _ => True) rfl rfl (k88_mkM _ _ _ _) (fun _ _ => trivial) ?aO h0 ?aB ?aS ?aL ?_;(case aO => exact Kd.R_nil _ _ _ _ _);(case aB => exact HB.out);(case aS => exact below_size HB.out);(case aL => have:=HN.out;simp;omega);intro v1 w1 ho hb hg hat;obtain ⟨ad,c1,hv1⟩:=Kd.R_slice1 ho (by simp;omega);subst hv1;replace HB:=Z_ hb;have HO:=Z_ (Kd.R_take (m:=0) ho (Nat.zero_le _));clear ho hb hg hat))
    go_ret
    exact ⟨_,rfl,HO.out,HB.out⟩
  · obtain rfl : n = 0:=by omega
    go_enter Tryz.func84,Tryz.ntmps84
    go_wp2
    go_ret
    exact ⟨_,rfl,Kd.R_nil _ _ _ _ _,Below.refl _ _⟩
def impl_Given_58.f (l0 : List (List (S88))) : Option (List (S88)):=if l0.flatten.length * 32 ≤ 140737488355328 then some l0.flatten else none
theorem impl_Given_58.flat_take {α : Type} (l : List (List α)) (i : Nat) (h : i < l.length) : (l.take (i + 1)).flatten = (l.take i).flatten ++ l.getD i []:=by
  rw [List.take_succ_eq_append_getElem h,List.flatten_append]
  simp [List.getD,List.getElem?_eq_getElem h]
theorem impl_Given_58.flat_take_le {α : Type} (l : List (List α)) (i : Nat) : (l.take i).flatten.length ≤ l.flatten.length:=by
  have h:=congrArg List.length (congrArg List.flatten (List.take_append_drop i l))
  rw [List.flatten_append,List.length_append] at h
  omega
set_option maxHeartbeats 4000000 in
set_option maxRecDepth 100000 in
theorem impl_Given_58.calls (A0 : Option Addr) (c0 : Nat) (l0 : List (List (S88))) (r : List (S88)) (w : World) (hr0 : Kd.C (Kd.slice 88 k88) w A0 l0.length l0) (hc0 : l0.length ≤ c0) (h : impl_Given_58.f l0 = some r) :
    Calls Tryz.prog 58 #[.slice A0 l0.length c0] w fun e w' => ∃ v0_ : Value,e = .returned (v0_) ∧ Kd.R k88 88 w' w.heap.size (fun _ => True) v0_ r ∧ Below w.heap.size w w':=by
 unfold impl_Given_58.f at h
 by_cases hb : l0.flatten.length * 32 ≤ 140737488355328
 ·rw [if_pos hb] at h
  obtain rfl:=Option.some.inj h
  clear h
  have HL:=Z_ hb
  clear hb
  have HN:=Z_ hr0.2.1
  have HR:=Z_ hr0
  clear hr0
  go_enter Tryz.func58,Tryz.ntmps58
  go_wp2_with fail
  go_loopg [3,11] l0.length (fun kq v3 v11 w' => ∃ i m : Nat,v11 = .int .i64 i ∧ v3 = .int .i64 m ∧ Aside0 (m = (l0.take i).flatten.length) ∧ Aside0 (i + kq = l0.length) ∧ Aside0 (w = w'))
  case atStart => exact ⟨0,0,rfl,by simp,⟨by simp⟩,⟨by omega⟩,⟨rfl⟩⟩
  case round =>
   obtain ⟨i,m,rfl,rfl,HM,HI,HW⟩:=hrel
   obtain rfl:=HW.out
   clear HW
   have hi1 : i ≤ l0.length:=by have:=HI.out;omega
   have hi2 : l0.length ≤ 9223372036854775807:=HN.out
   by_cases hlt : i < l0.length
   ·obtain ⟨ad,A1,c1,hA,hcell,hle,hin⟩:=at_L13 HR.out (i : Int) (by omega) (by omega)
    subst hA
    obtain ⟨ys,hys⟩ : ∃ ys,ys = rd_L13 l0 (i : Int):=⟨_,rfl⟩
    have hE:=impl_Given_58.flat_take l0 i hlt
    have hE2 : l0.getD i [] = ys:=by rw [hys];simp [rd_L13]
    rw [hE2] at hE
    rw [← hys,Int.toNat_natCast] at hcell
    clear hin hle hE2 hys
    have hb1 : (l0.take (i + 1)).flatten.length ≤ 140737488355328:=by have:=impl_Given_58.flat_take_le l0 (i + 1);have:=HL.out;omega
    have hb2 : m + ys.length = (l0.take (i + 1)).flatten.length:=by
      have:=congrArg List.length hE
      rw [List.length_append,← HM.out] at this
      omega
    have hb3 : m + ys.length ≤ 140737488355328:=by omega
    have HE:=Z_ hb2
    clear hE hb1 hb2
    go_wp2
    go_roundg (gk - 1)
    case measure => have:=HI.out;omega
    case rel => exact ⟨i + 1,m + ys.length,by go_num,by go_num,HE,⟨by have:=HI.out;omega⟩,⟨rfl⟩⟩
   ·have HC0:=HR
    have hm1 : (m : Int) ≤ 4398046511104:=by have:=impl_Given_58.flat_take_le l0 i;have:=HL.out;have:=HM.out;omega
    have hm0 : (0 : Int) ≤ m:=by omega
    clear HM HI
    go_wp2_with (go_at_call 84;refine (impl_Given_58.grow (m : Int) _ hm0 hm1).mono ?_;rintro e w1 ⟨v1,rfl,ho,hb⟩;have HO:=Z_ ho;have HB:=Z_ hb;clear ho hb HR)
    go_loopg [6,27] l0.length (fun kq v6 v27 w' => ∃ i : Nat,v27 = .int .i64 i ∧ Aside0 (i + kq = l0.length) ∧ Aside0 (Kd.R k88 88 w' w.heap.size (fun _ => True) v6 (l0.take i).flatten) ∧ Aside0 (Below w.heap.size w w'))
    case atStart => exact ⟨0,rfl,⟨by omega⟩,⟨by simpa using HO.out⟩,HB⟩
    case round =>
     clear HO HB hm0 hm1
     obtain ⟨i,rfl,HI,HO,HB⟩:=hrel
     have hi1 : i ≤ l0.length:=by have:=HI.out;omega
     by_cases hlt : i < l0.length
     ·have HC':=Kd.C_below HC0.out HB.out
      obtain ⟨ad,A1,c1,hA,hcell,hle,hin⟩:=at_L13 HC' (i : Int) (by omega) (by omega)
      subst hA
      obtain ⟨ys,hys⟩ : ∃ ys,ys = rd_L13 l0 (i : Int):=⟨_,rfl⟩
      have hE:=impl_Given_58.flat_take l0 i hlt
      have hE2 : l0.getD i [] = ys:=by rw [hys];simp [rd_L13]
      rw [hE2] at hE
      rw [← hys] at hin
      rw [← hys,Int.toNat_natCast] at hcell
      have hb1 : (l0.take (i + 1)).flatten.length * 32 ≤ 140737488355328:=by have:=impl_Given_58.flat_take_le l0 (i + 1);have:=HL.out;omega
      have hb2 : (l0.take i).flatten.length + ys.length = (l0.take (i + 1)).flatten.length:=by
        have:=congrArg List.length hE
        rw [List.length_append] at this
        omega
      have HE:=Z_ hE
      have HS:=Z_ (show ((l0.take i).flatten.length + ys.length) * 32 ≤ 140737488355328 by omega)
      have HIN:=Z_ hin
      obtain ⟨xs,hxs⟩ : ∃ xs,xs = (l0.take i).flatten:=⟨_,rfl⟩
      rw [← hxs] at HO HE HS
      clear hle hE2 hys hE hb1 hb2 hin HC' hxs
      go_wp2_with ((with_reducible refine gate_builtin (b:=.append) (xs:=#[.tmp 31,.tmp 32]) rfl ?_);at_builtin;refine Kd.R_append_rows k88 (Rr:=k88.K wr) (w0:=w) w.heap.size rfl (.tmp 31) (.tmp 32) 32 88 (.agg #[(.int .i64 0),(.int .i64 0),(.int .i64 0),(.int .i64 0)]) 32 rfl Tryz.underlying32 info88 rfl (by decide) (by omega) u6 xs ys A1 ys.length c1 (fun _ => True) (fun _ => False) rfl rfl ?aO ?aR (fun _ cs_ h_ => by obtain rfl:=k88_open h_;exact k88_mkM _ _ _ _) (fun _ hk => hk.elim) (fun _ _ => trivial) ?aB ?aS ?aL ?_;(case aO => exact HO.out);(case aR => exact HIN.out);(case aB => exact HB.out);(case aS => exact below_size HB.out);(case aL => exact HS.out);intro v1 w2 ho hb hg hat;have HO2:=Z_ ho;have HB2:=Z_ hb;clear ho hb hg hat)
      go_roundg (gk - 1)
      case measure => have:=HI.out;omega
      case rel => exact ⟨i + 1,by go_num,⟨by have:=HI.out;omega⟩,⟨by rw [HE.out];exact HO2.out⟩,HB2⟩
     ·go_wp2
      go_ret
      exact ⟨u6,rfl,by have:=HO.out;rwa [List.take_of_length_le (by omega)] at this,HB.out⟩
 ·rw [if_neg hb] at h;cases h
end Go.Proofs.YtcafikgabidphaaGreat.G
