/- Part 5 of the proof of FnExactNetFault: what the functions on its road do, and the plain laws. -/
import Derived.Test.YtbjnjjjhdjichaaCFnExactNetFault4
namespace Go.Proofs.Ytbjnjjjhdjichaa.G
open Go.RowKit Go.Proofs.YtbjnjjjhdjichaaW.PrintWords Go.Proofs.YtbjnjjjhdjichaaW.PrintLast Go.Proofs.YtbjnjjjhdjichaaW.PrintMore
attribute [local go_sem] max2_int min2_int max_two min_two max_three min_three max_four min_four   -- for this text's walks alone
set_option linter.unusedVariables false
set_option linter.unusedSimpArgs false
def laws_eqGateS.l0 : Nat → List (S46) → List (S46) → Int → Option (Bool)
 | 0, _, _, _ => none
 | k + 1, x0, x1, x5 => if x5 < (x0.length : Int) then (if 0 ≤ x5 then (if x5 < (x1.length : Int) then ((laws_eqGate.f k ((rd_T46 x0 x5).f0) ((rd_T46 x0 x5).f1) ((rd_T46 x0 x5).f2) ((rd_T46 x1 x5).f0) ((rd_T46 x1 x5).f1) ((rd_T46 x1 x5).f2)).bind fun t377 => (if t377 = true then (laws_eqGateS.l0 k x0 x1 (wrap64 (x5 + 1))) else (some false))) else (none)) else (none)) else (some true)
def laws_eqGateS.f (k : Nat) (l0 l1 : List (S46)) : Option (Bool) := if (l0.length : Int) = (l1.length : Int) then (laws_eqGateS.l0 k l0 l1 0) else (some false)
def laws_eqGateS.T6 : Bool × List (List Nat × List Nat) := (true, [([], []), ([], []), ([0, 1], [0, 1]), ([2], [2]), ([], []), ([], []), ([4, 5], [4, 5]), ([6], [6]), ([3, 7], [3, 7]), ([8], [8])])
def laws_eqGateS.B6 : List Nat := [0, 0, 3, 7, 0, 0, 48, 112, 255, 511]
theorem laws_eqGateS.tab6 : rtab .any (opsOf Try.f34 6) = laws_eqGateS.T6 := by kernel_rfl
theorem laws_eqGateS.bits6 : waitsOk laws_eqGateS.T6.2 laws_eqGateS.B6 = true := by kernel_rfl
set_option maxHeartbeats 8000000 in
set_option maxRecDepth 100000 in
theorem laws_eqGateS.calls (k : Nat) (A0 : Option Addr) (c0 : Nat) (l0 : List (S46)) (A1 : Option Addr) (c1 : Nat) (l1 : List (S46)) (r : Bool) (w : World) (hr0 : Kd.C k46 w A0 l0.length l0) (hc0 : l0.length ≤ c0) (hr1 : Kd.C k46 w A1 l1.length l1) (hc1 : l1.length ≤ c1) (h : laws_eqGateS.f k l0 l1 = some r) :
  Calls Try.prog 34 #[.slice A0 l0.length c0, .slice A1 l1.length c1] w fun e w' => e = .returned (.bool r) ∧ Below w.heap.size w w' := by
 have hu46 := Try.underlying46
 have a0 := Z_ hr0
 have a3 := Z_ hc0
 clear hr0 hc0
 have a1 := Z_ hr1
 have a4 := Z_ hc1
 clear hr1 hc1
 have HB := Z_ (Below.refl w.heap.size w)
 unfold laws_eqGateS.f at h
 have H := h
 clear h
 replace H := iC_ H
 obtain ⟨c3, H⟩ | ⟨c3, H⟩ := H
 rotate_left
 ·have c3b0 : ((l0.length : Int) == (l1.length : Int)) = false := beq_eq_false_iff_ne.mpr c3
  have c3b1 : ((l0.length : Int) != (l1.length : Int)) = true := bne_iff_ne.mpr c3
  have c3b2 : (l0.length == l1.length) = false := by first | simpa using c3 | (simp at c3 ⊢; omega)
  obtain rfl := Option.some.inj H
  go_enter Try.func34, Try.ntmps34
  go_wp2
  go_ret
  exact ⟨Er_, Lb_⟩
 rotate_right
 have c3b0 : ((l0.length : Int) == (l1.length : Int)) = true := beq_iff_eq.mpr c3
 have c3b1 : ((l0.length : Int) != (l1.length : Int)) = false := bne_eq_false_iff_eq.mpr c3
 have c3b2 : (l0.length == l1.length) = true := by first | simpa using c3 | (simp at c3 ⊢; omega)
 clear c3
 have H' := Z_ H
 clear H
 go_enter Try.func34, Try.ntmps34
 go_wp2
 go_loopg [5] k (fun kq v5 w' => ∃ (x5_1 : Int), v5 = .int .i64 x5_1 ∧ Aside0 (laws_eqGateS.l0 kq l0 l1 x5_1 = some r) ∧ Aside0 (kq ≤ k) ∧ Aside0 (Below w.heap.size w w'))
 case atStart => exact ⟨(0), Sr_, H', ⟨Nat.le_refl _⟩, ⟨Lb_⟩⟩
 case round =>
  clear H'
  try clear c1
  try clear p2
  try clear c3
  try clear c3b0
  try clear c3b1
  try clear c3b2
  obtain ⟨x5_1, rfl, HA, HK1, HB⟩ := hrel
  cases gk with
  | zero => exact absurd HA.out (by simp [laws_eqGateS.l0])
  | succ k1 =>
   have H := HA.out
   clear HA
   simp only [laws_eqGateS.l0] at H
   replace H := iD_ H
   obtain ⟨c4b0, H⟩ | ⟨c4b0, H⟩ := H
   rotate_left
   ·obtain rfl := Option.some.inj H
    go_wp2
    go_ret
    exact ⟨Er_, Lb_⟩
   rotate_right
   replace H := iM_ H
   obtain ⟨c5b0, H⟩ := H
   replace H := iM_ H
   obtain ⟨c6b0, H⟩ := H
   replace H := bS_ H
   obtain ⟨t377, A7, H⟩ := H
   replace H := iB_ H
   obtain ⟨rfl, H⟩ | ⟨rfl, H⟩ := H
   rotate_left
   ·obtain rfl := Option.some.inj H
    try go_wp2
    have n0_ := Z_ (lD_ HB.out)
    clear HB
    have HB := n0_
    clear n0_
    have p375 : 0 ≤ (x5_1 : Int) := dA_
    have q375 : x5_1 < (l0.length : Int) := dA_
    obtain ⟨ad375, A375_2, c375_2, e375, hx375_0, hx375_1, hx375_2, hl375_2, hi375_2⟩ := at_T46 a0.out x5_1 p375 q375
    have hw375_2 := hx375_2
    have hw375_1 := hx375_1
    have hw375_0 := hx375_0
    cases e375
    replace hx375_0 := cB_ HB hx375_0
    replace hx375_1 := cB_ HB hx375_1
    replace hx375_2 := cB_ HB hx375_2
    have HR375_2 := Z_ hi375_2
    have HC375_2 := Z_ hl375_2
    clear hi375_2 hl375_2
    replace p375 := eq_true p375
    replace q375 := eq_true q375
    have p376 : 0 ≤ (x5_1 : Int) := dA_
    have q376 : x5_1 < (l1.length : Int) := dA_
    obtain ⟨ad376, A376_2, c376_2, e376, hx376_0, hx376_1, hx376_2, hl376_2, hi376_2⟩ := at_T46 a1.out x5_1 p376 q376
    have hw376_2 := hx376_2
    have hw376_1 := hx376_1
    have hw376_0 := hx376_0
    cases e376
    replace hx376_0 := cB_ HB hx376_0
    replace hx376_1 := cB_ HB hx376_1
    replace hx376_2 := cB_ HB hx376_2
    have HR376_2 := Z_ hi376_2
    have HC376_2 := Z_ hl376_2
    clear hi376_2 hl376_2
    replace p376 := eq_true p376
    replace q376 := eq_true q376
    refine start_ (n := 10) (S := fun w' => w'.cell? (ad375.add ((x5_1).toNat * 3)) = some (.int .i64 ((rd_T46 l0 x5_1).f0)) ∧ w'.cell? ⟨(ad375.add ((x5_1).toNat * 3)).block, (ad375.add ((x5_1).toNat * 3)).off + 1, none⟩ = some (.int .i64 ((rd_T46 l0 x5_1).f1)) ∧ w'.cell? ⟨(ad375.add ((x5_1).toNat * 3)).block, (ad375.add ((x5_1).toNat * 3)).off + 2, none⟩ = some (.slice A375_2 ((rd_T46 l0 x5_1).f2).length c375_2) ∧ w'.cell? (ad376.add ((x5_1).toNat * 3)) = some (.int .i64 ((rd_T46 l1 x5_1).f0)) ∧ w'.cell? ⟨(ad376.add ((x5_1).toNat * 3)).block, (ad376.add ((x5_1).toNat * 3)).off + 1, none⟩ = some (.int .i64 ((rd_T46 l1 x5_1).f1)) ∧ w'.cell? ⟨(ad376.add ((x5_1).toNat * 3)).block, (ad376.add ((x5_1).toNat * 3)).off + 2, none⟩ = some (.slice A376_2 ((rd_T46 l1 x5_1).f2).length c376_2)) (ds := []) #[false, false, false, false, false, false, false, false, false, false] (by kernel_rfl) rfl rfl ⟨(cB_ HB hw375_0), (cB_ HB hw375_1), (cB_ HB hw375_2), (cB_ HB hw376_0), (cB_ HB hw376_1), (cB_ HB hw376_2)⟩ (fun hHeld => ?_); refine with_tabW laws_eqGateS.tab6 laws_eqGateS.bits6 (fun HT_ HW_ => ?_)
    generalize wr.drew = w11 at HB HR375_2 HR376_2 hx375_0 hx375_1 hx375_2 hx376_0 hx376_1 hx376_2 hHeld ⊢
    refine pure_ (i := 0) (N := some 17) (v := ?_) (a' := ?_) #[true, false, false, false, false, false, false, false, false, false] rfl rfl (any_of HT_.out (by kernel_rfl)) (fun _ _ _ h => h) (Or.inl ⟨by rfl, ?_⟩) ?_ ?_
    rotate_left
    ·intro w'
     go_simp
     with_reducible rfl
    rotate_left
    ·simp only [Act.put, lA_, lZ_, lS_, i64_w, i32_w]
     rfl
    refine pure_ (i := 1) (N := some 18) (v := ?_) (a' := ?_) #[true, true, false, false, false, false, false, false, false, false] rfl rfl (any_of HT_.out (by kernel_rfl)) (fun _ _ _ h => h) (Or.inl ⟨by rfl, ?_⟩) ?_ ?_
    rotate_left
    ·intro w'
     go_simp
     with_reducible rfl
    rotate_left
    ·simp only [Act.put, lA_, lZ_, lS_, i64_w, i32_w]
     rfl
    refine pure_ (i := 2) (N := some 19) (v := ?_) (a' := ?_) #[true, true, true, false, false, false, false, false, false, false] rfl rfl (any_of HT_.out (by kernel_rfl)) (fun _ _ _ h => h) (Or.inl ⟨by rfl, ?_⟩) ?_ ?_
    rotate_left
    ·intro w'
     go_simp
     with_reducible rfl
    rotate_left
    ·simp only [Act.put, lA_, lZ_, lS_, i64_w, i32_w]
     rfl
    refine pure_ (i := 4) (N := some 21) (v := ?_) (a' := ?_) #[true, true, true, false, true, false, false, false, false, false] rfl rfl (any_of HT_.out (by kernel_rfl)) (fun _ _ _ h => h) (Or.inl ⟨by rfl, ?_⟩) ?_ ?_
    rotate_left
    ·intro w'
     go_simp
     with_reducible rfl
    rotate_left
    ·simp only [Act.put, lA_, lZ_, lS_, i64_w, i32_w]
     rfl
    refine pure_ (i := 5) (N := some 22) (v := ?_) (a' := ?_) #[true, true, true, false, true, true, false, false, false, false] rfl rfl (any_of HT_.out (by kernel_rfl)) (fun _ _ _ h => h) (Or.inl ⟨by rfl, ?_⟩) ?_ ?_
    rotate_left
    ·intro w'
     go_simp
     with_reducible rfl
    rotate_left
    ·simp only [Act.put, lA_, lZ_, lS_, i64_w, i32_w]
     rfl
    refine pure_ (i := 6) (N := some 23) (v := ?_) (a' := ?_) #[true, true, true, false, true, true, true, false, false, false] rfl rfl (any_of HT_.out (by kernel_rfl)) (fun _ _ _ h => h) (Or.inl ⟨by rfl, ?_⟩) ?_ ?_
    rotate_left
    ·intro w'
     go_simp
     with_reducible rfl
    rotate_left
    ·simp only [Act.put, lA_, lZ_, lS_, i64_w, i32_w]
     rfl
    refine take_ (i := 3) (N := some 20) (v := ?_) (a' := ?_) #[true, true, true, true, true, true, true, false, false, false] rfl rfl (take_ofW HT_.out HW_.out (by kernel_rfl)) (fun _ _ _ h => h) (Or.inl ⟨by rfl, ?_⟩) hHeld ?_ ?_
    rotate_left
    ·rintro w' ⟨s0, s1, s2, s3, s4, s5⟩
     go_simp
     with_reducible rfl
    rotate_left
    ·simp only [Act.put, lA_, lZ_, lS_, i64_w, i32_w]
     rfl
    refine take_ (i := 7) (N := some 24) (v := ?_) (a' := ?_) #[true, true, true, true, true, true, true, true, false, false] rfl rfl (take_ofW HT_.out HW_.out (by kernel_rfl)) (fun _ _ _ h => h) (Or.inl ⟨by rfl, ?_⟩) hHeld ?_ ?_
    rotate_left
    ·rintro w' ⟨s0, s1, s2, s3, s4, s5⟩
     go_simp
     with_reducible rfl
    rotate_left
    ·simp only [Act.put, lA_, lZ_, lS_, i64_w, i32_w]
     rfl
    refine one_ (i := 8) (N := some 25) #[true, true, true, true, true, true, true, true, true, false] rfl rfl (one_of HT_.out (by kernel_rfl)) (by decide) (fun K hK => ?_)
    refine goes_ Try.func53 (by kernel_rfl) rfl #[.agg #[.int .i64 ((rd_T46 l0 x5_1).f0), .int .i64 ((rd_T46 l0 x5_1).f1), .slice A375_2 ((rd_T46 l0 x5_1).f2).length c375_2], .agg #[.int .i64 ((rd_T46 l1 x5_1).f0), .int .i64 ((rd_T46 l1 x5_1).f1), .slice A376_2 ((rd_T46 l1 x5_1).f2).length c376_2]] (by rfl) rfl rfl (by (try simp only [List.map_toArray, List.map_cons, List.map_nil]); first | done | rfl | (simp only [List.length_drop, List.length_take]; rfl)) ?_
    with_reducible refine (laws_eqGate.calls k1 ((rd_T46 l0 x5_1).f0) ((rd_T46 l0 x5_1).f1) _ _ ((rd_T46 l0 x5_1).f2) ((rd_T46 l1 x5_1).f0) ((rd_T46 l1 x5_1).f1) _ _ ((rd_T46 l1 x5_1).f2) false _ ?side1 ?side2 ?side3 ?side4 A7.out).mono ?_
    (case side1 => repeat (first | exact (Kd.C_below HR375_2.out HB.out) | (with_reducible refine Kd.C_alloc ?_ _) | (with_reducible refine Kd.C_drewN ?_ _) | (with_reducible refine Kd.C_drew ?_)))
    (case side2 => exact HC375_2.out)
    (case side3 => repeat (first | exact (Kd.C_below HR376_2.out HB.out) | (with_reducible refine Kd.C_alloc ?_ _) | (with_reducible refine Kd.C_drewN ?_ _) | (with_reducible refine Kd.C_drew ?_)))
    (case side4 => exact HC376_2.out)
    rintro e w12 ⟨rfl, hb⟩
    refine ⟨_, rfl, ?_⟩
    have n0_ := Z_ (lP_ Lb_ hb)
    clear HB
    have HB := n0_
    clear n0_
    (try clear hb)
    (try clear hb2)
    (try clear hk)
    (try clear hi)
    refine hK.out _ _ ⟨(cB_ HB hw375_0), (cB_ HB hw375_1), (cB_ HB hw375_2), (cB_ HB hw376_0), (cB_ HB hw376_1), (cB_ HB hw376_2)⟩ (fun hHeld => ?_)
    clear hK K
    refine norm_ (a' := ?_) ?_ ?_
    rotate_left
    ·show Act.put _ (some 25) _ = _
     simp only [Act.put, lA_, lZ_, lS_, i64_w, i32_w]
     rfl
    refine pure_ (i := 9) (N := some 26) (v := ?_) (a' := ?_) #[true, true, true, true, true, true, true, true, true, true] rfl rfl (any_of HT_.out (by kernel_rfl)) (fun _ _ _ h => h) (Or.inl ⟨by rfl, ?_⟩) ?_ ?_
    rotate_left
    ·intro w'
     go_simp
     with_reducible rfl
    rotate_left
    ·simp only [Act.put, lA_, lZ_, lS_, i64_w, i32_w]
     rfl
    refine done_ (done_of HT_.out (by kernel_rfl)) ?_
    try go_wp2
    go_ret
    exact ⟨Er_, Lb_⟩
   rotate_right
   have H' := Z_ H
   clear H
   try go_wp2
   have n0_ := Z_ (lD_ HB.out)
   clear HB
   have HB := n0_
   clear n0_
   have p375 : 0 ≤ (x5_1 : Int) := dA_
   have q375 : x5_1 < (l0.length : Int) := dA_
   obtain ⟨ad375, A375_2, c375_2, e375, hx375_0, hx375_1, hx375_2, hl375_2, hi375_2⟩ := at_T46 a0.out x5_1 p375 q375
   have hw375_2 := hx375_2
   have hw375_1 := hx375_1
   have hw375_0 := hx375_0
   cases e375
   replace hx375_0 := cB_ HB hx375_0
   replace hx375_1 := cB_ HB hx375_1
   replace hx375_2 := cB_ HB hx375_2
   have HR375_2 := Z_ hi375_2
   have HC375_2 := Z_ hl375_2
   clear hi375_2 hl375_2
   replace p375 := eq_true p375
   replace q375 := eq_true q375
   have p376 : 0 ≤ (x5_1 : Int) := dA_
   have q376 : x5_1 < (l1.length : Int) := dA_
   obtain ⟨ad376, A376_2, c376_2, e376, hx376_0, hx376_1, hx376_2, hl376_2, hi376_2⟩ := at_T46 a1.out x5_1 p376 q376
   have hw376_2 := hx376_2
   have hw376_1 := hx376_1
   have hw376_0 := hx376_0
   cases e376
   replace hx376_0 := cB_ HB hx376_0
   replace hx376_1 := cB_ HB hx376_1
   replace hx376_2 := cB_ HB hx376_2
   have HR376_2 := Z_ hi376_2
   have HC376_2 := Z_ hl376_2
   clear hi376_2 hl376_2
   replace p376 := eq_true p376
   replace q376 := eq_true q376
   refine start_ (n := 10) (S := fun w' => w'.cell? (ad375.add ((x5_1).toNat * 3)) = some (.int .i64 ((rd_T46 l0 x5_1).f0)) ∧ w'.cell? ⟨(ad375.add ((x5_1).toNat * 3)).block, (ad375.add ((x5_1).toNat * 3)).off + 1, none⟩ = some (.int .i64 ((rd_T46 l0 x5_1).f1)) ∧ w'.cell? ⟨(ad375.add ((x5_1).toNat * 3)).block, (ad375.add ((x5_1).toNat * 3)).off + 2, none⟩ = some (.slice A375_2 ((rd_T46 l0 x5_1).f2).length c375_2) ∧ w'.cell? (ad376.add ((x5_1).toNat * 3)) = some (.int .i64 ((rd_T46 l1 x5_1).f0)) ∧ w'.cell? ⟨(ad376.add ((x5_1).toNat * 3)).block, (ad376.add ((x5_1).toNat * 3)).off + 1, none⟩ = some (.int .i64 ((rd_T46 l1 x5_1).f1)) ∧ w'.cell? ⟨(ad376.add ((x5_1).toNat * 3)).block, (ad376.add ((x5_1).toNat * 3)).off + 2, none⟩ = some (.slice A376_2 ((rd_T46 l1 x5_1).f2).length c376_2)) (ds := []) #[false, false, false, false, false, false, false, false, false, false] (by kernel_rfl) rfl rfl ⟨(cB_ HB hw375_0), (cB_ HB hw375_1), (cB_ HB hw375_2), (cB_ HB hw376_0), (cB_ HB hw376_1), (cB_ HB hw376_2)⟩ (fun hHeld => ?_); refine with_tabW laws_eqGateS.tab6 laws_eqGateS.bits6 (fun HT_ HW_ => ?_)
   generalize wr.drew = w9 at HB HR375_2 HR376_2 hx375_0 hx375_1 hx375_2 hx376_0 hx376_1 hx376_2 hHeld ⊢
   refine pure_ (i := 0) (N := some 17) (v := ?_) (a' := ?_) #[true, false, false, false, false, false, false, false, false, false] rfl rfl (any_of HT_.out (by kernel_rfl)) (fun _ _ _ h => h) (Or.inl ⟨by rfl, ?_⟩) ?_ ?_
   rotate_left
   ·intro w'
    go_simp
    with_reducible rfl
   rotate_left
   ·simp only [Act.put, lA_, lZ_, lS_, i64_w, i32_w]
    rfl
   refine pure_ (i := 1) (N := some 18) (v := ?_) (a' := ?_) #[true, true, false, false, false, false, false, false, false, false] rfl rfl (any_of HT_.out (by kernel_rfl)) (fun _ _ _ h => h) (Or.inl ⟨by rfl, ?_⟩) ?_ ?_
   rotate_left
   ·intro w'
    go_simp
    with_reducible rfl
   rotate_left
   ·simp only [Act.put, lA_, lZ_, lS_, i64_w, i32_w]
    rfl
   refine pure_ (i := 2) (N := some 19) (v := ?_) (a' := ?_) #[true, true, true, false, false, false, false, false, false, false] rfl rfl (any_of HT_.out (by kernel_rfl)) (fun _ _ _ h => h) (Or.inl ⟨by rfl, ?_⟩) ?_ ?_
   rotate_left
   ·intro w'
    go_simp
    with_reducible rfl
   rotate_left
   ·simp only [Act.put, lA_, lZ_, lS_, i64_w, i32_w]
    rfl
   refine pure_ (i := 4) (N := some 21) (v := ?_) (a' := ?_) #[true, true, true, false, true, false, false, false, false, false] rfl rfl (any_of HT_.out (by kernel_rfl)) (fun _ _ _ h => h) (Or.inl ⟨by rfl, ?_⟩) ?_ ?_
   rotate_left
   ·intro w'
    go_simp
    with_reducible rfl
   rotate_left
   ·simp only [Act.put, lA_, lZ_, lS_, i64_w, i32_w]
    rfl
   refine pure_ (i := 5) (N := some 22) (v := ?_) (a' := ?_) #[true, true, true, false, true, true, false, false, false, false] rfl rfl (any_of HT_.out (by kernel_rfl)) (fun _ _ _ h => h) (Or.inl ⟨by rfl, ?_⟩) ?_ ?_
   rotate_left
   ·intro w'
    go_simp
    with_reducible rfl
   rotate_left
   ·simp only [Act.put, lA_, lZ_, lS_, i64_w, i32_w]
    rfl
   refine pure_ (i := 6) (N := some 23) (v := ?_) (a' := ?_) #[true, true, true, false, true, true, true, false, false, false] rfl rfl (any_of HT_.out (by kernel_rfl)) (fun _ _ _ h => h) (Or.inl ⟨by rfl, ?_⟩) ?_ ?_
   rotate_left
   ·intro w'
    go_simp
    with_reducible rfl
   rotate_left
   ·simp only [Act.put, lA_, lZ_, lS_, i64_w, i32_w]
    rfl
   refine take_ (i := 3) (N := some 20) (v := ?_) (a' := ?_) #[true, true, true, true, true, true, true, false, false, false] rfl rfl (take_ofW HT_.out HW_.out (by kernel_rfl)) (fun _ _ _ h => h) (Or.inl ⟨by rfl, ?_⟩) hHeld ?_ ?_
   rotate_left
   ·rintro w' ⟨s0, s1, s2, s3, s4, s5⟩
    go_simp
    with_reducible rfl
   rotate_left
   ·simp only [Act.put, lA_, lZ_, lS_, i64_w, i32_w]
    rfl
   refine take_ (i := 7) (N := some 24) (v := ?_) (a' := ?_) #[true, true, true, true, true, true, true, true, false, false] rfl rfl (take_ofW HT_.out HW_.out (by kernel_rfl)) (fun _ _ _ h => h) (Or.inl ⟨by rfl, ?_⟩) hHeld ?_ ?_
   rotate_left
   ·rintro w' ⟨s0, s1, s2, s3, s4, s5⟩
    go_simp
    with_reducible rfl
   rotate_left
   ·simp only [Act.put, lA_, lZ_, lS_, i64_w, i32_w]
    rfl
   refine one_ (i := 8) (N := some 25) #[true, true, true, true, true, true, true, true, true, false] rfl rfl (one_of HT_.out (by kernel_rfl)) (by decide) (fun K hK => ?_)
   refine goes_ Try.func53 (by kernel_rfl) rfl #[.agg #[.int .i64 ((rd_T46 l0 x5_1).f0), .int .i64 ((rd_T46 l0 x5_1).f1), .slice A375_2 ((rd_T46 l0 x5_1).f2).length c375_2], .agg #[.int .i64 ((rd_T46 l1 x5_1).f0), .int .i64 ((rd_T46 l1 x5_1).f1), .slice A376_2 ((rd_T46 l1 x5_1).f2).length c376_2]] (by rfl) rfl rfl (by (try simp only [List.map_toArray, List.map_cons, List.map_nil]); first | done | rfl | (simp only [List.length_drop, List.length_take]; rfl)) ?_
   with_reducible refine (laws_eqGate.calls k1 ((rd_T46 l0 x5_1).f0) ((rd_T46 l0 x5_1).f1) _ _ ((rd_T46 l0 x5_1).f2) ((rd_T46 l1 x5_1).f0) ((rd_T46 l1 x5_1).f1) _ _ ((rd_T46 l1 x5_1).f2) true _ ?side1 ?side2 ?side3 ?side4 A7.out).mono ?_
   (case side1 => repeat (first | exact (Kd.C_below HR375_2.out HB.out) | (with_reducible refine Kd.C_alloc ?_ _) | (with_reducible refine Kd.C_drewN ?_ _) | (with_reducible refine Kd.C_drew ?_)))
   (case side2 => exact HC375_2.out)
   (case side3 => repeat (first | exact (Kd.C_below HR376_2.out HB.out) | (with_reducible refine Kd.C_alloc ?_ _) | (with_reducible refine Kd.C_drewN ?_ _) | (with_reducible refine Kd.C_drew ?_)))
   (case side4 => exact HC376_2.out)
   rintro e w10 ⟨rfl, hb⟩
   refine ⟨_, rfl, ?_⟩
   have n0_ := Z_ (lP_ Lb_ hb)
   clear HB
   have HB := n0_
   clear n0_
   (try clear hb)
   (try clear hb2)
   (try clear hk)
   (try clear hi)
   refine hK.out _ _ ⟨(cB_ HB hw375_0), (cB_ HB hw375_1), (cB_ HB hw375_2), (cB_ HB hw376_0), (cB_ HB hw376_1), (cB_ HB hw376_2)⟩ (fun hHeld => ?_)
   clear hK K
   refine norm_ (a' := ?_) ?_ ?_
   rotate_left
   ·show Act.put _ (some 25) _ = _
    simp only [Act.put, lA_, lZ_, lS_, i64_w, i32_w]
    rfl
   refine pure_ (i := 9) (N := some 26) (v := ?_) (a' := ?_) #[true, true, true, true, true, true, true, true, true, true] rfl rfl (any_of HT_.out (by kernel_rfl)) (fun _ _ _ h => h) (Or.inl ⟨by rfl, ?_⟩) ?_ ?_
   rotate_left
   ·intro w'
    go_simp
    with_reducible rfl
   rotate_left
   ·simp only [Act.put, lA_, lZ_, lS_, i64_w, i32_w]
    rfl
   refine done_ (done_of HT_.out (by kernel_rfl)) ?_
   try go_wp2
   go_roundg k1
   case measure => have := HK1.out; omega
   case rel => exact ⟨(wrap64 (x5_1 + 1)), Sr_, H', ⟨by have := HK1.out; omega⟩, ⟨Lb_⟩⟩
def laws_eqInt64S.l0 : Nat → List Int → List Int → Int → Option (Bool)
 | 0, _, _, _ => none
 | k + 1, x0, x1, x5 => if x5 < (x0.length : Int) then (if 0 ≤ x5 then (if x5 < (x1.length : Int) then (if (rd x0 x5) = (rd x1 x5) then (laws_eqInt64S.l0 k x0 x1 (wrap64 (x5 + 1))) else (some false)) else (none)) else (none)) else (some true)
def laws_eqInt64S.f (k : Nat) (l0 l1 : List Int) : Option (Bool) := if (l0.length : Int) = (l1.length : Int) then (laws_eqInt64S.l0 k l0 l1 0) else (some false)
set_option maxHeartbeats 8000000 in
set_option maxRecDepth 100000 in
theorem laws_eqInt64S.calls (k : Nat) (A0 : Option Addr) (c0 : Nat) (l0 : List Int) (A1 : Option Addr) (c1 : Nat) (l1 : List Int) (r : Bool) (w : World) (hr0 : Kd.C (Kd.int .i64) w A0 l0.length l0) (hc0 : l0.length ≤ c0) (hr1 : Kd.C (Kd.int .i64) w A1 l1.length l1) (hc1 : l1.length ≤ c1) (h : laws_eqInt64S.f k l0 l1 = some r) :
  Calls Try.prog 35 #[.slice A0 l0.length c0, .slice A1 l1.length c1] w fun e w' => e = .returned (.bool r) ∧ Drawn0 w w' := by
 have a0 := Z_ hr0
 have a2 := Z_ hc0
 clear hr0 hc0
 have a1 := Z_ hr1
 have a3 := Z_ hc1
 clear hr1 hc1
 unfold laws_eqInt64S.f at h
 have H := h
 clear h
 replace H := iC_ H
 obtain ⟨c3, H⟩ | ⟨c3, H⟩ := H
 rotate_left
 ·have c3b0 : ((l0.length : Int) == (l1.length : Int)) = false := beq_eq_false_iff_ne.mpr c3
  have c3b1 : ((l0.length : Int) != (l1.length : Int)) = true := bne_iff_ne.mpr c3
  have c3b2 : (l0.length == l1.length) = false := by first | simpa using c3 | (simp at c3 ⊢; omega)
  obtain rfl := Option.some.inj H
  go_enter Try.func35, Try.ntmps35
  go_wp2
  repeat (go_quiet (fail); try go_wp2)
  go_ret
  exact ⟨by first | rfl | (simp; done) | (simp [*]; done), by repeat (first | exact Drawn0.refl _ | apply Drawn0.step)⟩
 rotate_right
 have c3b0 : ((l0.length : Int) == (l1.length : Int)) = true := beq_iff_eq.mpr c3
 have c3b1 : ((l0.length : Int) != (l1.length : Int)) = false := bne_eq_false_iff_eq.mpr c3
 have c3b2 : (l0.length == l1.length) = true := by first | simpa using c3 | (simp at c3 ⊢; omega)
 clear c3
 have H' := Z_ H
 clear H
 go_enter Try.func35, Try.ntmps35
 go_wp2
 repeat (go_quiet (fail); try go_wp2)
 go_loopg [5] k (fun kq v5 w' => ∃ (x5_1 : Int), v5 = .int .i64 x5_1 ∧ Aside0 (laws_eqInt64S.l0 kq l0 l1 x5_1 = some r) ∧ Aside0 (kq ≤ k) ∧ Drawn0 w w')
 case atStart => exact ⟨(0), Sr_, H', ⟨Nat.le_refl _⟩, by repeat (first | exact Drawn0.refl _ | apply Drawn0.step)⟩
 case round =>
  clear H'
  try clear c1
  try clear p2
  try clear c3
  try clear c3b0
  try clear c3b1
  try clear c3b2
  obtain ⟨x5_1, rfl, HA, HK1, ⟨m1, rfl⟩⟩ := hrel
  cases gk with
  | zero => exact absurd HA.out (by simp [laws_eqInt64S.l0])
  | succ k1 =>
   have H := HA.out
   clear HA
   simp only [laws_eqInt64S.l0] at H
   replace H := iD_ H
   obtain ⟨c4b0, H⟩ | ⟨c4b0, H⟩ := H
   rotate_left
   ·obtain rfl := Option.some.inj H
    go_wp2
    repeat (go_quiet (fail); try go_wp2)
    go_ret
    exact ⟨by first | rfl | (simp; done) | (simp [*]; done), by repeat (first | exact Drawn0.refl _ | apply Drawn0.step)⟩
   rotate_right
   replace H := iM_ H
   obtain ⟨c5b0, H⟩ := H
   replace H := iM_ H
   obtain ⟨c6b0, H⟩ := H
   replace H := iE_ H
   obtain ⟨c7b0, c7b1, H⟩ | ⟨c7b0, c7b1, H⟩ := H
   rotate_left
   ·obtain rfl := Option.some.inj H
    have p378 : 0 ≤ (x5_1 : Int) := dA_
    have q378 : x5_1 < (l0.length : Int) := dA_
    obtain ⟨ad378, e378, hx378_0⟩ := Kd.at_int a0.out x5_1 p378 q378
    cases e378
    replace p378 := eq_true p378
    replace q378 := eq_true q378
    have p379 : 0 ≤ (x5_1 : Int) := dA_
    have q379 : x5_1 < (l1.length : Int) := dA_
    obtain ⟨ad379, e379, hx379_0⟩ := Kd.at_int a1.out x5_1 p379 q379
    cases e379
    replace p379 := eq_true p379
    replace q379 := eq_true q379
    go_wp2
    repeat (go_quiet (fail); try go_wp2)
    go_ret
    exact ⟨by first | rfl | (simp; done) | (simp [*]; done), by repeat (first | exact Drawn0.refl _ | apply Drawn0.step)⟩
   rotate_right
   have H' := Z_ H
   clear H
   have p378 : 0 ≤ (x5_1 : Int) := dA_
   have q378 : x5_1 < (l0.length : Int) := dA_
   obtain ⟨ad378, e378, hx378_0⟩ := Kd.at_int a0.out x5_1 p378 q378
   cases e378
   replace p378 := eq_true p378
   replace q378 := eq_true q378
   have p379 : 0 ≤ (x5_1 : Int) := dA_
   have q379 : x5_1 < (l1.length : Int) := dA_
   obtain ⟨ad379, e379, hx379_0⟩ := Kd.at_int a1.out x5_1 p379 q379
   cases e379
   replace p379 := eq_true p379
   replace q379 := eq_true q379
   go_wp2
   repeat (go_quiet (fail); try go_wp2)
   go_roundg k1
   case measure => have := HK1.out; omega
   case rel => exact ⟨(wrap64 (x5_1 + 1)), Sr_, H', ⟨by have := HK1.out; omega⟩, by repeat (first | exact Drawn0.refl _ | apply Drawn0.step)⟩
def laws_eqGiven.f (a0_0 a0_1 a0_2 a0_3 a1_0 a1_1 a1_2 a1_3 : Int) : Option (Bool) := if a0_0 = a1_0 then (if a0_1 = a1_1 then (if a0_2 = a1_2 then (if a0_3 = a1_3 then (some true) else (some false)) else (some false)) else (some false)) else (some false)
set_option maxHeartbeats 8000000 in
set_option maxRecDepth 100000 in
theorem laws_eqGiven.calls (a0_0 a0_1 a0_2 a0_3 a1_0 a1_1 a1_2 a1_3 : Int) (r : Bool) (w : World) (h : laws_eqGiven.f a0_0 a0_1 a0_2 a0_3 a1_0 a1_1 a1_2 a1_3 = some r) :
  Calls Try.prog 54 #[.agg #[.int .i64 a0_0, .int .i64 a0_1, .int .i64 a0_2, .int .i64 a0_3], .agg #[.int .i64 a1_0, .int .i64 a1_1, .int .i64 a1_2, .int .i64 a1_3]] w fun e w' => e = .returned (.bool r) ∧ Below w.heap.size w w' := by
 have hu59 := Try.underlying59
 have HB := Z_ (Below.refl w.heap.size w)
 unfold laws_eqGiven.f at h
 have H := h
 clear h
 replace H := iE_ H
 obtain ⟨c3b0, c3b1, H⟩ | ⟨c3b0, c3b1, H⟩ := H
 replace H := iE_ H
 obtain ⟨c4b0, c4b1, H⟩ | ⟨c4b0, c4b1, H⟩ := H
 replace H := iE_ H
 obtain ⟨c5b0, c5b1, H⟩ | ⟨c5b0, c5b1, H⟩ := H
 replace H := iE_ H
 obtain ⟨c6b0, c6b1, H⟩ | ⟨c6b0, c6b1, H⟩ := H
 all_goals
  obtain rfl := Option.some.inj H
  go_enter Try.func54, Try.ntmps54
  go_wp2_with (first | ((with_reducible refine gD_ 2 rfl ?_); refine bx_ #[.int .i64 a0_0, .int .i64 a0_1, .int .i64 a0_2, .int .i64 a0_3] 59 ?_; intro a3 hg w12 hbox hb; have a0 := Z_ hbox; have a5 := Z_ ((by rw [hg]; exact (below_size Lb_) : w.heap.size ≤ a3)); replace HB := Z_ (lP_ Lb_ hb); clear hb hbox hg) | ((with_reducible refine gD_ 3 rfl ?_); refine bx_ #[.int .i64 a1_0, .int .i64 a1_1, .int .i64 a1_2, .int .i64 a1_3] 59 ?_; intro a4 hg w13 hbox hb; have a6 := Z_ hbox; have a7 := Z_ ((by rw [hg]; exact (below_size HB.out) : w.heap.size ≤ a4)); replace HB := Z_ (lP_ HB.out hb); have a1 := Z_ ((by rw [hg]; exact Nat.ne_of_lt (blk_lt a0.out) : a3 ≠ a4)); replace a0 := Z_ (bB_ a0.out hb); have a2 := Z_ a1.out.symm; clear hb hbox hg; have a8 := a1.out; have a9 := a2.out; obtain ⟨_, _, _, _, _, _, _, _⟩ := bc4 a0.out; obtain ⟨_, _, _, _, _, _, _, _⟩ := bc4 a6.out))
  go_ret
  exact ⟨Er_, Lb_⟩
def laws_eqGivenS.l0 : Nat → List (S59) → List (S59) → Int → Option (Bool)
 | 0, _, _, _ => none
 | k + 1, x0, x1, x5 => if x5 < (x0.length : Int) then (if 0 ≤ x5 then (if x5 < (x1.length : Int) then ((laws_eqGiven.f ((rd_T59 x0 x5).f0) ((rd_T59 x0 x5).f1) ((rd_T59 x0 x5).f2) ((rd_T59 x0 x5).f3) ((rd_T59 x1 x5).f0) ((rd_T59 x1 x5).f1) ((rd_T59 x1 x5).f2) ((rd_T59 x1 x5).f3)).bind fun t384 => (if t384 = true then (laws_eqGivenS.l0 k x0 x1 (wrap64 (x5 + 1))) else (some false))) else (none)) else (none)) else (some true)
def laws_eqGivenS.f (k : Nat) (l0 l1 : List (S59)) : Option (Bool) := if (l0.length : Int) = (l1.length : Int) then (laws_eqGivenS.l0 k l0 l1 0) else (some false)
def laws_eqGivenS.T6 : Bool × List (List Nat × List Nat) := (true, [([], []), ([], []), ([0, 1], [0, 1]), ([2], [2]), ([], []), ([], []), ([4, 5], [4, 5]), ([6], [6]), ([3, 7], [3, 7]), ([8], [8])])
def laws_eqGivenS.B6 : List Nat := [0, 0, 3, 7, 0, 0, 48, 112, 255, 511]
theorem laws_eqGivenS.tab6 : rtab .any (opsOf Try.f36 6) = laws_eqGivenS.T6 := by kernel_rfl
theorem laws_eqGivenS.bits6 : waitsOk laws_eqGivenS.T6.2 laws_eqGivenS.B6 = true := by kernel_rfl
set_option maxHeartbeats 8000000 in
set_option maxRecDepth 100000 in
theorem laws_eqGivenS.calls (k : Nat) (A0 : Option Addr) (c0 : Nat) (l0 : List (S59)) (A1 : Option Addr) (c1 : Nat) (l1 : List (S59)) (r : Bool) (w : World) (hr0 : Kd.C k59 w A0 l0.length l0) (hc0 : l0.length ≤ c0) (hr1 : Kd.C k59 w A1 l1.length l1) (hc1 : l1.length ≤ c1) (h : laws_eqGivenS.f k l0 l1 = some r) :
  Calls Try.prog 36 #[.slice A0 l0.length c0, .slice A1 l1.length c1] w fun e w' => e = .returned (.bool r) ∧ Below w.heap.size w w' := by
 have hu59 := Try.underlying59
 have a0 := Z_ hr0
 have a3 := Z_ hc0
 clear hr0 hc0
 have a1 := Z_ hr1
 have a4 := Z_ hc1
 clear hr1 hc1
 have HB := Z_ (Below.refl w.heap.size w)
 unfold laws_eqGivenS.f at h
 have H := h
 clear h
 replace H := iC_ H
 obtain ⟨c3, H⟩ | ⟨c3, H⟩ := H
 rotate_left
 ·have c3b0 : ((l0.length : Int) == (l1.length : Int)) = false := beq_eq_false_iff_ne.mpr c3
  have c3b1 : ((l0.length : Int) != (l1.length : Int)) = true := bne_iff_ne.mpr c3
  have c3b2 : (l0.length == l1.length) = false := by first | simpa using c3 | (simp at c3 ⊢; omega)
  obtain rfl := Option.some.inj H
  go_enter Try.func36, Try.ntmps36
  go_wp2
  go_ret
  exact ⟨Er_, Lb_⟩
 rotate_right
 have c3b0 : ((l0.length : Int) == (l1.length : Int)) = true := beq_iff_eq.mpr c3
 have c3b1 : ((l0.length : Int) != (l1.length : Int)) = false := bne_eq_false_iff_eq.mpr c3
 have c3b2 : (l0.length == l1.length) = true := by first | simpa using c3 | (simp at c3 ⊢; omega)
 clear c3
 have H' := Z_ H
 clear H
 go_enter Try.func36, Try.ntmps36
 go_wp2
 go_loopg [5] k (fun kq v5 w' => ∃ (x5_1 : Int), v5 = .int .i64 x5_1 ∧ Aside0 (laws_eqGivenS.l0 kq l0 l1 x5_1 = some r) ∧ Aside0 (kq ≤ k) ∧ Aside0 (Below w.heap.size w w'))
 case atStart => exact ⟨(0), Sr_, H', ⟨Nat.le_refl _⟩, ⟨Lb_⟩⟩
 case round =>
  clear H'
  try clear c1
  try clear p2
  try clear c3
  try clear c3b0
  try clear c3b1
  try clear c3b2
  obtain ⟨x5_1, rfl, HA, HK1, HB⟩ := hrel
  cases gk with
  | zero => exact absurd HA.out (by simp [laws_eqGivenS.l0])
  | succ k1 =>
   have H := HA.out
   clear HA
   simp only [laws_eqGivenS.l0] at H
   replace H := iD_ H
   obtain ⟨c4b0, H⟩ | ⟨c4b0, H⟩ := H
   rotate_left
   ·obtain rfl := Option.some.inj H
    go_wp2
    go_ret
    exact ⟨Er_, Lb_⟩
   rotate_right
   replace H := iM_ H
   obtain ⟨c5b0, H⟩ := H
   replace H := iM_ H
   obtain ⟨c6b0, H⟩ := H
   replace H := bS_ H
   obtain ⟨t384, A7, H⟩ := H
   replace H := iB_ H
   obtain ⟨rfl, H⟩ | ⟨rfl, H⟩ := H
   rotate_left
   ·obtain rfl := Option.some.inj H
    try go_wp2
    have n0_ := Z_ (lD_ HB.out)
    clear HB
    have HB := n0_
    clear n0_
    have p382 : 0 ≤ (x5_1 : Int) := dA_
    have q382 : x5_1 < (l0.length : Int) := dA_
    obtain ⟨ad382, e382, hx382_0, hx382_1, hx382_2, hx382_3⟩ := at_T59 a0.out x5_1 p382 q382
    have hw382_3 := hx382_3
    have hw382_2 := hx382_2
    have hw382_1 := hx382_1
    have hw382_0 := hx382_0
    cases e382
    replace hx382_0 := cB_ HB hx382_0
    replace hx382_1 := cB_ HB hx382_1
    replace hx382_2 := cB_ HB hx382_2
    replace hx382_3 := cB_ HB hx382_3
    replace p382 := eq_true p382
    replace q382 := eq_true q382
    have p383 : 0 ≤ (x5_1 : Int) := dA_
    have q383 : x5_1 < (l1.length : Int) := dA_
    obtain ⟨ad383, e383, hx383_0, hx383_1, hx383_2, hx383_3⟩ := at_T59 a1.out x5_1 p383 q383
    have hw383_3 := hx383_3
    have hw383_2 := hx383_2
    have hw383_1 := hx383_1
    have hw383_0 := hx383_0
    cases e383
    replace hx383_0 := cB_ HB hx383_0
    replace hx383_1 := cB_ HB hx383_1
    replace hx383_2 := cB_ HB hx383_2
    replace hx383_3 := cB_ HB hx383_3
    replace p383 := eq_true p383
    replace q383 := eq_true q383
    refine start_ (n := 10) (S := fun w' => w'.cell? (ad382.add ((x5_1).toNat * 4)) = some (.int .i64 ((rd_T59 l0 x5_1).f0)) ∧ w'.cell? ⟨(ad382.add ((x5_1).toNat * 4)).block, (ad382.add ((x5_1).toNat * 4)).off + 1, none⟩ = some (.int .i64 ((rd_T59 l0 x5_1).f1)) ∧ w'.cell? ⟨(ad382.add ((x5_1).toNat * 4)).block, (ad382.add ((x5_1).toNat * 4)).off + 2, none⟩ = some (.int .i64 ((rd_T59 l0 x5_1).f2)) ∧ w'.cell? ⟨(ad382.add ((x5_1).toNat * 4)).block, (ad382.add ((x5_1).toNat * 4)).off + 3, none⟩ = some (.int .i64 ((rd_T59 l0 x5_1).f3)) ∧ w'.cell? (ad383.add ((x5_1).toNat * 4)) = some (.int .i64 ((rd_T59 l1 x5_1).f0)) ∧ w'.cell? ⟨(ad383.add ((x5_1).toNat * 4)).block, (ad383.add ((x5_1).toNat * 4)).off + 1, none⟩ = some (.int .i64 ((rd_T59 l1 x5_1).f1)) ∧ w'.cell? ⟨(ad383.add ((x5_1).toNat * 4)).block, (ad383.add ((x5_1).toNat * 4)).off + 2, none⟩ = some (.int .i64 ((rd_T59 l1 x5_1).f2)) ∧ w'.cell? ⟨(ad383.add ((x5_1).toNat * 4)).block, (ad383.add ((x5_1).toNat * 4)).off + 3, none⟩ = some (.int .i64 ((rd_T59 l1 x5_1).f3))) (ds := []) #[false, false, false, false, false, false, false, false, false, false] (by kernel_rfl) rfl rfl ⟨(cB_ HB hw382_0), (cB_ HB hw382_1), (cB_ HB hw382_2), (cB_ HB hw382_3), (cB_ HB hw383_0), (cB_ HB hw383_1), (cB_ HB hw383_2), (cB_ HB hw383_3)⟩ (fun hHeld => ?_); refine with_tabW laws_eqGivenS.tab6 laws_eqGivenS.bits6 (fun HT_ HW_ => ?_)
    generalize wr.drew = w11 at HB hx382_0 hx382_1 hx382_2 hx382_3 hx383_0 hx383_1 hx383_2 hx383_3 hHeld ⊢
    refine pure_ (i := 0) (N := some 17) (v := ?_) (a' := ?_) #[true, false, false, false, false, false, false, false, false, false] rfl rfl (any_of HT_.out (by kernel_rfl)) (fun _ _ _ h => h) (Or.inl ⟨by rfl, ?_⟩) ?_ ?_
    rotate_left
    ·intro w'
     go_simp
     with_reducible rfl
    rotate_left
    ·simp only [Act.put, lA_, lZ_, lS_, i64_w, i32_w]
     rfl
    refine pure_ (i := 1) (N := some 18) (v := ?_) (a' := ?_) #[true, true, false, false, false, false, false, false, false, false] rfl rfl (any_of HT_.out (by kernel_rfl)) (fun _ _ _ h => h) (Or.inl ⟨by rfl, ?_⟩) ?_ ?_
    rotate_left
    ·intro w'
     go_simp
     with_reducible rfl
    rotate_left
    ·simp only [Act.put, lA_, lZ_, lS_, i64_w, i32_w]
     rfl
    refine pure_ (i := 2) (N := some 19) (v := ?_) (a' := ?_) #[true, true, true, false, false, false, false, false, false, false] rfl rfl (any_of HT_.out (by kernel_rfl)) (fun _ _ _ h => h) (Or.inl ⟨by rfl, ?_⟩) ?_ ?_
    rotate_left
    ·intro w'
     go_simp
     with_reducible rfl
    rotate_left
    ·simp only [Act.put, lA_, lZ_, lS_, i64_w, i32_w]
     rfl
    refine pure_ (i := 4) (N := some 21) (v := ?_) (a' := ?_) #[true, true, true, false, true, false, false, false, false, false] rfl rfl (any_of HT_.out (by kernel_rfl)) (fun _ _ _ h => h) (Or.inl ⟨by rfl, ?_⟩) ?_ ?_
    rotate_left
    ·intro w'
     go_simp
     with_reducible rfl
    rotate_left
    ·simp only [Act.put, lA_, lZ_, lS_, i64_w, i32_w]
     rfl
    refine pure_ (i := 5) (N := some 22) (v := ?_) (a' := ?_) #[true, true, true, false, true, true, false, false, false, false] rfl rfl (any_of HT_.out (by kernel_rfl)) (fun _ _ _ h => h) (Or.inl ⟨by rfl, ?_⟩) ?_ ?_
    rotate_left
    ·intro w'
     go_simp
     with_reducible rfl
    rotate_left
    ·simp only [Act.put, lA_, lZ_, lS_, i64_w, i32_w]
     rfl
    refine pure_ (i := 6) (N := some 23) (v := ?_) (a' := ?_) #[true, true, true, false, true, true, true, false, false, false] rfl rfl (any_of HT_.out (by kernel_rfl)) (fun _ _ _ h => h) (Or.inl ⟨by rfl, ?_⟩) ?_ ?_
    rotate_left
    ·intro w'
     go_simp
     with_reducible rfl
    rotate_left
    ·simp only [Act.put, lA_, lZ_, lS_, i64_w, i32_w]
     rfl
    refine take_ (i := 3) (N := some 20) (v := ?_) (a' := ?_) #[true, true, true, true, true, true, true, false, false, false] rfl rfl (take_ofW HT_.out HW_.out (by kernel_rfl)) (fun _ _ _ h => h) (Or.inl ⟨by rfl, ?_⟩) hHeld ?_ ?_
    rotate_left
    ·rintro w' ⟨s0, s1, s2, s3, s4, s5, s6, s7⟩
     go_simp
     with_reducible rfl
    rotate_left
    ·simp only [Act.put, lA_, lZ_, lS_, i64_w, i32_w]
     rfl
    refine take_ (i := 7) (N := some 24) (v := ?_) (a' := ?_) #[true, true, true, true, true, true, true, true, false, false] rfl rfl (take_ofW HT_.out HW_.out (by kernel_rfl)) (fun _ _ _ h => h) (Or.inl ⟨by rfl, ?_⟩) hHeld ?_ ?_
    rotate_left
    ·rintro w' ⟨s0, s1, s2, s3, s4, s5, s6, s7⟩
     go_simp
     with_reducible rfl
    rotate_left
    ·simp only [Act.put, lA_, lZ_, lS_, i64_w, i32_w]
     rfl
    refine one_ (i := 8) (N := some 25) #[true, true, true, true, true, true, true, true, true, false] rfl rfl (one_of HT_.out (by kernel_rfl)) (by decide) (fun K hK => ?_)
    refine goes_ Try.func54 (by kernel_rfl) rfl #[.agg #[.int .i64 ((rd_T59 l0 x5_1).f0), .int .i64 ((rd_T59 l0 x5_1).f1), .int .i64 ((rd_T59 l0 x5_1).f2), .int .i64 ((rd_T59 l0 x5_1).f3)], .agg #[.int .i64 ((rd_T59 l1 x5_1).f0), .int .i64 ((rd_T59 l1 x5_1).f1), .int .i64 ((rd_T59 l1 x5_1).f2), .int .i64 ((rd_T59 l1 x5_1).f3)]] (by rfl) rfl rfl (by (try simp only [List.map_toArray, List.map_cons, List.map_nil]); first | done | rfl | (simp only [List.length_drop, List.length_take]; rfl)) ?_
    with_reducible refine (laws_eqGiven.calls ((rd_T59 l0 x5_1).f0) ((rd_T59 l0 x5_1).f1) ((rd_T59 l0 x5_1).f2) ((rd_T59 l0 x5_1).f3) ((rd_T59 l1 x5_1).f0) ((rd_T59 l1 x5_1).f1) ((rd_T59 l1 x5_1).f2) ((rd_T59 l1 x5_1).f3) false _ A7.out).mono ?_
    rintro e w12 ⟨rfl, hb⟩
    refine ⟨_, rfl, ?_⟩
    have n0_ := Z_ (lP_ Lb_ hb)
    clear HB
    have HB := n0_
    clear n0_
    (try clear hb)
    (try clear hb2)
    (try clear hk)
    (try clear hi)
    refine hK.out _ _ ⟨(cB_ HB hw382_0), (cB_ HB hw382_1), (cB_ HB hw382_2), (cB_ HB hw382_3), (cB_ HB hw383_0), (cB_ HB hw383_1), (cB_ HB hw383_2), (cB_ HB hw383_3)⟩ (fun hHeld => ?_)
    clear hK K
    refine norm_ (a' := ?_) ?_ ?_
    rotate_left
    ·show Act.put _ (some 25) _ = _
     simp only [Act.put, lA_, lZ_, lS_, i64_w, i32_w]
     rfl
    refine pure_ (i := 9) (N := some 26) (v := ?_) (a' := ?_) #[true, true, true, true, true, true, true, true, true, true] rfl rfl (any_of HT_.out (by kernel_rfl)) (fun _ _ _ h => h) (Or.inl ⟨by rfl, ?_⟩) ?_ ?_
    rotate_left
    ·intro w'
     go_simp
     with_reducible rfl
    rotate_left
    ·simp only [Act.put, lA_, lZ_, lS_, i64_w, i32_w]
     rfl
    refine done_ (done_of HT_.out (by kernel_rfl)) ?_
    try go_wp2
    go_ret
    exact ⟨Er_, Lb_⟩
   rotate_right
   have H' := Z_ H
   clear H
   try go_wp2
   have n0_ := Z_ (lD_ HB.out)
   clear HB
   have HB := n0_
   clear n0_
   have p382 : 0 ≤ (x5_1 : Int) := dA_
   have q382 : x5_1 < (l0.length : Int) := dA_
   obtain ⟨ad382, e382, hx382_0, hx382_1, hx382_2, hx382_3⟩ := at_T59 a0.out x5_1 p382 q382
   have hw382_3 := hx382_3
   have hw382_2 := hx382_2
   have hw382_1 := hx382_1
   have hw382_0 := hx382_0
   cases e382
   replace hx382_0 := cB_ HB hx382_0
   replace hx382_1 := cB_ HB hx382_1
   replace hx382_2 := cB_ HB hx382_2
   replace hx382_3 := cB_ HB hx382_3
   replace p382 := eq_true p382
   replace q382 := eq_true q382
   have p383 : 0 ≤ (x5_1 : Int) := dA_
   have q383 : x5_1 < (l1.length : Int) := dA_
   obtain ⟨ad383, e383, hx383_0, hx383_1, hx383_2, hx383_3⟩ := at_T59 a1.out x5_1 p383 q383
   have hw383_3 := hx383_3
   have hw383_2 := hx383_2
   have hw383_1 := hx383_1
   have hw383_0 := hx383_0
   cases e383
   replace hx383_0 := cB_ HB hx383_0
   replace hx383_1 := cB_ HB hx383_1
   replace hx383_2 := cB_ HB hx383_2
   replace hx383_3 := cB_ HB hx383_3
   replace p383 := eq_true p383
   replace q383 := eq_true q383
   refine start_ (n := 10) (S := fun w' => w'.cell? (ad382.add ((x5_1).toNat * 4)) = some (.int .i64 ((rd_T59 l0 x5_1).f0)) ∧ w'.cell? ⟨(ad382.add ((x5_1).toNat * 4)).block, (ad382.add ((x5_1).toNat * 4)).off + 1, none⟩ = some (.int .i64 ((rd_T59 l0 x5_1).f1)) ∧ w'.cell? ⟨(ad382.add ((x5_1).toNat * 4)).block, (ad382.add ((x5_1).toNat * 4)).off + 2, none⟩ = some (.int .i64 ((rd_T59 l0 x5_1).f2)) ∧ w'.cell? ⟨(ad382.add ((x5_1).toNat * 4)).block, (ad382.add ((x5_1).toNat * 4)).off + 3, none⟩ = some (.int .i64 ((rd_T59 l0 x5_1).f3)) ∧ w'.cell? (ad383.add ((x5_1).toNat * 4)) = some (.int .i64 ((rd_T59 l1 x5_1).f0)) ∧ w'.cell? ⟨(ad383.add ((x5_1).toNat * 4)).block, (ad383.add ((x5_1).toNat * 4)).off + 1, none⟩ = some (.int .i64 ((rd_T59 l1 x5_1).f1)) ∧ w'.cell? ⟨(ad383.add ((x5_1).toNat * 4)).block, (ad383.add ((x5_1).toNat * 4)).off + 2, none⟩ = some (.int .i64 ((rd_T59 l1 x5_1).f2)) ∧ w'.cell? ⟨(ad383.add ((x5_1).toNat * 4)).block, (ad383.add ((x5_1).toNat * 4)).off + 3, none⟩ = some (.int .i64 ((rd_T59 l1 x5_1).f3))) (ds := []) #[false, false, false, false, false, false, false, false, false, false] (by kernel_rfl) rfl rfl ⟨(cB_ HB hw382_0), (cB_ HB hw382_1), (cB_ HB hw382_2), (cB_ HB hw382_3), (cB_ HB hw383_0), (cB_ HB hw383_1), (cB_ HB hw383_2), (cB_ HB hw383_3)⟩ (fun hHeld => ?_); refine with_tabW laws_eqGivenS.tab6 laws_eqGivenS.bits6 (fun HT_ HW_ => ?_)
   generalize wr.drew = w9 at HB hx382_0 hx382_1 hx382_2 hx382_3 hx383_0 hx383_1 hx383_2 hx383_3 hHeld ⊢
   refine pure_ (i := 0) (N := some 17) (v := ?_) (a' := ?_) #[true, false, false, false, false, false, false, false, false, false] rfl rfl (any_of HT_.out (by kernel_rfl)) (fun _ _ _ h => h) (Or.inl ⟨by rfl, ?_⟩) ?_ ?_
   rotate_left
   ·intro w'
    go_simp
    with_reducible rfl
   rotate_left
   ·simp only [Act.put, lA_, lZ_, lS_, i64_w, i32_w]
    rfl
   refine pure_ (i := 1) (N := some 18) (v := ?_) (a' := ?_) #[true, true, false, false, false, false, false, false, false, false] rfl rfl (any_of HT_.out (by kernel_rfl)) (fun _ _ _ h => h) (Or.inl ⟨by rfl, ?_⟩) ?_ ?_
   rotate_left
   ·intro w'
    go_simp
    with_reducible rfl
   rotate_left
   ·simp only [Act.put, lA_, lZ_, lS_, i64_w, i32_w]
    rfl
   refine pure_ (i := 2) (N := some 19) (v := ?_) (a' := ?_) #[true, true, true, false, false, false, false, false, false, false] rfl rfl (any_of HT_.out (by kernel_rfl)) (fun _ _ _ h => h) (Or.inl ⟨by rfl, ?_⟩) ?_ ?_
   rotate_left
   ·intro w'
    go_simp
    with_reducible rfl
   rotate_left
   ·simp only [Act.put, lA_, lZ_, lS_, i64_w, i32_w]
    rfl
   refine pure_ (i := 4) (N := some 21) (v := ?_) (a' := ?_) #[true, true, true, false, true, false, false, false, false, false] rfl rfl (any_of HT_.out (by kernel_rfl)) (fun _ _ _ h => h) (Or.inl ⟨by rfl, ?_⟩) ?_ ?_
   rotate_left
   ·intro w'
    go_simp
    with_reducible rfl
   rotate_left
   ·simp only [Act.put, lA_, lZ_, lS_, i64_w, i32_w]
    rfl
   refine pure_ (i := 5) (N := some 22) (v := ?_) (a' := ?_) #[true, true, true, false, true, true, false, false, false, false] rfl rfl (any_of HT_.out (by kernel_rfl)) (fun _ _ _ h => h) (Or.inl ⟨by rfl, ?_⟩) ?_ ?_
   rotate_left
   ·intro w'
    go_simp
    with_reducible rfl
   rotate_left
   ·simp only [Act.put, lA_, lZ_, lS_, i64_w, i32_w]
    rfl
   refine pure_ (i := 6) (N := some 23) (v := ?_) (a' := ?_) #[true, true, true, false, true, true, true, false, false, false] rfl rfl (any_of HT_.out (by kernel_rfl)) (fun _ _ _ h => h) (Or.inl ⟨by rfl, ?_⟩) ?_ ?_
   rotate_left
   ·intro w'
    go_simp
    with_reducible rfl
   rotate_left
   ·simp only [Act.put, lA_, lZ_, lS_, i64_w, i32_w]
    rfl
   refine take_ (i := 3) (N := some 20) (v := ?_) (a' := ?_) #[true, true, true, true, true, true, true, false, false, false] rfl rfl (take_ofW HT_.out HW_.out (by kernel_rfl)) (fun _ _ _ h => h) (Or.inl ⟨by rfl, ?_⟩) hHeld ?_ ?_
   rotate_left
   ·rintro w' ⟨s0, s1, s2, s3, s4, s5, s6, s7⟩
    go_simp
    with_reducible rfl
   rotate_left
   ·simp only [Act.put, lA_, lZ_, lS_, i64_w, i32_w]
    rfl
   refine take_ (i := 7) (N := some 24) (v := ?_) (a' := ?_) #[true, true, true, true, true, true, true, true, false, false] rfl rfl (take_ofW HT_.out HW_.out (by kernel_rfl)) (fun _ _ _ h => h) (Or.inl ⟨by rfl, ?_⟩) hHeld ?_ ?_
   rotate_left
   ·rintro w' ⟨s0, s1, s2, s3, s4, s5, s6, s7⟩
    go_simp
    with_reducible rfl
   rotate_left
   ·simp only [Act.put, lA_, lZ_, lS_, i64_w, i32_w]
    rfl
   refine one_ (i := 8) (N := some 25) #[true, true, true, true, true, true, true, true, true, false] rfl rfl (one_of HT_.out (by kernel_rfl)) (by decide) (fun K hK => ?_)
   refine goes_ Try.func54 (by kernel_rfl) rfl #[.agg #[.int .i64 ((rd_T59 l0 x5_1).f0), .int .i64 ((rd_T59 l0 x5_1).f1), .int .i64 ((rd_T59 l0 x5_1).f2), .int .i64 ((rd_T59 l0 x5_1).f3)], .agg #[.int .i64 ((rd_T59 l1 x5_1).f0), .int .i64 ((rd_T59 l1 x5_1).f1), .int .i64 ((rd_T59 l1 x5_1).f2), .int .i64 ((rd_T59 l1 x5_1).f3)]] (by rfl) rfl rfl (by (try simp only [List.map_toArray, List.map_cons, List.map_nil]); first | done | rfl | (simp only [List.length_drop, List.length_take]; rfl)) ?_
   with_reducible refine (laws_eqGiven.calls ((rd_T59 l0 x5_1).f0) ((rd_T59 l0 x5_1).f1) ((rd_T59 l0 x5_1).f2) ((rd_T59 l0 x5_1).f3) ((rd_T59 l1 x5_1).f0) ((rd_T59 l1 x5_1).f1) ((rd_T59 l1 x5_1).f2) ((rd_T59 l1 x5_1).f3) true _ A7.out).mono ?_
   rintro e w10 ⟨rfl, hb⟩
   refine ⟨_, rfl, ?_⟩
   have n0_ := Z_ (lP_ Lb_ hb)
   clear HB
   have HB := n0_
   clear n0_
   (try clear hb)
   (try clear hb2)
   (try clear hk)
   (try clear hi)
   refine hK.out _ _ ⟨(cB_ HB hw382_0), (cB_ HB hw382_1), (cB_ HB hw382_2), (cB_ HB hw382_3), (cB_ HB hw383_0), (cB_ HB hw383_1), (cB_ HB hw383_2), (cB_ HB hw383_3)⟩ (fun hHeld => ?_)
   clear hK K
   refine norm_ (a' := ?_) ?_ ?_
   rotate_left
   ·show Act.put _ (some 25) _ = _
    simp only [Act.put, lA_, lZ_, lS_, i64_w, i32_w]
    rfl
   refine pure_ (i := 9) (N := some 26) (v := ?_) (a' := ?_) #[true, true, true, true, true, true, true, true, true, true] rfl rfl (any_of HT_.out (by kernel_rfl)) (fun _ _ _ h => h) (Or.inl ⟨by rfl, ?_⟩) ?_ ?_
   rotate_left
   ·intro w'
    go_simp
    with_reducible rfl
   rotate_left
   ·simp only [Act.put, lA_, lZ_, lS_, i64_w, i32_w]
    rfl
   refine done_ (done_of HT_.out (by kernel_rfl)) ?_
   try go_wp2
   go_roundg k1
   case measure => have := HK1.out; omega
   case rel => exact ⟨(wrap64 (x5_1 + 1)), Sr_, H', ⟨by have := HK1.out; omega⟩, ⟨Lb_⟩⟩
def laws_eqNet.f (k : Nat) (l0_0 : List (S76)) (l0_1 : List (S46)) (l0_2 l0_3 : List Int) (l0_4 l0_5 : List (S59)) (l1_0 : List (S76)) (l1_1 : List (S46)) (l1_2 l1_3 : List Int) (l1_4 l1_5 : List (S59)) : Option (Bool) := (laws_eqTermS.f k l0_0 l1_0).bind fun t387 => (if t387 = true then ((laws_eqGateS.f k l0_1 l1_1).bind fun t388 => (if t388 = true then ((laws_eqInt64S.f k l0_2 l1_2).bind fun t389 => (if t389 = true then ((laws_eqInt64S.f k l0_3 l1_3).bind fun t390 => (if t390 = true then ((laws_eqGivenS.f k l0_4 l1_4).bind fun t391 => (if t391 = true then ((laws_eqGivenS.f k l0_5 l1_5).bind fun t392 => (if t392 = true then (some true) else (some false))) else (some false))) else (some false))) else (some false))) else (some false))) else (some false))
set_option maxHeartbeats 8000000 in
set_option maxRecDepth 100000 in
theorem laws_eqNet.calls (k : Nat) (A0_0 : Option Addr) (c0_0 : Nat) (l0_0 : List (S76)) (A0_1 : Option Addr) (c0_1 : Nat) (l0_1 : List (S46)) (A0_2 : Option Addr) (c0_2 : Nat) (l0_2 : List Int) (A0_3 : Option Addr) (c0_3 : Nat) (l0_3 : List Int) (A0_4 : Option Addr) (c0_4 : Nat) (l0_4 : List (S59)) (A0_5 : Option Addr) (c0_5 : Nat) (l0_5 : List (S59)) (A1_0 : Option Addr) (c1_0 : Nat) (l1_0 : List (S76)) (A1_1 : Option Addr) (c1_1 : Nat) (l1_1 : List (S46)) (A1_2 : Option Addr) (c1_2 : Nat) (l1_2 : List Int) (A1_3 : Option Addr) (c1_3 : Nat) (l1_3 : List Int) (A1_4 : Option Addr) (c1_4 : Nat) (l1_4 : List (S59)) (A1_5 : Option Addr) (c1_5 : Nat) (l1_5 : List (S59)) (r : Bool) (w : World) (hr0_0 : Kd.C k76 w A0_0 l0_0.length l0_0) (hc0_0 : l0_0.length ≤ c0_0) (hr0_1 : Kd.C k46 w A0_1 l0_1.length l0_1) (hc0_1 : l0_1.length ≤ c0_1) (hr0_2 : Kd.C (Kd.int .i64) w A0_2 l0_2.length l0_2) (hc0_2 : l0_2.length ≤ c0_2) (hr0_3 : Kd.C (Kd.int .i64) w A0_3 l0_3.length l0_3) (hc0_3 : l0_3.length ≤ c0_3) (hr0_4 : Kd.C k59 w A0_4 l0_4.length l0_4) (hc0_4 : l0_4.length ≤ c0_4) (hr0_5 : Kd.C k59 w A0_5 l0_5.length l0_5) (hc0_5 : l0_5.length ≤ c0_5) (hr1_0 : Kd.C k76 w A1_0 l1_0.length l1_0) (hc1_0 : l1_0.length ≤ c1_0) (hr1_1 : Kd.C k46 w A1_1 l1_1.length l1_1) (hc1_1 : l1_1.length ≤ c1_1) (hr1_2 : Kd.C (Kd.int .i64) w A1_2 l1_2.length l1_2) (hc1_2 : l1_2.length ≤ c1_2) (hr1_3 : Kd.C (Kd.int .i64) w A1_3 l1_3.length l1_3) (hc1_3 : l1_3.length ≤ c1_3) (hr1_4 : Kd.C k59 w A1_4 l1_4.length l1_4) (hc1_4 : l1_4.length ≤ c1_4) (hr1_5 : Kd.C k59 w A1_5 l1_5.length l1_5) (hc1_5 : l1_5.length ≤ c1_5) (h : laws_eqNet.f k l0_0 l0_1 l0_2 l0_3 l0_4 l0_5 l1_0 l1_1 l1_2 l1_3 l1_4 l1_5 = some r) :
  Calls Try.prog 8 #[.agg #[.slice A0_0 l0_0.length c0_0, .slice A0_1 l0_1.length c0_1, .slice A0_2 l0_2.length c0_2, .slice A0_3 l0_3.length c0_3, .slice A0_4 l0_4.length c0_4, .slice A0_5 l0_5.length c0_5], .agg #[.slice A1_0 l1_0.length c1_0, .slice A1_1 l1_1.length c1_1, .slice A1_2 l1_2.length c1_2, .slice A1_3 l1_3.length c1_3, .slice A1_4 l1_4.length c1_4, .slice A1_5 l1_5.length c1_5]] w fun e w' => e = .returned (.bool r) ∧ Below w.heap.size w w' := by
 have hu34 := Try.underlying34
 have HR0_0 := Z_ hr0_0
 have HC0_0 := Z_ hc0_0
 clear hr0_0 hc0_0
 have HR0_1 := Z_ hr0_1
 have HC0_1 := Z_ hc0_1
 clear hr0_1 hc0_1
 have HR0_2 := Z_ hr0_2
 have HC0_2 := Z_ hc0_2
 clear hr0_2 hc0_2
 have HR0_3 := Z_ hr0_3
 have HC0_3 := Z_ hc0_3
 clear hr0_3 hc0_3
 have HR0_4 := Z_ hr0_4
 have HC0_4 := Z_ hc0_4
 clear hr0_4 hc0_4
 have HR0_5 := Z_ hr0_5
 have HC0_5 := Z_ hc0_5
 clear hr0_5 hc0_5
 have HR1_0 := Z_ hr1_0
 have HC1_0 := Z_ hc1_0
 clear hr1_0 hc1_0
 have HR1_1 := Z_ hr1_1
 have HC1_1 := Z_ hc1_1
 clear hr1_1 hc1_1
 have HR1_2 := Z_ hr1_2
 have HC1_2 := Z_ hc1_2
 clear hr1_2 hc1_2
 have HR1_3 := Z_ hr1_3
 have HC1_3 := Z_ hc1_3
 clear hr1_3 hc1_3
 have HR1_4 := Z_ hr1_4
 have HC1_4 := Z_ hc1_4
 clear hr1_4 hc1_4
 have HR1_5 := Z_ hr1_5
 have HC1_5 := Z_ hc1_5
 clear hr1_5 hc1_5
 have HB := Z_ (Below.refl w.heap.size w)
 unfold laws_eqNet.f at h
 have H := h
 clear h
 replace H := bS_ H
 obtain ⟨t387, A3, H⟩ := H
 replace H := iB_ H
 obtain ⟨rfl, H⟩ | ⟨rfl, H⟩ := H
 replace H := bS_ H
 obtain ⟨t388, A5, H⟩ := H
 replace H := iB_ H
 obtain ⟨rfl, H⟩ | ⟨rfl, H⟩ := H
 replace H := bS_ H
 obtain ⟨t389, A7, H⟩ := H
 replace H := iB_ H
 obtain ⟨rfl, H⟩ | ⟨rfl, H⟩ := H
 replace H := bS_ H
 obtain ⟨t390, A9, H⟩ := H
 replace H := iB_ H
 obtain ⟨rfl, H⟩ | ⟨rfl, H⟩ := H
 replace H := bS_ H
 obtain ⟨t391, a9, H⟩ := H
 replace H := iB_ H
 obtain ⟨rfl, H⟩ | ⟨rfl, H⟩ := H
 replace H := bS_ H
 obtain ⟨t392, af, H⟩ := H
 replace H := iB_ H
 obtain ⟨rfl, H⟩ | ⟨rfl, H⟩ := H
 all_goals
  obtain rfl := Option.some.inj H
  go_enter Try.func8, Try.ntmps8
  go_wp2_with (first | ((with_reducible refine gD_ 2 rfl ?_); refine bx_ #[.slice A0_0 l0_0.length c0_0, .slice A0_1 l0_1.length c0_1, .slice A0_2 l0_2.length c0_2, .slice A0_3 l0_3.length c0_3, .slice A0_4 l0_4.length c0_4, .slice A0_5 l0_5.length c0_5] 34 ?_; intro a6 hg w30 hbox hb; have a0 := Z_ hbox; have a2 := Z_ ((by rw [hg]; exact (below_size Lb_) : w.heap.size ≤ a6)); replace HB := Z_ (lP_ Lb_ hb); clear hb hbox hg) | ((with_reducible refine gD_ 3 rfl ?_); refine bx_ #[.slice A1_0 l1_0.length c1_0, .slice A1_1 l1_1.length c1_1, .slice A1_2 l1_2.length c1_2, .slice A1_3 l1_3.length c1_3, .slice A1_4 l1_4.length c1_4, .slice A1_5 l1_5.length c1_5] 34 ?_; intro a7 hg w16 hbox hb; have a1 := Z_ hbox; have a3 := Z_ ((by rw [hg]; exact (below_size HB.out) : w.heap.size ≤ a7)); replace HB := Z_ (lP_ HB.out hb); have a4 := Z_ ((by rw [hg]; exact Nat.ne_of_lt (blk_lt a0.out) : a6 ≠ a7)); replace a0 := Z_ (bB_ a0.out hb); have a5 := Z_ a4.out.symm; clear hb hbox hg; have ag := a4.out; have ah := a5.out; obtain ⟨_, _, _, _, _, _, _, _, _, _, _, _⟩ := bc6 a0.out; obtain ⟨_, _, _, _, _, _, _, _, _, _, _, _⟩ := bc6 a1.out) | ((with_reducible refine gate_callee (f := 33) rfl ?_); refine goesA_ (some 9) rfl rfl Try.func33 (by kernel_rfl) rfl #[.slice A0_0 l0_0.length c0_0, .slice A1_0 l1_0.length c1_0] rfl ?_; (with_reducible refine (laws_eqTermS.calls k _ _ l0_0 _ _ l1_0 _ _ ?side1 ?side2 ?side3 ?side4 A3.out).mono ?_); (case side1 => repeat (first | exact (Kd.C_below HR0_0.out HB.out) | (with_reducible refine Kd.C_alloc ?_ _) | (with_reducible refine Kd.C_drewN ?_ _) | (with_reducible refine Kd.C_drew ?_))); (case side2 => exact HC0_0.out); (case side3 => repeat (first | exact (Kd.C_below HR1_0.out HB.out) | (with_reducible refine Kd.C_alloc ?_ _) | (with_reducible refine Kd.C_drewN ?_ _) | (with_reducible refine Kd.C_drew ?_))); (case side4 => exact HC1_0.out); rintro e w20 ⟨rfl, hb⟩; refine ⟨_, rfl, ?_⟩; replace a0 := Z_ (bB_ a0.out hb); replace a1 := Z_ (bB_ a1.out hb); replace HB := Z_ (lP_ HB.out hb); (try clear hb); obtain ⟨_, _, _, _, _, _, _, _, _, _, _, _⟩ := bc6 a0.out; obtain ⟨_, _, _, _, _, _, _, _, _, _, _, _⟩ := bc6 a1.out) | ((with_reducible refine gate_callee (f := 34) rfl ?_); refine goesA_ (some 15) rfl rfl Try.func34 (by kernel_rfl) rfl #[.slice A0_1 l0_1.length c0_1, .slice A1_1 l1_1.length c1_1] rfl ?_; (with_reducible refine (laws_eqGateS.calls k _ _ l0_1 _ _ l1_1 _ _ ?side1 ?side2 ?side3 ?side4 A5.out).mono ?_); (case side1 => repeat (first | exact (Kd.C_below HR0_1.out HB.out) | (with_reducible refine Kd.C_alloc ?_ _) | (with_reducible refine Kd.C_drewN ?_ _) | (with_reducible refine Kd.C_drew ?_))); (case side2 => exact HC0_1.out); (case side3 => repeat (first | exact (Kd.C_below HR1_1.out HB.out) | (with_reducible refine Kd.C_alloc ?_ _) | (with_reducible refine Kd.C_drewN ?_ _) | (with_reducible refine Kd.C_drew ?_))); (case side4 => exact HC1_1.out); rintro e w23 ⟨rfl, hb⟩; refine ⟨_, rfl, ?_⟩; replace a0 := Z_ (bB_ a0.out hb); replace a1 := Z_ (bB_ a1.out hb); replace HB := Z_ (lP_ HB.out hb); (try clear hb); obtain ⟨_, _, _, _, _, _, _, _, _, _, _, _⟩ := bc6 a0.out; obtain ⟨_, _, _, _, _, _, _, _, _, _, _, _⟩ := bc6 a1.out) | ((with_reducible refine gate_callee (f := 35) rfl ?_); refine goesA_ (some 21) rfl rfl Try.func35 (by kernel_rfl) rfl #[.slice A0_2 l0_2.length c0_2, .slice A1_2 l1_2.length c1_2] rfl ?_; (with_reducible refine (laws_eqInt64S.calls k _ _ l0_2 _ _ l1_2 _ _ ?side1 ?side2 ?side3 ?side4 A7.out).mono ?_); (case side1 => repeat (first | exact (Kd.C_below HR0_2.out HB.out) | (with_reducible refine Kd.C_alloc ?_ _) | (with_reducible refine Kd.C_drewN ?_ _) | (with_reducible refine Kd.C_drew ?_))); (case side2 => exact HC0_2.out); (case side3 => repeat (first | exact (Kd.C_below HR1_2.out HB.out) | (with_reducible refine Kd.C_alloc ?_ _) | (with_reducible refine Kd.C_drewN ?_ _) | (with_reducible refine Kd.C_drew ?_))); (case side4 => exact HC1_2.out); rintro e w' ⟨rfl, ⟨nd, rfl⟩⟩; refine ⟨_, rfl, ?_⟩) | ((with_reducible refine gate_callee (f := 35) rfl ?_); refine goesA_ (some 27) rfl rfl Try.func35 (by kernel_rfl) rfl #[.slice A0_3 l0_3.length c0_3, .slice A1_3 l1_3.length c1_3] rfl ?_; (with_reducible refine (laws_eqInt64S.calls k _ _ l0_3 _ _ l1_3 _ _ ?side1 ?side2 ?side3 ?side4 A9.out).mono ?_); (case side1 => repeat (first | exact (Kd.C_below HR0_3.out Lb_) | (with_reducible refine Kd.C_alloc ?_ _) | (with_reducible refine Kd.C_drewN ?_ _) | (with_reducible refine Kd.C_drew ?_))); (case side2 => exact HC0_3.out); (case side3 => repeat (first | exact (Kd.C_below HR1_3.out Lb_) | (with_reducible refine Kd.C_alloc ?_ _) | (with_reducible refine Kd.C_drewN ?_ _) | (with_reducible refine Kd.C_drew ?_))); (case side4 => exact HC1_3.out); rintro e w' ⟨rfl, ⟨nd, rfl⟩⟩; refine ⟨_, rfl, ?_⟩) | ((with_reducible refine gate_callee (f := 36) rfl ?_); refine goesA_ (some 33) rfl rfl Try.func36 (by kernel_rfl) rfl #[.slice A0_4 l0_4.length c0_4, .slice A1_4 l1_4.length c1_4] rfl ?_; (with_reducible refine (laws_eqGivenS.calls k _ _ l0_4 _ _ l1_4 _ _ ?side1 ?side2 ?side3 ?side4 a9.out).mono ?_); (case side1 => repeat (first | exact (Kd.C_below HR0_4.out Lb_) | (with_reducible refine Kd.C_alloc ?_ _) | (with_reducible refine Kd.C_drewN ?_ _) | (with_reducible refine Kd.C_drew ?_))); (case side2 => exact HC0_4.out); (case side3 => repeat (first | exact (Kd.C_below HR1_4.out Lb_) | (with_reducible refine Kd.C_alloc ?_ _) | (with_reducible refine Kd.C_drewN ?_ _) | (with_reducible refine Kd.C_drew ?_))); (case side4 => exact HC1_4.out); rintro e w26 ⟨rfl, hb⟩; refine ⟨_, rfl, ?_⟩; replace a0 := Z_ (bB_ (g := a6) (o := .cells #[.slice A0_0 l0_0.length c0_0, .slice A0_1 l0_1.length c0_1, .slice A0_2 l0_2.length c0_2, .slice A0_3 l0_3.length c0_3, .slice A0_4 l0_4.length c0_4, .slice A0_5 l0_5.length c0_5] 34 (0, 0)) (Bk_ a0) hb); replace a1 := Z_ (bB_ (g := a7) (o := .cells #[.slice A1_0 l1_0.length c1_0, .slice A1_1 l1_1.length c1_1, .slice A1_2 l1_2.length c1_2, .slice A1_3 l1_3.length c1_3, .slice A1_4 l1_4.length c1_4, .slice A1_5 l1_5.length c1_5] 34 (0, 0)) (Bk_ a1) hb); replace HB := Z_ (lP_ Lb_ hb); (try clear hb); obtain ⟨_, _, _, _, _, _, _, _, _, _, _, _⟩ := bc6 a0.out; obtain ⟨_, _, _, _, _, _, _, _, _, _, _, _⟩ := bc6 a1.out) | ((with_reducible refine gate_callee (f := 36) rfl ?_); refine goesA_ (some 39) rfl rfl Try.func36 (by kernel_rfl) rfl #[.slice A0_5 l0_5.length c0_5, .slice A1_5 l1_5.length c1_5] rfl ?_; (with_reducible refine (laws_eqGivenS.calls k _ _ l0_5 _ _ l1_5 _ _ ?side1 ?side2 ?side3 ?side4 af.out).mono ?_); (case side1 => repeat (first | exact (Kd.C_below HR0_5.out HB.out) | (with_reducible refine Kd.C_alloc ?_ _) | (with_reducible refine Kd.C_drewN ?_ _) | (with_reducible refine Kd.C_drew ?_))); (case side2 => exact HC0_5.out); (case side3 => repeat (first | exact (Kd.C_below HR1_5.out HB.out) | (with_reducible refine Kd.C_alloc ?_ _) | (with_reducible refine Kd.C_drewN ?_ _) | (with_reducible refine Kd.C_drew ?_))); (case side4 => exact HC1_5.out); rintro e w29 ⟨rfl, hb⟩; refine ⟨_, rfl, ?_⟩; replace HB := Z_ (lP_ (by repeat (first | (with_reducible first | exact HB.out | refine lS1_ ?_ a2.out | refine lS1_ ?_ a3.out) | exact HB.out)) hb); (try clear hb)))
  go_ret
  exact ⟨Er_, Lb_⟩
def laws_FnExactNetFault.f (k : Nat) (l0_0 : List (S85)) (l0_1 : List (S73)) (l0_2 l0_3 : List Int) (l0_4 l0_5 : List (S88)) : Option (Bool) := (laws_szNet.f k l0_0 l0_1 l0_2 l0_3 l0_4 l0_5 1048576).bind fun t394 => (if t394 < 0 then (some true) else ((laws_toNet.f k l0_0 l0_1 l0_2 l0_3 l0_4 l0_5).bind fun bt395 => ((spec_NetFault.f k bt395.1 bt395.2.1 bt395.2.2.1 bt395.2.2.2.1 bt395.2.2.2.2.1 bt395.2.2.2.2.2).bind fun t413 => ((laws_toNet.f k l0_0 l0_1 l0_2 l0_3 l0_4 l0_5).bind fun bt414 => ((impl_NetFault.f k bt414.1 bt414.2.1 bt414.2.2.1 bt414.2.2.2.1 bt414.2.2.2.2.1 bt414.2.2.2.2.2).bind fun t433 => (if t433 = t413 then ((laws_toNet.f k l0_0 l0_1 l0_2 l0_3 l0_4 l0_5).bind fun bt434 => ((laws_eqNet.f k bt414.1 bt414.2.1 bt414.2.2.1 bt414.2.2.2.1 bt414.2.2.2.2.1 bt414.2.2.2.2.2 bt434.1 bt434.2.1 bt434.2.2.1 bt434.2.2.2.1 bt434.2.2.2.2.1 bt434.2.2.2.2.2).bind fun t452 => (if t452 = true then (some true) else (some false)))) else (some false)))))))
set_option maxHeartbeats 8000000 in
set_option maxRecDepth 100000 in
theorem laws_FnExactNetFault.calls (k : Nat) (A0_0 : Option Addr) (c0_0 : Nat) (l0_0 : List (S85)) (A0_1 : Option Addr) (c0_1 : Nat) (l0_1 : List (S73)) (A0_2 : Option Addr) (c0_2 : Nat) (l0_2 : List Int) (A0_3 : Option Addr) (c0_3 : Nat) (l0_3 : List Int) (A0_4 : Option Addr) (c0_4 : Nat) (l0_4 : List (S88)) (A0_5 : Option Addr) (c0_5 : Nat) (l0_5 : List (S88)) (w : World) (hr0_0 : Kd.C k85 w A0_0 l0_0.length l0_0) (hc0_0 : l0_0.length ≤ c0_0) (hr0_1 : Kd.C k73 w A0_1 l0_1.length l0_1) (hc0_1 : l0_1.length ≤ c0_1) (hr0_2 : Kd.C (Kd.int .i64) w A0_2 l0_2.length l0_2) (hc0_2 : l0_2.length ≤ c0_2) (hr0_3 : Kd.C (Kd.int .i64) w A0_3 l0_3.length l0_3) (hc0_3 : l0_3.length ≤ c0_3) (hr0_4 : Kd.C k88 w A0_4 l0_4.length l0_4) (hc0_4 : l0_4.length ≤ c0_4) (hr0_5 : Kd.C k88 w A0_5 l0_5.length l0_5) (hc0_5 : l0_5.length ≤ c0_5) (h : laws_FnExactNetFault.f k l0_0 l0_1 l0_2 l0_3 l0_4 l0_5 = some true) :
  Calls Try.prog 3 #[.agg #[.slice A0_0 l0_0.length c0_0, .slice A0_1 l0_1.length c0_1, .slice A0_2 l0_2.length c0_2, .slice A0_3 l0_3.length c0_3, .slice A0_4 l0_4.length c0_4, .slice A0_5 l0_5.length c0_5]] w fun e w' => e = .returned (.bool true) ∧ Below w.heap.size w w' := by
 have hu27 := Try.underlying27
 have hu34 := Try.underlying34
 have HR0_0 := Z_ hr0_0
 have HC0_0 := Z_ hc0_0
 clear hr0_0 hc0_0
 have HR0_1 := Z_ hr0_1
 have HC0_1 := Z_ hc0_1
 clear hr0_1 hc0_1
 have HR0_2 := Z_ hr0_2
 have HC0_2 := Z_ hc0_2
 clear hr0_2 hc0_2
 have HR0_3 := Z_ hr0_3
 have HC0_3 := Z_ hc0_3
 clear hr0_3 hc0_3
 have HR0_4 := Z_ hr0_4
 have HC0_4 := Z_ hc0_4
 clear hr0_4 hc0_4
 have HR0_5 := Z_ hr0_5
 have HC0_5 := Z_ hc0_5
 clear hr0_5 hc0_5
 have HB := Z_ (Below.refl w.heap.size w)
 unfold laws_FnExactNetFault.f at h
 have H := h
 clear h
 replace H := bS_ H
 obtain ⟨t394, A2, H⟩ := H
 replace H := iD_ H
 obtain ⟨c3b0, H⟩ | ⟨c3b0, H⟩ := H
 ·clear H
  go_enter Try.func3, Try.ntmps3
  go_wp2_with (first | ((with_reducible refine gD_ 1 rfl ?_); refine bx_ #[.slice A0_0 l0_0.length c0_0, .slice A0_1 l0_1.length c0_1, .slice A0_2 l0_2.length c0_2, .slice A0_3 l0_3.length c0_3, .slice A0_4 l0_4.length c0_4, .slice A0_5 l0_5.length c0_5] 27 ?_; intro ag hg w4 hbox hb; have a0 := Z_ hbox; have a9 := Z_ ((by rw [hg]; exact (below_size HB.out) : w.heap.size ≤ ag)); replace HB := Z_ (lP_ HB.out hb); clear hb hbox hg; obtain ⟨_, _, _, _, _, _, _, _, _, _, _, _⟩ := bc6 a0.out) | ((with_reducible refine gate_callee (f := 4) rfl ?_); refine goesA_ (some 9) rfl rfl Try.func4 (by kernel_rfl) rfl #[.agg #[.slice A0_0 l0_0.length c0_0, .slice A0_1 l0_1.length c0_1, .slice A0_2 l0_2.length c0_2, .slice A0_3 l0_3.length c0_3, .slice A0_4 l0_4.length c0_4, .slice A0_5 l0_5.length c0_5], .int .i64 1048576] rfl ?_; (with_reducible refine (laws_szNet.calls k _ _ l0_0 _ _ l0_1 _ _ l0_2 _ _ l0_3 _ _ l0_4 _ _ l0_5 1048576 t394 _ ?side1 ?side2 ?side3 ?side4 ?side5 ?side6 ?side7 ?side8 ?side9 ?side10 ?side11 ?side12 A2.out).mono ?_); (case side1 => repeat (first | exact (Kd.C_below HR0_0.out HB.out) | (with_reducible refine Kd.C_alloc ?_ _) | (with_reducible refine Kd.C_drewN ?_ _) | (with_reducible refine Kd.C_drew ?_))); (case side2 => exact HC0_0.out); (case side3 => repeat (first | exact (Kd.C_below HR0_1.out HB.out) | (with_reducible refine Kd.C_alloc ?_ _) | (with_reducible refine Kd.C_drewN ?_ _) | (with_reducible refine Kd.C_drew ?_))); (case side4 => exact HC0_1.out); (case side5 => repeat (first | exact (Kd.C_below HR0_2.out HB.out) | (with_reducible refine Kd.C_alloc ?_ _) | (with_reducible refine Kd.C_drewN ?_ _) | (with_reducible refine Kd.C_drew ?_))); (case side6 => exact HC0_2.out); (case side7 => repeat (first | exact (Kd.C_below HR0_3.out HB.out) | (with_reducible refine Kd.C_alloc ?_ _) | (with_reducible refine Kd.C_drewN ?_ _) | (with_reducible refine Kd.C_drew ?_))); (case side8 => exact HC0_3.out); (case side9 => repeat (first | exact (Kd.C_below HR0_4.out HB.out) | (with_reducible refine Kd.C_alloc ?_ _) | (with_reducible refine Kd.C_drewN ?_ _) | (with_reducible refine Kd.C_drew ?_))); (case side10 => exact HC0_4.out); (case side11 => repeat (first | exact (Kd.C_below HR0_5.out HB.out) | (with_reducible refine Kd.C_alloc ?_ _) | (with_reducible refine Kd.C_drewN ?_ _) | (with_reducible refine Kd.C_drew ?_))); (case side12 => exact HC0_5.out); rintro e w6 ⟨rfl, hb⟩; refine ⟨_, rfl, ?_⟩; replace HB := Z_ (lP_ (by repeat (first | (with_reducible first | exact HB.out | refine lS1_ ?_ a9.out) | exact HB.out)) hb); (try clear hb)))
  go_ret
  exact ⟨by first | rfl | (rw [hr_.out]; first | done | rfl) | (simp [errW_none, errW_some] <;> rfl) | (simp [*, errW_none, errW_some] <;> rfl), Lb_⟩
 replace H := bS_ H
 obtain ⟨⟨t395, t398, t401, t404, t407, t410⟩, A7, H⟩ := H
 try dsimp only at H
 replace H := bS_ H
 obtain ⟨t413, A8, H⟩ := H
 replace H := bS_ H
 obtain ⟨⟨t414, t417, t420, t423, t426, t429⟩, A9, H⟩ := H
 try dsimp only at H
 replace H := bS_ H
 obtain ⟨t433, c0, H⟩ := H
 replace H := iE_ H
 obtain ⟨c11b0, c11b1, H⟩ | ⟨c11b0, c11b1, H⟩ := H
 replace H := bS_ H
 obtain ⟨⟨t434, t437, t440, t443, t446, t449⟩, c1, H⟩ := H
 try dsimp only at H
 replace H := bS_ H
 obtain ⟨t452, c2, H⟩ := H
 replace H := iB_ H
 obtain ⟨rfl, H⟩ | ⟨rfl, H⟩ := H
 ·clear H
  go_enter Try.func3, Try.ntmps3
  try go_wp2_with (first | ((with_reducible refine gate_dst (N := 1) rfl ?_); refine box_event ?hg (N := 1) ?hd (cs := #[.slice A0_0 l0_0.length c0_0, .slice A0_1 l0_1.length c0_1, .slice A0_2 l0_2.length c0_2, .slice A0_3 l0_3.length c0_3, .slice A0_4 l0_4.length c0_4, .slice A0_5 l0_5.length c0_5]) (t := 27) ?hr ?_; (case hd => rfl); (case hg => rfl); (case hr => first | (go_simp; done) | (go_simp; rfl)); intro ag hg w15 hbox hb; have n0_ := Z_ (lP_ HB.out hb); have n1_ := Z_ hbox; have n3_ := Z_ ((by rw [hg]; exact (below_size HB.out) : w.heap.size ≤ ag)); clear HB; have HB := n0_; have a0 := n1_; have a9 := n3_; clear n0_ n1_ n3_ hb hbox hg; obtain ⟨_, _, _, _, _, _, _, _, _, _, _, _⟩ := bc6 a0.out) | ((with_reducible refine gate_callee (f := 4) rfl ?_); refine goesA_ (some 9) rfl rfl Try.func4 (by kernel_rfl) rfl #[.agg #[.slice A0_0 l0_0.length c0_0, .slice A0_1 l0_1.length c0_1, .slice A0_2 l0_2.length c0_2, .slice A0_3 l0_3.length c0_3, .slice A0_4 l0_4.length c0_4, .slice A0_5 l0_5.length c0_5], .int .i64 1048576] rfl ?_; (with_reducible refine (laws_szNet.calls k _ _ l0_0 _ _ l0_1 _ _ l0_2 _ _ l0_3 _ _ l0_4 _ _ l0_5 1048576 t394 _ ?side1 ?side2 ?side3 ?side4 ?side5 ?side6 ?side7 ?side8 ?side9 ?side10 ?side11 ?side12 A2.out).mono ?_); (case side1 => repeat (first | exact (Kd.C_below HR0_0.out HB.out) | (with_reducible refine Kd.C_alloc ?_ _) | (with_reducible refine Kd.C_drewN ?_ _) | (with_reducible refine Kd.C_drew ?_))); (case side2 => exact HC0_0.out); (case side3 => repeat (first | exact (Kd.C_below HR0_1.out HB.out) | (with_reducible refine Kd.C_alloc ?_ _) | (with_reducible refine Kd.C_drewN ?_ _) | (with_reducible refine Kd.C_drew ?_))); (case side4 => exact HC0_1.out); (case side5 => repeat (first | exact (Kd.C_below HR0_2.out HB.out) | (with_reducible refine Kd.C_alloc ?_ _) | (with_reducible refine Kd.C_drewN ?_ _) | (with_reducible refine Kd.C_drew ?_))); (case side6 => exact HC0_2.out); (case side7 => repeat (first | exact (Kd.C_below HR0_3.out HB.out) | (with_reducible refine Kd.C_alloc ?_ _) | (with_reducible refine Kd.C_drewN ?_ _) | (with_reducible refine Kd.C_drew ?_))); (case side8 => exact HC0_3.out); (case side9 => repeat (first | exact (Kd.C_below HR0_4.out HB.out) | (with_reducible refine Kd.C_alloc ?_ _) | (with_reducible refine Kd.C_drewN ?_ _) | (with_reducible refine Kd.C_drew ?_))); (case side10 => exact HC0_4.out); (case side11 => repeat (first | exact (Kd.C_below HR0_5.out HB.out) | (with_reducible refine Kd.C_alloc ?_ _) | (with_reducible refine Kd.C_drewN ?_ _) | (with_reducible refine Kd.C_drew ?_))); (case side12 => exact HC0_5.out); rintro e w17 ⟨rfl, hb⟩; refine ⟨_, rfl, ?_⟩; have n0_ := Z_ (bB_ a0.out hb); have n1_ := Z_ (lP_ HB.out hb); clear a0 HB; have a0 := n0_; have HB := n1_; clear n0_ n1_; (try clear hb); (try clear hb2); (try clear hk); (try clear hi); obtain ⟨_, _, _, _, _, _, _, _, _, _, _, _⟩ := bc6 a0.out) | ((with_reducible refine gate_callee (f := 6) rfl ?_); refine goesA_ (some 13) rfl rfl Try.func6 (by kernel_rfl) rfl #[.agg #[.slice A0_0 l0_0.length c0_0, .slice A0_1 l0_1.length c0_1, .slice A0_2 l0_2.length c0_2, .slice A0_3 l0_3.length c0_3, .slice A0_4 l0_4.length c0_4, .slice A0_5 l0_5.length c0_5]] rfl ?_; (with_reducible refine (laws_toNet.calls k _ _ l0_0 _ _ l0_1 _ _ l0_2 _ _ l0_3 _ _ l0_4 _ _ l0_5 t395 t398 t401 t404 t407 t410 _ ?side1 ?side2 ?side3 ?side4 ?side5 ?side6 ?side7 ?side8 ?side9 ?side10 ?side11 ?side12 A7.out).mono ?_); (case side1 => repeat (first | exact (Kd.C_below HR0_0.out HB.out) | (with_reducible refine Kd.C_alloc ?_ _) | (with_reducible refine Kd.C_drewN ?_ _) | (with_reducible refine Kd.C_drew ?_))); (case side2 => exact HC0_0.out); (case side3 => repeat (first | exact (Kd.C_below HR0_1.out HB.out) | (with_reducible refine Kd.C_alloc ?_ _) | (with_reducible refine Kd.C_drewN ?_ _) | (with_reducible refine Kd.C_drew ?_))); (case side4 => exact HC0_1.out); (case side5 => repeat (first | exact (Kd.C_below HR0_2.out HB.out) | (with_reducible refine Kd.C_alloc ?_ _) | (with_reducible refine Kd.C_drewN ?_ _) | (with_reducible refine Kd.C_drew ?_))); (case side6 => exact HC0_2.out); (case side7 => repeat (first | exact (Kd.C_below HR0_3.out HB.out) | (with_reducible refine Kd.C_alloc ?_ _) | (with_reducible refine Kd.C_drewN ?_ _) | (with_reducible refine Kd.C_drew ?_))); (case side8 => exact HC0_3.out); (case side9 => repeat (first | exact (Kd.C_below HR0_4.out HB.out) | (with_reducible refine Kd.C_alloc ?_ _) | (with_reducible refine Kd.C_drewN ?_ _) | (with_reducible refine Kd.C_drew ?_))); (case side10 => exact HC0_4.out); (case side11 => repeat (first | exact (Kd.C_below HR0_5.out HB.out) | (with_reducible refine Kd.C_alloc ?_ _) | (with_reducible refine Kd.C_drewN ?_ _) | (with_reducible refine Kd.C_drew ?_))); (case side12 => exact HC0_5.out); rintro e w19 ⟨v396, v399, v402, v405, v408, v411, rfl, ho0, ho1, ho2, ho3, ho4, ho5, hb⟩; refine ⟨_, rfl, ?_⟩; have n0_ := Z_ (Kd.R_lower ho0 (below_size HB.out)); have n1_ := Z_ (Kd.S_lower ho1 (below_size HB.out)); have n2_ := Z_ (Kd.R_lower ho2 (below_size HB.out)); have n3_ := Z_ (Kd.R_lower ho3 (below_size HB.out)); have n4_ := Z_ (Kd.R_lower ho4 (below_size HB.out)); have n5_ := Z_ (Kd.R_lower ho5 (below_size HB.out)); have n6_ := Z_ (bB_ a0.out hb); have n7_ := Z_ (lP_ HB.out hb); clear a0 HB; have a7 := n0_; have a8 := n1_; have a3 := n2_; have a4 := n3_; have a5 := n4_; have a6 := n5_; have a0 := n6_; have HB := n7_; clear n0_ n1_ n2_ n3_ n4_ n5_ n6_ n7_; (try clear hb); (try clear hb2); (try clear hk); (try clear hi); (try clear ho0); (try clear ho1); (try clear ho2); (try clear ho3); (try clear ho4); (try clear ho5); obtain ⟨bf, bg, eo20⟩ := Kd.R_slice a7.out; subst eo20; obtain ⟨bh, bi, eo21⟩ := Kd.S_slice a8.out; subst eo21; obtain ⟨b4, b5, eo22⟩ := Kd.R_slice a3.out; subst eo22; obtain ⟨b6, b7, eo23⟩ := Kd.R_slice a4.out; subst eo23; obtain ⟨b8, b9, eo24⟩ := Kd.R_slice a5.out; subst eo24; obtain ⟨ba, bb, eo25⟩ := Kd.R_slice a6.out; subst eo25) | ((with_reducible refine gate_callee (f := 5) rfl ?_); refine goesA_ (some 14) rfl rfl Try.func5 (by kernel_rfl) rfl #[.agg #[.slice bf t395.length bg, .slice bh t398.length bi, .slice b4 t401.length b5, .slice b6 t404.length b7, .slice b8 t407.length b9, .slice ba t410.length bb]] rfl ?_; (with_reducible refine (spec_NetFault.calls k _ _ t395 _ _ t398 _ _ t401 _ _ t404 _ _ t407 _ _ t410 t413 _ ?side1 ?side2 ?side3 ?side4 ?side5 ?side6 ?side7 ?side8 ?side9 ?side10 ?side11 ?side12 A8.out).mono ?_); (case side1 => repeat (first | exact (Kd.R_reads' a7.out).2.2 | (with_reducible refine Kd.C_alloc ?_ _) | (with_reducible refine Kd.C_drewN ?_ _) | (with_reducible refine Kd.C_drew ?_))); (case side2 => exact (Kd.R_reads' a7.out).2.1); (case side3 => repeat (first | exact (Kd.S_reads' a8.out).2.2 | (with_reducible refine Kd.C_alloc ?_ _) | (with_reducible refine Kd.C_drewN ?_ _) | (with_reducible refine Kd.C_drew ?_))); (case side4 => exact (Kd.S_reads' a8.out).2.1); (case side5 => repeat (first | exact (Kd.R_reads' a3.out).2.2 | (with_reducible refine Kd.C_alloc ?_ _) | (with_reducible refine Kd.C_drewN ?_ _) | (with_reducible refine Kd.C_drew ?_))); (case side6 => exact (Kd.R_reads' a3.out).2.1); (case side7 => repeat (first | exact (Kd.R_reads' a4.out).2.2 | (with_reducible refine Kd.C_alloc ?_ _) | (with_reducible refine Kd.C_drewN ?_ _) | (with_reducible refine Kd.C_drew ?_))); (case side8 => exact (Kd.R_reads' a4.out).2.1); (case side9 => repeat (first | exact (Kd.R_reads' a5.out).2.2 | (with_reducible refine Kd.C_alloc ?_ _) | (with_reducible refine Kd.C_drewN ?_ _) | (with_reducible refine Kd.C_drew ?_))); (case side10 => exact (Kd.R_reads' a5.out).2.1); (case side11 => repeat (first | exact (Kd.R_reads' a6.out).2.2 | (with_reducible refine Kd.C_alloc ?_ _) | (with_reducible refine Kd.C_drewN ?_ _) | (with_reducible refine Kd.C_drew ?_))); (case side12 => exact (Kd.R_reads' a6.out).2.1); rintro e w26 ⟨rfl, hb⟩; refine ⟨_, rfl, ?_⟩; have n0_ := Z_ (Kd.R_below a7.out hb); have n1_ := Z_ (Kd.S_below (by (with_reducible repeat (first | apply Kd.S_alloc | apply Kd.S_drewN | apply Kd.S_drew)); exact a8.out) hb); have n2_ := Z_ (Kd.R_below a3.out hb); have n3_ := Z_ (Kd.R_below a4.out hb); have n4_ := Z_ (Kd.R_below a5.out hb); have n5_ := Z_ (Kd.R_below a6.out hb); have n6_ := Z_ (bB_ (g := ag) (o := .cells #[.slice A0_0 l0_0.length c0_0, .slice A0_1 l0_1.length c0_1, .slice A0_2 l0_2.length c0_2, .slice A0_3 l0_3.length c0_3, .slice A0_4 l0_4.length c0_4, .slice A0_5 l0_5.length c0_5] 27 (0, 0)) a0.out hb); have n7_ := Z_ (lP_ (by repeat (first | (with_reducible first | exact HB.out | refine lS1_ ?_ a9.out) | exact HB.out)) hb); clear a7 a8 a3 a4 a5 a6 a0 HB; have a7 := n0_; have a8 := n1_; have a3 := n2_; have a4 := n3_; have a5 := n4_; have a6 := n5_; have a0 := n6_; have HB := n7_; clear n0_ n1_ n2_ n3_ n4_ n5_ n6_ n7_; (try clear hb); (try clear hb2); (try clear hk); (try clear hi); obtain ⟨_, _, _, _, _, _, _, _, _, _, _, _⟩ := bc6 a0.out) | ((with_reducible refine gate_callee (f := 6) rfl ?_); refine goesA_ (some 16) rfl rfl Try.func6 (by kernel_rfl) rfl #[.agg #[.slice A0_0 l0_0.length c0_0, .slice A0_1 l0_1.length c0_1, .slice A0_2 l0_2.length c0_2, .slice A0_3 l0_3.length c0_3, .slice A0_4 l0_4.length c0_4, .slice A0_5 l0_5.length c0_5]] rfl ?_; (with_reducible refine (laws_toNet.calls k _ _ l0_0 _ _ l0_1 _ _ l0_2 _ _ l0_3 _ _ l0_4 _ _ l0_5 t414 t417 t420 t423 t426 t429 _ ?side1 ?side2 ?side3 ?side4 ?side5 ?side6 ?side7 ?side8 ?side9 ?side10 ?side11 ?side12 A9.out).mono ?_); (case side1 => repeat (first | exact (Kd.C_below HR0_0.out HB.out) | (with_reducible refine Kd.C_alloc ?_ _) | (with_reducible refine Kd.C_drewN ?_ _) | (with_reducible refine Kd.C_drew ?_))); (case side2 => exact HC0_0.out); (case side3 => repeat (first | exact (Kd.C_below HR0_1.out HB.out) | (with_reducible refine Kd.C_alloc ?_ _) | (with_reducible refine Kd.C_drewN ?_ _) | (with_reducible refine Kd.C_drew ?_))); (case side4 => exact HC0_1.out); (case side5 => repeat (first | exact (Kd.C_below HR0_2.out HB.out) | (with_reducible refine Kd.C_alloc ?_ _) | (with_reducible refine Kd.C_drewN ?_ _) | (with_reducible refine Kd.C_drew ?_))); (case side6 => exact HC0_2.out); (case side7 => repeat (first | exact (Kd.C_below HR0_3.out HB.out) | (with_reducible refine Kd.C_alloc ?_ _) | (with_reducible refine Kd.C_drewN ?_ _) | (with_reducible refine Kd.C_drew ?_))); (case side8 => exact HC0_3.out); (case side9 => repeat (first | exact (Kd.C_below HR0_4.out HB.out) | (with_reducible refine Kd.C_alloc ?_ _) | (with_reducible refine Kd.C_drewN ?_ _) | (with_reducible refine Kd.C_drew ?_))); (case side10 => exact HC0_4.out); (case side11 => repeat (first | exact (Kd.C_below HR0_5.out HB.out) | (with_reducible refine Kd.C_alloc ?_ _) | (with_reducible refine Kd.C_drewN ?_ _) | (with_reducible refine Kd.C_drew ?_))); (case side12 => exact HC0_5.out); rintro e w28 ⟨v415, v418, v421, v424, v427, v430, rfl, ho0, ho1, ho2, ho3, ho4, ho5, hb⟩; refine ⟨_, rfl, ?_⟩; have n0_ := Z_ (Kd.R_elder' a7.out (Kd.R_base ho0) hb); have n1_ := Z_ (Kd.S_elder' (by (with_reducible repeat (first | apply Kd.S_alloc | apply Kd.S_drewN | apply Kd.S_drew)); exact a8.out) (Kd.S_base ho1) hb); have n2_ := Z_ (Kd.R_mono (Kd.R_told (Kd.R_told (Kd.R_old a3.out hb) (Kd.R_base ho2)) (Kd.R_base ho3)) (fun _ h_ => h_.1)); have n3_ := Z_ (Kd.R_mono (Kd.R_told (Kd.R_told (Kd.R_old a4.out hb) (Kd.R_base ho2)) (Kd.R_base ho3)) (fun _ h_ => h_.1)); have n4_ := Z_ (Kd.R_mono (Kd.R_told (Kd.R_told (Kd.R_old a5.out hb) (Kd.R_base ho4)) (Kd.R_base ho5)) (fun _ h_ => h_.1)); have n5_ := Z_ (Kd.R_mono (Kd.R_told (Kd.R_told (Kd.R_old a6.out hb) (Kd.R_base ho4)) (Kd.R_base ho5)) (fun _ h_ => h_.1)); have n6_ := Z_ (Kd.R_lower (Kd.R_new' ho0 (Kd.R_lt a7.out)) (below_size (by repeat (first | (with_reducible first | exact HB.out | refine lS1_ ?_ a9.out) | exact HB.out)))); have n7_ := Z_ (Kd.S_lower (Kd.S_new' ho1 (Kd.S_lt (by (with_reducible repeat (first | apply Kd.S_alloc | apply Kd.S_drewN | apply Kd.S_drew)); exact a8.out))) (below_size (by repeat (first | (with_reducible first | exact HB.out | refine lS1_ ?_ a9.out) | exact HB.out)))); have n8_ := Z_ (Kd.R_lower (Kd.R_new' (Kd.R_new' ho2 (Kd.R_lt a3.out)) (Kd.R_lt a4.out)) (below_size (by repeat (first | (with_reducible first | exact HB.out | refine lS1_ ?_ a9.out) | exact HB.out)))); have n9_ := Z_ (Kd.R_lower (Kd.R_new' (Kd.R_new' ho3 (Kd.R_lt a3.out)) (Kd.R_lt a4.out)) (below_size (by repeat (first | (with_reducible first | exact HB.out | refine lS1_ ?_ a9.out) | exact HB.out)))); have n10_ := Z_ (Kd.R_lower (Kd.R_new' (Kd.R_new' ho4 (Kd.R_lt a5.out)) (Kd.R_lt a6.out)) (below_size (by repeat (first | (with_reducible first | exact HB.out | refine lS1_ ?_ a9.out) | exact HB.out)))); have n11_ := Z_ (Kd.R_lower (Kd.R_new' (Kd.R_new' ho5 (Kd.R_lt a5.out)) (Kd.R_lt a6.out)) (below_size (by repeat (first | (with_reducible first | exact HB.out | refine lS1_ ?_ a9.out) | exact HB.out)))); have n12_ := Z_ (bB_ (g := ag) (o := .cells #[.slice A0_0 l0_0.length c0_0, .slice A0_1 l0_1.length c0_1, .slice A0_2 l0_2.length c0_2, .slice A0_3 l0_3.length c0_3, .slice A0_4 l0_4.length c0_4, .slice A0_5 l0_5.length c0_5] 27 (0, 0)) a0.out hb); have n13_ := Z_ (lP_ (by repeat (first | (with_reducible first | exact HB.out | refine lS1_ ?_ a9.out) | exact HB.out)) hb); clear a7 a8 a3 a4 a5 a6 a0 HB; have a7 := n0_; have a8 := n1_; have a3 := n2_; have a4 := n3_; have a5 := n4_; have a6 := n5_; have ae := n6_; have af := n7_; have aa := n8_; have ab := n9_; have ac := n10_; have ad := n11_; have a0 := n12_; have HB := n13_; clear n0_ n1_ n2_ n3_ n4_ n5_ n6_ n7_ n8_ n9_ n10_ n11_ n12_ n13_; (try clear hb); (try clear hb2); (try clear hk); (try clear hi); (try clear ho0); (try clear ho1); (try clear ho2); (try clear ho3); (try clear ho4); (try clear ho5)) | ((with_reducible refine gate_dst (N := 5) rfl ?_); refine box_event ?hg (N := 5) ?hd (cs := #[.slice none 0 0, .slice none 0 0, .slice none 0 0, .slice none 0 0, .slice none 0 0, .slice none 0 0]) (t := 34) ?hr ?_; (case hd => rfl); (case hg => rfl); (case hr => first | (go_simp; done) | (go_simp; rfl)); intro a2 hg w29 hbox hb; have n0_ := Z_ (Kd.R_below a7.out hb); have n1_ := Z_ (Kd.S_below (by (with_reducible repeat (first | apply Kd.S_alloc | apply Kd.S_drewN | apply Kd.S_drew)); exact a8.out) hb); have n2_ := Z_ (Kd.R_below a3.out hb); have n3_ := Z_ (Kd.R_below a4.out hb); have n4_ := Z_ (Kd.R_below a5.out hb); have n5_ := Z_ (Kd.R_below a6.out hb); have n6_ := Z_ (Kd.R_below ae.out hb); have n7_ := Z_ (Kd.S_below (by (with_reducible repeat (first | apply Kd.S_alloc | apply Kd.S_drewN | apply Kd.S_drew)); exact af.out) hb); have n8_ := Z_ (Kd.R_below aa.out hb); have n9_ := Z_ (Kd.R_below ab.out hb); have n10_ := Z_ (Kd.R_below ac.out hb); have n11_ := Z_ (Kd.R_below ad.out hb); have n12_ := Z_ (bB_ (g := ag) (o := .cells #[.slice A0_0 l0_0.length c0_0, .slice A0_1 l0_1.length c0_1, .slice A0_2 l0_2.length c0_2, .slice A0_3 l0_3.length c0_3, .slice A0_4 l0_4.length c0_4, .slice A0_5 l0_5.length c0_5] 27 (0, 0)) a0.out hb); have n13_ := Z_ (lP_ (by repeat (first | (with_reducible first | exact HB.out | refine lS1_ ?_ a9.out) | exact HB.out)) hb); have n14_ := Z_ hbox; have n16_ := Z_ ((by rw [hg]; exact (below_size (by repeat (first | (with_reducible first | exact HB.out | refine lS1_ ?_ a9.out) | exact HB.out))) : w.heap.size ≤ a2)); have n17_ := Z_ ((by rw [hg]; exact Nat.ne_of_lt (blk_lt (g := ag) (o := .cells #[.slice A0_0 l0_0.length c0_0, .slice A0_1 l0_1.length c0_1, .slice A0_2 l0_2.length c0_2, .slice A0_3 l0_3.length c0_3, .slice A0_4 l0_4.length c0_4, .slice A0_5 l0_5.length c0_5] 27 (0, 0)) a0.out) : ag ≠ a2)); have n18_ := Z_ n17_.out.symm; clear a7 a8 a3 a4 a5 a6 ae af aa ab ac ad a0 HB; have a7 := n0_; have a8 := n1_; have a3 := n2_; have a4 := n3_; have a5 := n4_; have a6 := n5_; have ae := n6_; have af := n7_; have aa := n8_; have ab := n9_; have ac := n10_; have ad := n11_; have a0 := n12_; have HB := n13_; have a1 := n14_; have ah := n16_; have b2 := n17_; have b3 := n18_; clear n0_ n1_ n2_ n3_ n4_ n5_ n6_ n7_ n8_ n9_ n10_ n11_ n12_ n13_ n14_ n16_ n17_ n18_ hb hbox hg; obtain ⟨au, am, eo30⟩ := Kd.R_slice ae.out; subst eo30; have c4 := b3.out; have c5 := b2.out; obtain ⟨_, _, _, _, _, _, _, _, _, _, _, _⟩ := bc6 a1.out; obtain ⟨av, an, eo33⟩ := Kd.S_slice af.out; subst eo33; obtain ⟨ao, ai, eo34⟩ := Kd.R_slice aa.out; subst eo34; obtain ⟨ap, aj, eo35⟩ := Kd.R_slice ab.out; subst eo35; obtain ⟨aq, ak, eo36⟩ := Kd.R_slice ac.out; subst eo36; obtain ⟨ar, al, eo37⟩ := Kd.R_slice ad.out; subst eo37) | ((with_reducible refine gate_callee (f := 7) rfl ?_); refine goesA_ (some 18) rfl rfl Try.func7 (by kernel_rfl) rfl #[.agg #[.slice au t414.length am, .slice av t417.length an, .slice ao t420.length ai, .slice ap t423.length aj, .slice aq t426.length ak, .slice ar t429.length al]] rfl ?_; (with_reducible refine (impl_NetFault.calls k _ _ t414 _ _ t417 _ _ t420 _ _ t423 _ _ t426 _ _ t429 t433 _ ?side1 ?side2 ?side3 ?side4 ?side5 ?side6 ?side7 ?side8 ?side9 ?side10 ?side11 ?side12 c0.out).mono ?_); (case side1 => refine (Kd.R_reads' (e := 76) (base := w.heap.size) (ok := fun k_ => (True ∧ some k_ ≠ (.slice bf t395.length bg : Value).ownBlock)) (n := t414.length) (c := am) ?_).2.2; exact (Kd.R_mono (rfar6 (g := a2) (Kd.R_types ae.out a1.out (by decide)) (fun _ hk => hk.2)) (fun _ h_ => h_.1))); (case side2 => exact (Kd.R_reads' ae.out).2.1); (case side3 => refine (Kd.S_reads' (e := 46) (base := w.heap.size) (ok := fun k_ => (True ∧ some k_ ≠ (.slice bh t398.length bi : Value).ownBlock)) (n := t417.length) (c := an) ?_).2.2; exact (by (with_reducible repeat (first | apply Kd.S_alloc | apply Kd.S_drewN | apply Kd.S_drew)); exact (Kd.S_mono (Kd.S_far (p := ⟨a2, 5, none⟩) (Kd.S_far (p := ⟨a2, 4, none⟩) (Kd.S_far (p := ⟨a2, 3, none⟩) (Kd.S_far (p := ⟨a2, 2, none⟩) (Kd.S_far (p := ⟨a2, 1, none⟩) (Kd.S_far (p := ⟨a2, 0, none⟩) (Kd.S_types af.out a1.out (by decide)) (fun _ hk => hk.2) (.slice au t414.length am)) (fun _ hk => hk.2) (.slice av t417.length an)) (fun _ hk => hk.2) (.slice ao t420.length ai)) (fun _ hk => hk.2) (.slice ap t423.length aj)) (fun _ hk => hk.2) (.slice aq t426.length ak)) (fun _ hk => hk.2) (.slice ar t429.length al)) (fun _ h_ => h_.1)))); (case side4 => exact (Kd.S_reads' af.out).2.1); (case side5 => refine (Kd.R_reads' (e := 2) (base := w.heap.size) (ok := fun k_ => ((some k_ ≠ (.slice ap t423.length aj : Value).ownBlock ∧ some k_ ≠ (.slice b4 t401.length b5 : Value).ownBlock) ∧ some k_ ≠ (.slice b6 t404.length b7 : Value).ownBlock)) (n := t420.length) (c := ai) ?_).2.2; exact (Kd.R_mono (rfar6 (g := a2) (Kd.R_types aa.out a1.out (by decide)) (fun _ hk => hk.2)) (fun _ h_ => h_.1))); (case side6 => exact (Kd.R_reads' aa.out).2.1); (case side7 => refine (Kd.R_reads' (e := 2) (base := w.heap.size) (ok := fun k_ => ((some k_ ≠ (.slice ao t420.length ai : Value).ownBlock ∧ some k_ ≠ (.slice b4 t401.length b5 : Value).ownBlock) ∧ some k_ ≠ (.slice b6 t404.length b7 : Value).ownBlock)) (n := t423.length) (c := aj) ?_).2.2; exact (Kd.R_mono (rfar6 (g := a2) (Kd.R_types ab.out a1.out (by decide)) (fun _ hk => hk.2)) (fun _ h_ => h_.1))); (case side8 => exact (Kd.R_reads' ab.out).2.1); (case side9 => refine (Kd.R_reads' (e := 59) (base := w.heap.size) (ok := fun k_ => ((some k_ ≠ (.slice ar t429.length al : Value).ownBlock ∧ some k_ ≠ (.slice b8 t407.length b9 : Value).ownBlock) ∧ some k_ ≠ (.slice ba t410.length bb : Value).ownBlock)) (n := t426.length) (c := ak) ?_).2.2; exact (Kd.R_mono (rfar6 (g := a2) (Kd.R_types ac.out a1.out (by decide)) (fun _ hk => hk.2)) (fun _ h_ => h_.1))); (case side10 => exact (Kd.R_reads' ac.out).2.1); (case side11 => refine (Kd.R_reads' (e := 59) (base := w.heap.size) (ok := fun k_ => ((some k_ ≠ (.slice aq t426.length ak : Value).ownBlock ∧ some k_ ≠ (.slice b8 t407.length b9 : Value).ownBlock) ∧ some k_ ≠ (.slice ba t410.length bb : Value).ownBlock)) (n := t429.length) (c := al) ?_).2.2; exact (Kd.R_mono (rfar6 (g := a2) (Kd.R_types ad.out a1.out (by decide)) (fun _ hk => hk.2)) (fun _ h_ => h_.1))); (case side12 => exact (Kd.R_reads' ad.out).2.1); rintro e w38 ⟨rfl, hb⟩; refine ⟨_, rfl, ?_⟩; have n0_ := Z_ (Kd.R_below (Kd.R_mono (rfar6 (g := a2) (Kd.R_types a7.out a1.out (by decide)) (fun _ hk => hk.2)) (fun _ h_ => h_.1)) hb); have n1_ := Z_ (Kd.S_below (by (with_reducible repeat (first | apply Kd.S_alloc | apply Kd.S_drewN | apply Kd.S_drew)); exact (Kd.S_mono (Kd.S_far (p := ⟨a2, 5, none⟩) (Kd.S_far (p := ⟨a2, 4, none⟩) (Kd.S_far (p := ⟨a2, 3, none⟩) (Kd.S_far (p := ⟨a2, 2, none⟩) (Kd.S_far (p := ⟨a2, 1, none⟩) (Kd.S_far (p := ⟨a2, 0, none⟩) (Kd.S_types a8.out a1.out (by decide)) (fun _ hk => hk.2) (.slice au t414.length am)) (fun _ hk => hk.2) (.slice av t417.length an)) (fun _ hk => hk.2) (.slice ao t420.length ai)) (fun _ hk => hk.2) (.slice ap t423.length aj)) (fun _ hk => hk.2) (.slice aq t426.length ak)) (fun _ hk => hk.2) (.slice ar t429.length al)) (fun _ h_ => h_.1))) hb); have n2_ := Z_ (Kd.R_below (Kd.R_mono (rfar6 (g := a2) (Kd.R_types a3.out a1.out (by decide)) (fun _ hk => hk.2)) (fun _ h_ => h_.1)) hb); have n3_ := Z_ (Kd.R_below (Kd.R_mono (rfar6 (g := a2) (Kd.R_types a4.out a1.out (by decide)) (fun _ hk => hk.2)) (fun _ h_ => h_.1)) hb); have n4_ := Z_ (Kd.R_below (Kd.R_mono (rfar6 (g := a2) (Kd.R_types a5.out a1.out (by decide)) (fun _ hk => hk.2)) (fun _ h_ => h_.1)) hb); have n5_ := Z_ (Kd.R_below (Kd.R_mono (rfar6 (g := a2) (Kd.R_types a6.out a1.out (by decide)) (fun _ hk => hk.2)) (fun _ h_ => h_.1)) hb); have n6_ := Z_ (Kd.R_below (Kd.R_mono (rfar6 (g := a2) (Kd.R_types ae.out a1.out (by decide)) (fun _ hk => hk.2)) (fun _ h_ => h_.1)) hb); have n7_ := Z_ (Kd.S_below (by (with_reducible repeat (first | apply Kd.S_alloc | apply Kd.S_drewN | apply Kd.S_drew)); exact (Kd.S_mono (Kd.S_far (p := ⟨a2, 5, none⟩) (Kd.S_far (p := ⟨a2, 4, none⟩) (Kd.S_far (p := ⟨a2, 3, none⟩) (Kd.S_far (p := ⟨a2, 2, none⟩) (Kd.S_far (p := ⟨a2, 1, none⟩) (Kd.S_far (p := ⟨a2, 0, none⟩) (Kd.S_types af.out a1.out (by decide)) (fun _ hk => hk.2) (.slice au t414.length am)) (fun _ hk => hk.2) (.slice av t417.length an)) (fun _ hk => hk.2) (.slice ao t420.length ai)) (fun _ hk => hk.2) (.slice ap t423.length aj)) (fun _ hk => hk.2) (.slice aq t426.length ak)) (fun _ hk => hk.2) (.slice ar t429.length al)) (fun _ h_ => h_.1))) hb); have n8_ := Z_ (Kd.R_below (Kd.R_mono (rfar6 (g := a2) (Kd.R_types aa.out a1.out (by decide)) (fun _ hk => hk.2)) (fun _ h_ => h_.1)) hb); have n9_ := Z_ (Kd.R_below (Kd.R_mono (rfar6 (g := a2) (Kd.R_types ab.out a1.out (by decide)) (fun _ hk => hk.2)) (fun _ h_ => h_.1)) hb); have n10_ := Z_ (Kd.R_below (Kd.R_mono (rfar6 (g := a2) (Kd.R_types ac.out a1.out (by decide)) (fun _ hk => hk.2)) (fun _ h_ => h_.1)) hb); have n11_ := Z_ (Kd.R_below (Kd.R_mono (rfar6 (g := a2) (Kd.R_types ad.out a1.out (by decide)) (fun _ hk => hk.2)) (fun _ h_ => h_.1)) hb); have n12_ := Z_ (bB_ (g := ag) (o := .cells #[.slice A0_0 l0_0.length c0_0, .slice A0_1 l0_1.length c0_1, .slice A0_2 l0_2.length c0_2, .slice A0_3 l0_3.length c0_3, .slice A0_4 l0_4.length c0_4, .slice A0_5 l0_5.length c0_5] 27 (0, 0)) (by (iterate 6 (refine bF_ ?_ b2.out _)); exact a0.out) hb); have n13_ := Z_ (bB_ (g := a2) (o := .cells #[.slice au t414.length am, .slice av t417.length an, .slice ao t420.length ai, .slice ap t423.length aj, .slice aq t426.length ak, .slice ar t429.length al] 34 (0, 0)) (by apply fill6; exact a1.out) hb); have n14_ := Z_ (lP_ (by repeat (first | (with_reducible first | exact HB.out | refine lS1_ ?_ a9.out | refine lS1_ ?_ ah.out) | exact HB.out)) hb); clear a7 a8 a3 a4 a5 a6 ae af aa ab ac ad a0 a1 HB; have a7 := n0_; have a8 := n1_; have a3 := n2_; have a4 := n3_; have a5 := n4_; have a6 := n5_; have ae := n6_; have af := n7_; have aa := n8_; have ab := n9_; have ac := n10_; have ad := n11_; have a0 := n12_; have a1 := n13_; have HB := n14_; clear n0_ n1_ n2_ n3_ n4_ n5_ n6_ n7_ n8_ n9_ n10_ n11_ n12_ n13_ n14_; (try clear hb); (try clear hb2); (try clear hk); (try clear hi)))
  have n0_ := Z_ (rD_ a7.out)
  have n1_ := Z_ (Kd.S_drew a8.out)
  have n2_ := Z_ (rD_ a3.out)
  have n3_ := Z_ (rD_ a4.out)
  have n4_ := Z_ (rD_ a5.out)
  have n5_ := Z_ (rD_ a6.out)
  have n6_ := Z_ (rD_ ae.out)
  have n7_ := Z_ (Kd.S_drew af.out)
  have n8_ := Z_ (rD_ aa.out)
  have n9_ := Z_ (rD_ ab.out)
  have n10_ := Z_ (rD_ ac.out)
  have n11_ := Z_ (rD_ ad.out)
  have n12_ := Z_ (bD_ a0.out)
  have n13_ := Z_ (bD_ a1.out)
  have n14_ := Z_ (lD_ HB.out)
  clear a7
  clear a8
  clear a3
  clear a4
  clear a5
  clear a6
  clear ae
  clear af
  clear aa
  clear ab
  clear ac
  clear ad
  clear a0
  clear a1
  clear HB
  have a7 := n0_
  have a8 := n1_
  have a3 := n2_
  have a4 := n3_
  have a5 := n4_
  have a6 := n5_
  have ae := n6_
  have af := n7_
  have aa := n8_
  have ab := n9_
  have ac := n10_
  have ad := n11_
  have a0 := n12_
  have a1 := n13_
  have HB := n14_
  clear n0_ n1_ n2_ n3_ n4_ n5_ n6_ n7_ n8_ n9_ n10_ n11_ n12_ n13_ n14_
  refine start_ (n := 5) (S := fun w' => w'.cell? ⟨a2, 0, none⟩ = some (.slice au t414.length am) ∧ w'.cell? ⟨a2, 1, none⟩ = some (.slice av t417.length an) ∧ w'.cell? ⟨a2, 2, none⟩ = some (.slice ao t420.length ai) ∧ w'.cell? ⟨a2, 3, none⟩ = some (.slice ap t423.length aj) ∧ w'.cell? ⟨a2, 4, none⟩ = some (.slice aq t426.length ak) ∧ w'.cell? ⟨a2, 5, none⟩ = some (.slice ar t429.length al) ∧ w'.cell? ⟨ag, 0, none⟩ = some (.slice A0_0 l0_0.length c0_0) ∧ w'.cell? ⟨ag, 1, none⟩ = some (.slice A0_1 l0_1.length c0_1) ∧ w'.cell? ⟨ag, 2, none⟩ = some (.slice A0_2 l0_2.length c0_2) ∧ w'.cell? ⟨ag, 3, none⟩ = some (.slice A0_3 l0_3.length c0_3) ∧ w'.cell? ⟨ag, 4, none⟩ = some (.slice A0_4 l0_4.length c0_4) ∧ w'.cell? ⟨ag, 5, none⟩ = some (.slice A0_5 l0_5.length c0_5)) (ds := []) #[false, false, false, false, false] (by kernel_rfl) rfl rfl ⟨(blk_cell a1.out 0).trans rfl, (blk_cell a1.out 1).trans rfl, (blk_cell a1.out 2).trans rfl, (blk_cell a1.out 3).trans rfl, (blk_cell a1.out 4).trans rfl, (blk_cell a1.out 5).trans rfl, (blk_cell a0.out 0).trans rfl, (blk_cell a0.out 1).trans rfl, (blk_cell a0.out 2).trans rfl, (blk_cell a0.out 3).trans rfl, (blk_cell a0.out 4).trans rfl, (blk_cell a0.out 5).trans rfl⟩ (fun hHeld => ?_)
  generalize w38.drew = w39 at a7 a8 a3 a4 a5 a6 ae af aa ab ac ad a0 a1 HB hHeld ⊢
  refine take_ (i := 0) (N := some 22) (v := ?_) (a' := ?_) #[true, false, false, false, false] rfl rfl (by kernel_rfl) (fun _ _ _ h => h) (Or.inl ⟨by rfl, ?_⟩) hHeld ?_ ?_
  rotate_left
  ·rintro w' ⟨s0, s1, s2, s3, s4, s5, s6, s7, s8, s9, s10, s11⟩
   go_simp
   with_reducible rfl
  rotate_left
  ·simp only [Act.put, lA_, lZ_, lS_, i64_w, i32_w]
   rfl
  refine take_ (i := 1) (N := some 23) (v := ?_) (a' := ?_) #[true, true, false, false, false] rfl rfl (by kernel_rfl) (fun _ _ _ h => h) (Or.inl ⟨by rfl, ?_⟩) hHeld ?_ ?_
  rotate_left
  ·rintro w' ⟨s0, s1, s2, s3, s4, s5, s6, s7, s8, s9, s10, s11⟩
   go_simp
   with_reducible rfl
  rotate_left
  ·simp only [Act.put, lA_, lZ_, lS_, i64_w, i32_w]
   rfl
  refine one_ (i := 2) (N := some 24) #[true, true, true, false, false] rfl rfl (by kernel_rfl) (by decide) (fun K hK => ?_)
  refine goes_ Try.func6 (by kernel_rfl) rfl #[.agg #[.slice A0_0 l0_0.length c0_0, .slice A0_1 l0_1.length c0_1, .slice A0_2 l0_2.length c0_2, .slice A0_3 l0_3.length c0_3, .slice A0_4 l0_4.length c0_4, .slice A0_5 l0_5.length c0_5]] (by rfl) rfl rfl (by (try simp only [List.map_toArray, List.map_cons, List.map_nil]); first | done | rfl | (simp only [List.length_drop, List.length_take]; rfl)) ?_
  with_reducible refine (laws_toNet.calls k _ _ l0_0 _ _ l0_1 _ _ l0_2 _ _ l0_3 _ _ l0_4 _ _ l0_5 t434 t437 t440 t443 t446 t449 _ ?side1 ?side2 ?side3 ?side4 ?side5 ?side6 ?side7 ?side8 ?side9 ?side10 ?side11 ?side12 c1.out).mono ?_
  (case side1 => repeat (first | exact (Kd.C_below HR0_0.out HB.out) | (with_reducible refine Kd.C_alloc ?_ _) | (with_reducible refine Kd.C_drewN ?_ _) | (with_reducible refine Kd.C_drew ?_)))
  (case side2 => exact HC0_0.out)
  (case side3 => repeat (first | exact (Kd.C_below HR0_1.out HB.out) | (with_reducible refine Kd.C_alloc ?_ _) | (with_reducible refine Kd.C_drewN ?_ _) | (with_reducible refine Kd.C_drew ?_)))
  (case side4 => exact HC0_1.out)
  (case side5 => repeat (first | exact (Kd.C_below HR0_2.out HB.out) | (with_reducible refine Kd.C_alloc ?_ _) | (with_reducible refine Kd.C_drewN ?_ _) | (with_reducible refine Kd.C_drew ?_)))
  (case side6 => exact HC0_2.out)
  (case side7 => repeat (first | exact (Kd.C_below HR0_3.out HB.out) | (with_reducible refine Kd.C_alloc ?_ _) | (with_reducible refine Kd.C_drewN ?_ _) | (with_reducible refine Kd.C_drew ?_)))
  (case side8 => exact HC0_3.out)
  (case side9 => repeat (first | exact (Kd.C_below HR0_4.out HB.out) | (with_reducible refine Kd.C_alloc ?_ _) | (with_reducible refine Kd.C_drewN ?_ _) | (with_reducible refine Kd.C_drew ?_)))
  (case side10 => exact HC0_4.out)
  (case side11 => repeat (first | exact (Kd.C_below HR0_5.out HB.out) | (with_reducible refine Kd.C_alloc ?_ _) | (with_reducible refine Kd.C_drewN ?_ _) | (with_reducible refine Kd.C_drew ?_)))
  (case side12 => exact HC0_5.out)
  rintro e w40 ⟨v435, v438, v441, v444, v447, v450, rfl, ho0, ho1, ho2, ho3, ho4, ho5, hb⟩
  refine ⟨_, rfl, ?_⟩
  have n0_ := Z_ (Kd.R_elder' (by (with_reducible repeat first | apply rA_ | apply rN_ | apply rD_); exact a7.out) (Kd.R_base ho0) hb)
  have n1_ := Z_ (Kd.S_elder' (by (with_reducible repeat (first | apply Kd.S_alloc | apply Kd.S_drewN | apply Kd.S_drew)); exact a8.out) (Kd.S_base ho1) hb)
  have n2_ := Z_ (Kd.R_mono (Kd.R_told (Kd.R_told (Kd.R_old (by (with_reducible repeat first | apply rA_ | apply rN_ | apply rD_); exact a3.out) hb) (Kd.R_base ho2)) (Kd.R_base ho3)) (fun _ h_ => h_.1))
  have n3_ := Z_ (Kd.R_mono (Kd.R_told (Kd.R_told (Kd.R_old (by (with_reducible repeat first | apply rA_ | apply rN_ | apply rD_); exact a4.out) hb) (Kd.R_base ho2)) (Kd.R_base ho3)) (fun _ h_ => h_.1))
  have n4_ := Z_ (Kd.R_mono (Kd.R_told (Kd.R_told (Kd.R_old (by (with_reducible repeat first | apply rA_ | apply rN_ | apply rD_); exact a5.out) hb) (Kd.R_base ho4)) (Kd.R_base ho5)) (fun _ h_ => h_.1))
  have n5_ := Z_ (Kd.R_mono (Kd.R_told (Kd.R_told (Kd.R_old (by (with_reducible repeat first | apply rA_ | apply rN_ | apply rD_); exact a6.out) hb) (Kd.R_base ho4)) (Kd.R_base ho5)) (fun _ h_ => h_.1))
  have n6_ := Z_ (Kd.R_elder' (by (with_reducible repeat first | apply rA_ | apply rN_ | apply rD_); exact ae.out) (Kd.R_base ho0) hb)
  have n7_ := Z_ (Kd.S_elder' (by (with_reducible repeat (first | apply Kd.S_alloc | apply Kd.S_drewN | apply Kd.S_drew)); exact af.out) (Kd.S_base ho1) hb)
  have n8_ := Z_ (Kd.R_mono (Kd.R_told (Kd.R_told (Kd.R_old (by (with_reducible repeat first | apply rA_ | apply rN_ | apply rD_); exact aa.out) hb) (Kd.R_base ho2)) (Kd.R_base ho3)) (fun _ h_ => h_.1))
  have n9_ := Z_ (Kd.R_mono (Kd.R_told (Kd.R_told (Kd.R_old (by (with_reducible repeat first | apply rA_ | apply rN_ | apply rD_); exact ab.out) hb) (Kd.R_base ho2)) (Kd.R_base ho3)) (fun _ h_ => h_.1))
  have n10_ := Z_ (Kd.R_mono (Kd.R_told (Kd.R_told (Kd.R_old (by (with_reducible repeat first | apply rA_ | apply rN_ | apply rD_); exact ac.out) hb) (Kd.R_base ho4)) (Kd.R_base ho5)) (fun _ h_ => h_.1))
  have n11_ := Z_ (Kd.R_mono (Kd.R_told (Kd.R_told (Kd.R_old (by (with_reducible repeat first | apply rA_ | apply rN_ | apply rD_); exact ad.out) hb) (Kd.R_base ho4)) (Kd.R_base ho5)) (fun _ h_ => h_.1))
  have n12_ := Z_ (Kd.R_lower (Kd.R_new' (Kd.R_new' ho0 (Kd.R_lt (by (with_reducible repeat first | apply rA_ | apply rN_ | apply rD_); exact a7.out))) (Kd.R_lt (by (with_reducible repeat first | apply rA_ | apply rN_ | apply rD_); exact ae.out))) (below_size Lb_))
  have n13_ := Z_ (Kd.S_lower (Kd.S_new' (Kd.S_new' ho1 (Kd.S_lt (by (with_reducible repeat (first | apply Kd.S_alloc | apply Kd.S_drewN | apply Kd.S_drew)); exact a8.out))) (Kd.S_lt (by (with_reducible repeat (first | apply Kd.S_alloc | apply Kd.S_drewN | apply Kd.S_drew)); exact af.out))) (below_size Lb_))
  have n14_ := Z_ (Kd.R_lower (Kd.R_new' (Kd.R_new' (Kd.R_new' (Kd.R_new' ho2 (Kd.R_lt (by (with_reducible repeat first | apply rA_ | apply rN_ | apply rD_); exact a3.out))) (Kd.R_lt (by (with_reducible repeat first | apply rA_ | apply rN_ | apply rD_); exact a4.out))) (Kd.R_lt (by (with_reducible repeat first | apply rA_ | apply rN_ | apply rD_); exact aa.out))) (Kd.R_lt (by (with_reducible repeat first | apply rA_ | apply rN_ | apply rD_); exact ab.out))) (below_size Lb_))
  have n15_ := Z_ (Kd.R_lower (Kd.R_new' (Kd.R_new' (Kd.R_new' (Kd.R_new' ho3 (Kd.R_lt (by (with_reducible repeat first | apply rA_ | apply rN_ | apply rD_); exact a3.out))) (Kd.R_lt (by (with_reducible repeat first | apply rA_ | apply rN_ | apply rD_); exact a4.out))) (Kd.R_lt (by (with_reducible repeat first | apply rA_ | apply rN_ | apply rD_); exact aa.out))) (Kd.R_lt (by (with_reducible repeat first | apply rA_ | apply rN_ | apply rD_); exact ab.out))) (below_size Lb_))
  have n16_ := Z_ (Kd.R_lower (Kd.R_new' (Kd.R_new' (Kd.R_new' (Kd.R_new' ho4 (Kd.R_lt (by (with_reducible repeat first | apply rA_ | apply rN_ | apply rD_); exact a5.out))) (Kd.R_lt (by (with_reducible repeat first | apply rA_ | apply rN_ | apply rD_); exact a6.out))) (Kd.R_lt (by (with_reducible repeat first | apply rA_ | apply rN_ | apply rD_); exact ac.out))) (Kd.R_lt (by (with_reducible repeat first | apply rA_ | apply rN_ | apply rD_); exact ad.out))) (below_size Lb_))
  have n17_ := Z_ (Kd.R_lower (Kd.R_new' (Kd.R_new' (Kd.R_new' (Kd.R_new' ho5 (Kd.R_lt (by (with_reducible repeat first | apply rA_ | apply rN_ | apply rD_); exact a5.out))) (Kd.R_lt (by (with_reducible repeat first | apply rA_ | apply rN_ | apply rD_); exact a6.out))) (Kd.R_lt (by (with_reducible repeat first | apply rA_ | apply rN_ | apply rD_); exact ac.out))) (Kd.R_lt (by (with_reducible repeat first | apply rA_ | apply rN_ | apply rD_); exact ad.out))) (below_size Lb_))
  have n18_ := Z_ (bB_ (g := ag) (o := .cells #[.slice A0_0 l0_0.length c0_0, .slice A0_1 l0_1.length c0_1, .slice A0_2 l0_2.length c0_2, .slice A0_3 l0_3.length c0_3, .slice A0_4 l0_4.length c0_4, .slice A0_5 l0_5.length c0_5] 27 (0, 0)) (Bk_ a0) hb)
  have n19_ := Z_ (bB_ (g := a2) (o := .cells #[.slice au t414.length am, .slice av t417.length an, .slice ao t420.length ai, .slice ap t423.length aj, .slice aq t426.length ak, .slice ar t429.length al] 34 (0, 0)) (Bk_ a1) hb)
  have n20_ := Z_ (lP_ Lb_ hb)
  clear a7
  clear a8
  clear a3
  clear a4
  clear a5
  clear a6
  clear ae
  clear af
  clear aa
  clear ab
  clear ac
  clear ad
  clear a0
  clear a1
  clear HB
  have a7 := n0_
  have a8 := n1_
  have a3 := n2_
  have a4 := n3_
  have a5 := n4_
  have a6 := n5_
  have ae := n6_
  have af := n7_
  have aa := n8_
  have ab := n9_
  have ac := n10_
  have ad := n11_
  have aw := n12_
  have ax := n13_
  have ay := n14_
  have az := n15_
  have b0 := n16_
  have b1 := n17_
  have a0 := n18_
  have a1 := n19_
  have HB := n20_
  clear n0_ n1_ n2_ n3_ n4_ n5_ n6_ n7_ n8_ n9_ n10_ n11_ n12_ n13_ n14_ n15_ n16_ n17_ n18_ n19_ n20_
  (try clear hb)
  (try clear hb2)
  (try clear hk)
  (try clear hi)
  (try clear ho0)
  (try clear ho1)
  (try clear ho2)
  (try clear ho3)
  (try clear ho4)
  (try clear ho5)
  obtain ⟨bn, bo, eo41⟩ := Kd.R_slice aw.out
  (first | subst eo41 | (injection eo41 with f1_ f2_ f3_; have f4_ := f1_.symm; have f5_ := f3_.symm; clear f1_ f2_ f3_; subst f4_; subst f5_))
  obtain ⟨bp, bq, eo42⟩ := Kd.S_slice ax.out
  (first | subst eo42 | (injection eo42 with f1_ f2_ f3_; have f4_ := f1_.symm; have f5_ := f3_.symm; clear f1_ f2_ f3_; subst f4_; subst f5_))
  obtain ⟨br, bs, eo43⟩ := Kd.R_slice ay.out
  (first | subst eo43 | (injection eo43 with f1_ f2_ f3_; have f4_ := f1_.symm; have f5_ := f3_.symm; clear f1_ f2_ f3_; subst f4_; subst f5_))
  obtain ⟨bt, bu, eo44⟩ := Kd.R_slice az.out
  (first | subst eo44 | (injection eo44 with f1_ f2_ f3_; have f4_ := f1_.symm; have f5_ := f3_.symm; clear f1_ f2_ f3_; subst f4_; subst f5_))
  obtain ⟨bv, bw, eo45⟩ := Kd.R_slice b0.out
  (first | subst eo45 | (injection eo45 with f1_ f2_ f3_; have f4_ := f1_.symm; have f5_ := f3_.symm; clear f1_ f2_ f3_; subst f4_; subst f5_))
  obtain ⟨bx, bz, eo46⟩ := Kd.R_slice b1.out
  (first | subst eo46 | (injection eo46 with f1_ f2_ f3_; have f4_ := f1_.symm; have f5_ := f3_.symm; clear f1_ f2_ f3_; subst f4_; subst f5_))
  refine hK.out _ _ ⟨(blk_cell a1.out 0).trans rfl, (blk_cell a1.out 1).trans rfl, (blk_cell a1.out 2).trans rfl, (blk_cell a1.out 3).trans rfl, (blk_cell a1.out 4).trans rfl, (blk_cell a1.out 5).trans rfl, (blk_cell a0.out 0).trans rfl, (blk_cell a0.out 1).trans rfl, (blk_cell a0.out 2).trans rfl, (blk_cell a0.out 3).trans rfl, (blk_cell a0.out 4).trans rfl, (blk_cell a0.out 5).trans rfl⟩ (fun hHeld => ?_)
  clear hK K
  refine norm_ (a' := ?_) ?_ ?_
  rotate_left
  ·show Act.put _ (some 24) _ = _
   simp only [Act.put, lA_, lZ_, lS_, i64_w, i32_w]
   rfl
  refine one_ (i := 3) (N := some 25) #[true, true, true, true, false] rfl rfl (by kernel_rfl) (by decide) (fun K hK => ?_)
  refine goes_ Try.func8 (by kernel_rfl) rfl #[.agg #[.slice au t414.length am, .slice av t417.length an, .slice ao t420.length ai, .slice ap t423.length aj, .slice aq t426.length ak, .slice ar t429.length al], .agg #[.slice bn t434.length bo, .slice bp t437.length bq, .slice br t440.length bs, .slice bt t443.length bu, .slice bv t446.length bw, .slice bx t449.length bz]] (by rfl) rfl rfl (by (try simp only [List.map_toArray, List.map_cons, List.map_nil]); first | done | rfl | (simp only [List.length_drop, List.length_take]; rfl)) ?_
  with_reducible refine (laws_eqNet.calls k _ _ t414 _ _ t417 _ _ t420 _ _ t423 _ _ t426 _ _ t429 _ _ t434 _ _ t437 _ _ t440 _ _ t443 _ _ t446 _ _ t449 true _ ?side1 ?side2 ?side3 ?side4 ?side5 ?side6 ?side7 ?side8 ?side9 ?side10 ?side11 ?side12 ?side13 ?side14 ?side15 ?side16 ?side17 ?side18 ?side19 ?side20 ?side21 ?side22 ?side23 ?side24 c2.out).mono ?_
  (case side1 => repeat (first | exact (Kd.R_reads' ae.out).2.2 | (with_reducible refine Kd.C_alloc ?_ _) | (with_reducible refine Kd.C_drewN ?_ _) | (with_reducible refine Kd.C_drew ?_)))
  (case side2 => exact (Kd.R_reads' ae.out).2.1)
  (case side3 => repeat (first | exact (Kd.S_reads' af.out).2.2 | (with_reducible refine Kd.C_alloc ?_ _) | (with_reducible refine Kd.C_drewN ?_ _) | (with_reducible refine Kd.C_drew ?_)))
  (case side4 => exact (Kd.S_reads' af.out).2.1)
  (case side5 => repeat (first | exact (Kd.R_reads' aa.out).2.2 | (with_reducible refine Kd.C_alloc ?_ _) | (with_reducible refine Kd.C_drewN ?_ _) | (with_reducible refine Kd.C_drew ?_)))
  (case side6 => exact (Kd.R_reads' aa.out).2.1)
  (case side7 => repeat (first | exact (Kd.R_reads' ab.out).2.2 | (with_reducible refine Kd.C_alloc ?_ _) | (with_reducible refine Kd.C_drewN ?_ _) | (with_reducible refine Kd.C_drew ?_)))
  (case side8 => exact (Kd.R_reads' ab.out).2.1)
  (case side9 => repeat (first | exact (Kd.R_reads' ac.out).2.2 | (with_reducible refine Kd.C_alloc ?_ _) | (with_reducible refine Kd.C_drewN ?_ _) | (with_reducible refine Kd.C_drew ?_)))
  (case side10 => exact (Kd.R_reads' ac.out).2.1)
  (case side11 => repeat (first | exact (Kd.R_reads' ad.out).2.2 | (with_reducible refine Kd.C_alloc ?_ _) | (with_reducible refine Kd.C_drewN ?_ _) | (with_reducible refine Kd.C_drew ?_)))
  (case side12 => exact (Kd.R_reads' ad.out).2.1)
  (case side13 => repeat (first | exact (Kd.R_reads' aw.out).2.2 | (with_reducible refine Kd.C_alloc ?_ _) | (with_reducible refine Kd.C_drewN ?_ _) | (with_reducible refine Kd.C_drew ?_)))
  (case side14 => exact (Kd.R_reads' aw.out).2.1)
  (case side15 => repeat (first | exact (Kd.S_reads' ax.out).2.2 | (with_reducible refine Kd.C_alloc ?_ _) | (with_reducible refine Kd.C_drewN ?_ _) | (with_reducible refine Kd.C_drew ?_)))
  (case side16 => exact (Kd.S_reads' ax.out).2.1)
  (case side17 => repeat (first | exact (Kd.R_reads' ay.out).2.2 | (with_reducible refine Kd.C_alloc ?_ _) | (with_reducible refine Kd.C_drewN ?_ _) | (with_reducible refine Kd.C_drew ?_)))
  (case side18 => exact (Kd.R_reads' ay.out).2.1)
  (case side19 => repeat (first | exact (Kd.R_reads' az.out).2.2 | (with_reducible refine Kd.C_alloc ?_ _) | (with_reducible refine Kd.C_drewN ?_ _) | (with_reducible refine Kd.C_drew ?_)))
  (case side20 => exact (Kd.R_reads' az.out).2.1)
  (case side21 => repeat (first | exact (Kd.R_reads' b0.out).2.2 | (with_reducible refine Kd.C_alloc ?_ _) | (with_reducible refine Kd.C_drewN ?_ _) | (with_reducible refine Kd.C_drew ?_)))
  (case side22 => exact (Kd.R_reads' b0.out).2.1)
  (case side23 => repeat (first | exact (Kd.R_reads' b1.out).2.2 | (with_reducible refine Kd.C_alloc ?_ _) | (with_reducible refine Kd.C_drewN ?_ _) | (with_reducible refine Kd.C_drew ?_)))
  (case side24 => exact (Kd.R_reads' b1.out).2.1)
  rintro e w47 ⟨rfl, hb⟩
  refine ⟨_, rfl, ?_⟩
  have n0_ := Z_ (Kd.R_below (by (with_reducible repeat first | apply rA_ | apply rN_ | apply rD_); exact a7.out) hb)
  have n1_ := Z_ (Kd.S_below (by (with_reducible repeat (first | apply Kd.S_alloc | apply Kd.S_drewN | apply Kd.S_drew)); exact a8.out) hb)
  have n2_ := Z_ (Kd.R_below (by (with_reducible repeat first | apply rA_ | apply rN_ | apply rD_); exact a3.out) hb)
  have n3_ := Z_ (Kd.R_below (by (with_reducible repeat first | apply rA_ | apply rN_ | apply rD_); exact a4.out) hb)
  have n4_ := Z_ (Kd.R_below (by (with_reducible repeat first | apply rA_ | apply rN_ | apply rD_); exact a5.out) hb)
  have n5_ := Z_ (Kd.R_below (by (with_reducible repeat first | apply rA_ | apply rN_ | apply rD_); exact a6.out) hb)
  have n6_ := Z_ (Kd.R_below (by (with_reducible repeat first | apply rA_ | apply rN_ | apply rD_); exact ae.out) hb)
  have n7_ := Z_ (Kd.S_below (by (with_reducible repeat (first | apply Kd.S_alloc | apply Kd.S_drewN | apply Kd.S_drew)); exact af.out) hb)
  have n8_ := Z_ (Kd.R_below (by (with_reducible repeat first | apply rA_ | apply rN_ | apply rD_); exact aa.out) hb)
  have n9_ := Z_ (Kd.R_below (by (with_reducible repeat first | apply rA_ | apply rN_ | apply rD_); exact ab.out) hb)
  have n10_ := Z_ (Kd.R_below (by (with_reducible repeat first | apply rA_ | apply rN_ | apply rD_); exact ac.out) hb)
  have n11_ := Z_ (Kd.R_below (by (with_reducible repeat first | apply rA_ | apply rN_ | apply rD_); exact ad.out) hb)
  have n12_ := Z_ (Kd.R_below (by (with_reducible repeat first | apply rA_ | apply rN_ | apply rD_); exact aw.out) hb)
  have n13_ := Z_ (Kd.S_below (by (with_reducible repeat (first | apply Kd.S_alloc | apply Kd.S_drewN | apply Kd.S_drew)); exact ax.out) hb)
  have n14_ := Z_ (Kd.R_below (by (with_reducible repeat first | apply rA_ | apply rN_ | apply rD_); exact ay.out) hb)
  have n15_ := Z_ (Kd.R_below (by (with_reducible repeat first | apply rA_ | apply rN_ | apply rD_); exact az.out) hb)
  have n16_ := Z_ (Kd.R_below (by (with_reducible repeat first | apply rA_ | apply rN_ | apply rD_); exact b0.out) hb)
  have n17_ := Z_ (Kd.R_below (by (with_reducible repeat first | apply rA_ | apply rN_ | apply rD_); exact b1.out) hb)
  have n18_ := Z_ (bB_ (g := ag) (o := .cells #[.slice A0_0 l0_0.length c0_0, .slice A0_1 l0_1.length c0_1, .slice A0_2 l0_2.length c0_2, .slice A0_3 l0_3.length c0_3, .slice A0_4 l0_4.length c0_4, .slice A0_5 l0_5.length c0_5] 27 (0, 0)) (Bk_ a0) hb)
  have n19_ := Z_ (bB_ (g := a2) (o := .cells #[.slice au t414.length am, .slice av t417.length an, .slice ao t420.length ai, .slice ap t423.length aj, .slice aq t426.length ak, .slice ar t429.length al] 34 (0, 0)) (Bk_ a1) hb)
  have n20_ := Z_ (lP_ Lb_ hb)
  clear a7
  clear a8
  clear a3
  clear a4
  clear a5
  clear a6
  clear ae
  clear af
  clear aa
  clear ab
  clear ac
  clear ad
  clear aw
  clear ax
  clear ay
  clear az
  clear b0
  clear b1
  clear a0
  clear a1
  clear HB
  have a7 := n0_
  have a8 := n1_
  have a3 := n2_
  have a4 := n3_
  have a5 := n4_
  have a6 := n5_
  have ae := n6_
  have af := n7_
  have aa := n8_
  have ab := n9_
  have ac := n10_
  have ad := n11_
  have aw := n12_
  have ax := n13_
  have ay := n14_
  have az := n15_
  have b0 := n16_
  have b1 := n17_
  have a0 := n18_
  have a1 := n19_
  have HB := n20_
  clear n0_ n1_ n2_ n3_ n4_ n5_ n6_ n7_ n8_ n9_ n10_ n11_ n12_ n13_ n14_ n15_ n16_ n17_ n18_ n19_ n20_
  (try clear hb)
  (try clear hb2)
  (try clear hk)
  (try clear hi)
  refine hK.out _ _ ⟨(blk_cell a1.out 0).trans rfl, (blk_cell a1.out 1).trans rfl, (blk_cell a1.out 2).trans rfl, (blk_cell a1.out 3).trans rfl, (blk_cell a1.out 4).trans rfl, (blk_cell a1.out 5).trans rfl, (blk_cell a0.out 0).trans rfl, (blk_cell a0.out 1).trans rfl, (blk_cell a0.out 2).trans rfl, (blk_cell a0.out 3).trans rfl, (blk_cell a0.out 4).trans rfl, (blk_cell a0.out 5).trans rfl⟩ (fun hHeld => ?_)
  clear hK K
  refine norm_ (a' := ?_) ?_ ?_
  rotate_left
  ·show Act.put _ (some 25) _ = _
   simp only [Act.put, lA_, lZ_, lS_, i64_w, i32_w]
   rfl
  refine pure_ (i := 4) (N := some 26) (v := ?_) (a' := ?_) #[true, true, true, true, true] rfl rfl (by kernel_rfl) (fun _ _ _ h => h) (Or.inl ⟨by rfl, ?_⟩) ?_ ?_
  rotate_left
  ·intro w'
   go_simp
   with_reducible rfl
  rotate_left
  ·simp only [Act.put, lA_, lZ_, lS_, i64_w, i32_w]
   rfl
  refine done_ (by kernel_rfl) ?_
  try go_wp2
  go_ret
  exact ⟨by first | rfl | (rw [hr_.out]; first | done | rfl) | (simp [errW_none, errW_some] <;> rfl) | (simp [*, errW_none, errW_some] <;> rfl), Lb_⟩
 all_goals
  exact absurd (Option.some.inj H) (by decide)
end Go.Proofs.Ytbjnjjjhdjichaa.G
