/- Part 3 of the proof of FnExactNetFault: what the functions on its road do, and the plain laws. -/
import Derived.Test.YtbjnjjjhdjichaaCFnExactNetFault2
import Derived.Shelf.Abstract
import Derived.Maps.OwnOps
import Derived.DeepKeys4
import Derived.Maps.Views
namespace Go.Proofs.Ytbjnjjjhdjichaa.G
open Go.RowKit Go.Proofs.YtbjnjjjhdjichaaW.PrintWords Go.Proofs.YtbjnjjjhdjichaaW.PrintLast Go.Proofs.YtbjnjjjhdjichaaW.PrintMore
attribute [local go_sem] max2_int min2_int max_two min_two max_three min_three max_four min_four   -- for this text's walks alone
set_option linter.unusedVariables false
set_option linter.unusedSimpArgs false
def gvBad (lt : List S76) (lg : List S46) (x : S59) : Bool := !(decide (1 ≤ x.f0 ∧ x.f0 ≤ (lg.length : Int)) && decide (0 ≤ x.f1 ∧ x.f1 ≤ ((rd_T46 lg (x.f0 - 1)).f2.length : Int) - 1) && decide (1 ≤ x.f2 ∧ x.f2 ≤ 9999) && decide (0 ≤ x.f3 ∧ x.f3 ≤ (lt.length : Int) - 1))
def nfGates (F : Int → Int → List S83 → Option Int) : Int → List S46 → Option Int
  | _, [] => some 0
  | i, g :: gs => (F g.f0 g.f1 g.f2).bind fun c => if c = 0 then (if g.f0 = i + 1 then nfGates F (i + 1) gs else some 1) else some c
theorem nf_get (lg : List S46) (kk : Nat) (h : kk < lg.length) : lg.drop kk = rd_T46 lg (kk : Int) :: lg.drop (kk + 1) := by
  rw [List.drop_eq_getElem_cons h]
  simp [rd_T46, List.getD, List.getElem?_eq_getElem h]
theorem w64g {n : Int} (h0 : -9223372036854775808 ≤ n) (h1 : n ≤ 9223372036854775807) : wrap64 n = n := by unfold wrap64; omega
theorem spec_l1In_eq' (a b c : Int) : spec_l1In.f a b c = some (decide (b ≤ a ∧ a ≤ c)) := by
  unfold spec_l1In.f; split
  · congr 1; simp; omega
  · congr 1; simp; omega
theorem spec_l5At_eq' (l : List S76) (a : Int) (hl : l.length ≤ 9223372036854775807) : spec_l5At.f l a = some (decide (0 ≤ a ∧ a ≤ (l.length : Int) - 1)) := by
  unfold spec_l5At.f
  rw [show wrap64 ((l.length : Int) - 1) = (l.length : Int) - 1 from w64g (by omega) (by omega), spec_l1In_eq']
  rfl
set_option maxHeartbeats 8000000 in
set_option maxRecDepth 100000 in
theorem spec_l12Given.calls (p : Nat) (A0 A1 A2 A3 A4 A5 : Option Addr) (c0 c1 c2 c3 c4 c5 n2 n3 n4 n5 : Nat) (lt : List S76) (lg : List S46) (A : Option Addr) (c : Nat) (l : List S59) (w : World)
    (hI : w.heap[p]? = some (.cells #[.slice A0 lt.length c0, .slice A1 lg.length c1, .slice A2 n2 c2, .slice A3 n3 c3, .slice A4 n4 c4, .slice A5 n5 c5] 34 (0, 0)))
    (hr0 : Kd.C k76 w A0 lt.length lt) (hc0 : lt.length ≤ c0) (hr1 : Kd.C k46 w A1 lg.length lg) (hr : Kd.C k59 w A l.length l) :
    Calls Try.prog 17 #[.pointer (some ⟨p, 0, none⟩), .slice A l.length c] w fun e w' => e = .returned (.int .i64 (if l.any (gvBad lt lg) = true then 3 else 0)) ∧ Below w.heap.size w w' := by
 have hu1 := Try.underlying34
 have hu2 := Try.underlying59
 have hu3 := Try.underlying46
 have BI := Z_ hI
 have a0 := Z_ hr0
 have a1 := Z_ hc0
 have a2 := Z_ hr1
 have HR := Z_ hr
 have HN0 := Z_ hr0.2.1
 have HN1 := Z_ hr1.2.1
 clear hI hr0 hc0 hr1 hr
 obtain ⟨r, hrs⟩ : ∃ r : Int, r = if l.any (gvBad lt lg) = true then 3 else 0 := ⟨_, rfl⟩
 rw [← hrs]
 have HRS := Z_ hrs
 clear hrs
 go_enter Try.func17, Try.ntmps17
 go_wp2
 go_loopg [5] l.length (fun gg v5 wr => ∃ kk : Nat, kk ≤ l.length ∧ l.length - kk ≤ gg ∧ v5 = .int .i64 kk ∧ Aside0 (Below w.heap.size w wr) ∧ Aside0 (∀ j : Nat, j < kk → gvBad lt lg (rd_T59 l j) = false))
 case atStart => exact ⟨0, Nat.zero_le _, by omega, rfl, Z_ (Below.refl _ w), Z_ (fun j hj => absurd hj (Nat.not_lt_zero _))⟩
 case round =>
  obtain ⟨kk, hkk, hg, rfl, HB, HA⟩ := hrel
  by_cases hlt : kk < l.length
  ·have hltz : (kk : Int) < (l.length : Int) := by omega
   obtain ⟨ad, e, hx0, hx1, hx2, hx3⟩ := at_T59 (Kd.C_below HR.out HB.out) (kk : Int) (by omega) (by omega)
   rw [Int.toNat_natCast] at hx0 hx1 hx2 hx3
   subst e
   have hm : rd_T59 l (kk : Int) ∈ l := by
     have : rd_T59 l (kk : Int) = l[kk] := by simp [rd_T59, List.getD, List.getElem?_eq_getElem hlt]
     rw [this]; exact List.getElem_mem hlt
   generalize hy : rd_T59 l (kk : Int) = y at hx0 hx1 hx2 hx3 hm
   have HM := Z_ hm
   clear hm
   have HY := Z_ hy
   clear hy
   have BW := Z_ (HB.out.block p (blk_lt BI.out) |>.trans BI.out)
   obtain ⟨_, _, _, _, _, _, _, _, _, _, _, _⟩ := bc6 BW.out
   obtain ⟨b1, hb1⟩ : ∃ b, b = decide (1 ≤ y.f0 ∧ y.f0 ≤ (lg.length : Int)) := ⟨_, rfl⟩
   have H1 := Z_ (show spec_l1In.f y.f0 1 (lg.length : Int) = some b1 by rw [hb1]; exact spec_l1In_eq' _ _ _)
   obtain ⟨b3, hb3⟩ : ∃ b, b = decide (1 ≤ y.f2 ∧ y.f2 ≤ 9999) := ⟨_, rfl⟩
   have H3 := Z_ (show spec_l1In.f y.f2 1 9999 = some b3 by rw [hb3]; exact spec_l1In_eq' _ _ _)
   obtain ⟨b4, hb4⟩ : ∃ b, b = decide (0 ≤ y.f3 ∧ y.f3 ≤ (lt.length : Int) - 1) := ⟨_, rfl⟩
   have H4 := Z_ (show spec_l5At.f lt y.f3 = some b4 by rw [hb4]; exact spec_l5At_eq' lt _ HN0.out)
   obtain ⟨b2, hb2⟩ : ∃ b, b = decide (0 ≤ y.f1 ∧ y.f1 ≤ ((rd_T46 lg (y.f0 - 1)).f2.length : Int) - 1) := ⟨_, rfl⟩
   have HG := Z_ (show gvBad lt lg y = !(b1 && b2 && b3 && b4) by rw [hb1, hb2, hb3, hb4]; rfl)
   clear hb3 hb4
   have HB1 := Z_ hb1
   have HB2 := Z_ hb2
   clear hb1 hb2
   cases b1 with
   | false =>
    go_wp2_with (first | ((with_reducible refine gD_ 6 rfl ?_); refine bx_ #[.int .i64 0, .int .i64 0, .int .i64 0, .int .i64 0] 59 ?_; intro g6 hg6 w6 hbox hb; have n0_ := Z_ (bB_ BW.out hb); have n1_ := Z_ (lP_ HB.out hb); have B6 := Z_ hbox; have S6 := Z_ ((by rw [hg6]; exact (below_size HB.out) : w.heap.size ≤ g6)); have NE := Z_ ((by rw [hg6]; exact Nat.ne_of_lt (blk_lt BW.out)) : p ≠ g6);  clear HB BW; have HB := n1_; have BW := n0_; clear n0_ n1_; replace hx0 := (hb.cell (World.block_lt_of_cell? wr _ hx0)).trans hx0; replace hx1 := (hb.cell (World.block_lt_of_cell? wr _ hx1)).trans hx1; replace hx2 := (hb.cell (World.block_lt_of_cell? wr _ hx2)).trans hx2; replace hx3 := (hb.cell (World.block_lt_of_cell? wr _ hx3)).trans hx3; clear hbox hb hg6; have q1 := NE.out; have q2 := NE.out.symm; obtain ⟨_, _, _, _, _, _, _, _⟩ := bc4 B6.out; obtain ⟨_, _, _, _, _, _, _, _, _, _, _, _⟩ := bc6 BW.out))
    go_quiet (first | (go_at_call 40; (with_reducible refine (spec_l1In.calls y.f0 1 (lg.length : Int) false _ H1.out).mono ?_); rintro e w' ⟨rfl, ⟨nd, rfl⟩⟩; (try first | exact ⟨rfl, _, World.drewN_drewN _ _ _⟩ | exact ⟨rfl, _, Eq.trans (World.drewN_drewN _ _ _) (congrArg (World.drewN _) (Nat.add_assoc _ _ _))⟩)))
    go_wp2
    obtain rfl : r = 3 := HRS.out.trans (if_pos (List.any_eq_true.2 ⟨y, HM.out, HG.out.trans (by simp)⟩))
    go_ret
    exact ⟨rfl, Lb_⟩
   | true =>
    have hq := of_decide_eq_true HB1.out.symm
    obtain ⟨ag, A2g, c2g, eg, hg0, hg1, hg2, _, hTC⟩ := at_T46 (Kd.C_below a2.out HB.out) (y.f0 - 1) (by omega) (by omega)
    subst eg
    obtain ⟨ji, hj⟩ : ∃ j, y.f0 - 1 = j := ⟨_, rfl⟩
    have hjiw : IntKind.i64.wrap (y.f0 - 1) = ji := by rw [i64_w, w64g (by omega) (by have := HN1.out; omega)]; exact hj
    have hb2 := HB2.out
    clear HB2
    rw [hj] at hg2 hb2 hTC
    have pj : (0 ≤ ji) = True := eq_true (by omega)
    have qj : (ji < (lg.length : Int)) = True := eq_true (by omega)
    have hT := Z_ hTC.2.1
    clear hq hg0 hg1 hTC hj
    have Q3 := Z_ (World.block_lt_of_cell? wr _ hg2)
    generalize (rd_T46 lg ji).f2 = tl at hg2 hb2 hT
    have H2 := Z_ (show spec_l1In.f y.f1 0 (wrap64 ((tl.length : Int) - 1)) = some b2 by rw [hb2, w64g (by omega) (by have := hT.out; omega)]; exact spec_l1In_eq' _ _ _)
    clear hb2
    cases b2 with
    | false =>
     go_wp2_with (first | ((with_reducible refine gD_ 6 rfl ?_); refine bx_ #[.int .i64 0, .int .i64 0, .int .i64 0, .int .i64 0] 59 ?_; intro g6 hg6 w6 hbox hb; have n0_ := Z_ (bB_ BW.out hb); have n1_ := Z_ (lP_ HB.out hb); have B6 := Z_ hbox; have S6 := Z_ ((by rw [hg6]; exact (below_size HB.out) : w.heap.size ≤ g6)); have NE := Z_ ((by rw [hg6]; exact Nat.ne_of_lt (blk_lt BW.out)) : p ≠ g6); have q3 : (ag.add (ji.toNat * 3)).block ≠ g6 := (by rw [hg6]; exact Nat.ne_of_lt Q3.out); have q4 := q3.symm;  clear HB BW; have HB := n1_; have BW := n0_; clear n0_ n1_; replace hx0 := (hb.cell (World.block_lt_of_cell? wr _ hx0)).trans hx0; replace hx1 := (hb.cell (World.block_lt_of_cell? wr _ hx1)).trans hx1; replace hx2 := (hb.cell (World.block_lt_of_cell? wr _ hx2)).trans hx2; replace hx3 := (hb.cell (World.block_lt_of_cell? wr _ hx3)).trans hx3; replace hg2 := (hb.cell (World.block_lt_of_cell? wr _ hg2)).trans hg2; clear hbox hb hg6; have q1 := NE.out; have q2 := NE.out.symm; obtain ⟨_, _, _, _, _, _, _, _⟩ := bc4 B6.out; obtain ⟨_, _, _, _, _, _, _, _, _, _, _, _⟩ := bc6 BW.out))
     go_quiet (first | (go_at_call 40; (with_reducible refine (spec_l1In.calls y.f0 1 (lg.length : Int) true _ H1.out).mono ?_); rintro e w' ⟨rfl, ⟨nd, rfl⟩⟩; (try first | exact ⟨rfl, _, World.drewN_drewN _ _ _⟩ | exact ⟨rfl, _, Eq.trans (World.drewN_drewN _ _ _) (congrArg (World.drewN _) (Nat.add_assoc _ _ _))⟩)) | (go_at_call 40; (with_reducible refine (spec_l1In.calls y.f1 0 (wrap64 ((tl.length : Int) - 1)) false _ H2.out).mono ?_); rintro e w' ⟨rfl, ⟨nd, rfl⟩⟩; (try first | exact ⟨rfl, _, World.drewN_drewN _ _ _⟩ | exact ⟨rfl, _, Eq.trans (World.drewN_drewN _ _ _) (congrArg (World.drewN _) (Nat.add_assoc _ _ _))⟩)))
     go_wp2
     obtain rfl : r = 3 := HRS.out.trans (if_pos (List.any_eq_true.2 ⟨y, HM.out, HG.out.trans (by simp)⟩))
     go_ret
     exact ⟨rfl, Lb_⟩
    | true =>
     cases b3 with
     | false =>
      go_wp2_with (first | ((with_reducible refine gD_ 6 rfl ?_); refine bx_ #[.int .i64 0, .int .i64 0, .int .i64 0, .int .i64 0] 59 ?_; intro g6 hg6 w6 hbox hb; have n0_ := Z_ (bB_ BW.out hb); have n1_ := Z_ (lP_ HB.out hb); have B6 := Z_ hbox; have S6 := Z_ ((by rw [hg6]; exact (below_size HB.out) : w.heap.size ≤ g6)); have NE := Z_ ((by rw [hg6]; exact Nat.ne_of_lt (blk_lt BW.out)) : p ≠ g6); have q3 : (ag.add (ji.toNat * 3)).block ≠ g6 := (by rw [hg6]; exact Nat.ne_of_lt Q3.out); have q4 := q3.symm;  clear HB BW; have HB := n1_; have BW := n0_; clear n0_ n1_; replace hx0 := (hb.cell (World.block_lt_of_cell? wr _ hx0)).trans hx0; replace hx1 := (hb.cell (World.block_lt_of_cell? wr _ hx1)).trans hx1; replace hx2 := (hb.cell (World.block_lt_of_cell? wr _ hx2)).trans hx2; replace hx3 := (hb.cell (World.block_lt_of_cell? wr _ hx3)).trans hx3; replace hg2 := (hb.cell (World.block_lt_of_cell? wr _ hg2)).trans hg2; clear hbox hb hg6; have q1 := NE.out; have q2 := NE.out.symm; obtain ⟨_, _, _, _, _, _, _, _⟩ := bc4 B6.out; obtain ⟨_, _, _, _, _, _, _, _, _, _, _, _⟩ := bc6 BW.out))
      go_quiet (first | (go_at_call 40; (with_reducible refine (spec_l1In.calls y.f0 1 (lg.length : Int) true _ H1.out).mono ?_); rintro e w' ⟨rfl, ⟨nd, rfl⟩⟩; (try first | exact ⟨rfl, _, World.drewN_drewN _ _ _⟩ | exact ⟨rfl, _, Eq.trans (World.drewN_drewN _ _ _) (congrArg (World.drewN _) (Nat.add_assoc _ _ _))⟩)) | (go_at_call 40; (with_reducible refine (spec_l1In.calls y.f1 0 (wrap64 ((tl.length : Int) - 1)) true _ H2.out).mono ?_); rintro e w' ⟨rfl, ⟨nd, rfl⟩⟩; (try first | exact ⟨rfl, _, World.drewN_drewN _ _ _⟩ | exact ⟨rfl, _, Eq.trans (World.drewN_drewN _ _ _) (congrArg (World.drewN _) (Nat.add_assoc _ _ _))⟩)) | (go_at_call 40; (with_reducible refine (spec_l1In.calls y.f2 1 9999 false _ H3.out).mono ?_); rintro e w' ⟨rfl, ⟨nd, rfl⟩⟩; (try first | exact ⟨rfl, _, World.drewN_drewN _ _ _⟩ | exact ⟨rfl, _, Eq.trans (World.drewN_drewN _ _ _) (congrArg (World.drewN _) (Nat.add_assoc _ _ _))⟩)))
      go_wp2
      obtain rfl : r = 3 := HRS.out.trans (if_pos (List.any_eq_true.2 ⟨y, HM.out, HG.out.trans (by simp)⟩))
      go_ret
      exact ⟨rfl, Lb_⟩
     | true =>
      cases b4 with
      | false =>
       go_wp2_with (first | ((with_reducible refine gD_ 6 rfl ?_); refine bx_ #[.int .i64 0, .int .i64 0, .int .i64 0, .int .i64 0] 59 ?_; intro g6 hg6 w6 hbox hb; have n0_ := Z_ (bB_ BW.out hb); have n1_ := Z_ (lP_ HB.out hb); have B6 := Z_ hbox; have S6 := Z_ ((by rw [hg6]; exact (below_size HB.out) : w.heap.size ≤ g6)); have NE := Z_ ((by rw [hg6]; exact Nat.ne_of_lt (blk_lt BW.out)) : p ≠ g6); have q3 : (ag.add (ji.toNat * 3)).block ≠ g6 := (by rw [hg6]; exact Nat.ne_of_lt Q3.out); have q4 := q3.symm;  clear HB BW; have HB := n1_; have BW := n0_; clear n0_ n1_; replace hx0 := (hb.cell (World.block_lt_of_cell? wr _ hx0)).trans hx0; replace hx1 := (hb.cell (World.block_lt_of_cell? wr _ hx1)).trans hx1; replace hx2 := (hb.cell (World.block_lt_of_cell? wr _ hx2)).trans hx2; replace hx3 := (hb.cell (World.block_lt_of_cell? wr _ hx3)).trans hx3; replace hg2 := (hb.cell (World.block_lt_of_cell? wr _ hg2)).trans hg2; clear hbox hb hg6; have q1 := NE.out; have q2 := NE.out.symm; obtain ⟨_, _, _, _, _, _, _, _⟩ := bc4 B6.out; obtain ⟨_, _, _, _, _, _, _, _, _, _, _, _⟩ := bc6 BW.out))
       go_quiet (first | (go_at_call 40; (with_reducible refine (spec_l1In.calls y.f0 1 (lg.length : Int) true _ H1.out).mono ?_); rintro e w' ⟨rfl, ⟨nd, rfl⟩⟩; (try first | exact ⟨rfl, _, World.drewN_drewN _ _ _⟩ | exact ⟨rfl, _, Eq.trans (World.drewN_drewN _ _ _) (congrArg (World.drewN _) (Nat.add_assoc _ _ _))⟩)) | (go_at_call 40; (with_reducible refine (spec_l1In.calls y.f1 0 (wrap64 ((tl.length : Int) - 1)) true _ H2.out).mono ?_); rintro e w' ⟨rfl, ⟨nd, rfl⟩⟩; (try first | exact ⟨rfl, _, World.drewN_drewN _ _ _⟩ | exact ⟨rfl, _, Eq.trans (World.drewN_drewN _ _ _) (congrArg (World.drewN _) (Nat.add_assoc _ _ _))⟩)) | (go_at_call 40; (with_reducible refine (spec_l1In.calls y.f2 1 9999 true _ H3.out).mono ?_); rintro e w' ⟨rfl, ⟨nd, rfl⟩⟩; (try first | exact ⟨rfl, _, World.drewN_drewN _ _ _⟩ | exact ⟨rfl, _, Eq.trans (World.drewN_drewN _ _ _) (congrArg (World.drewN _) (Nat.add_assoc _ _ _))⟩)) | (go_at_call 42; (with_reducible refine (spec_l5At.calls A0 c0 lt y.f3 false _ ?side1 ?side2 H4.out).mono ?_); (case side1 => first | exact Kd.C_below a0.out Lb_ | (refine Kd.C_drewN ?_ _; exact Kd.C_below a0.out Lb_)); (case side2 => exact a1.out); rintro e w' ⟨rfl, ⟨nd, rfl⟩⟩; (try first | exact ⟨rfl, _, World.drewN_drewN _ _ _⟩ | exact ⟨rfl, _, Eq.trans (World.drewN_drewN _ _ _) (congrArg (World.drewN _) (Nat.add_assoc _ _ _))⟩)))
       go_wp2
       obtain rfl : r = 3 := HRS.out.trans (if_pos (List.any_eq_true.2 ⟨y, HM.out, HG.out.trans (by simp)⟩))
       go_ret
       exact ⟨rfl, Lb_⟩
      | true =>
       go_wp2_with (first | ((with_reducible refine gD_ 6 rfl ?_); refine bx_ #[.int .i64 0, .int .i64 0, .int .i64 0, .int .i64 0] 59 ?_; intro g6 hg6 w6 hbox hb; have n0_ := Z_ (bB_ BW.out hb); have n1_ := Z_ (lP_ HB.out hb); have B6 := Z_ hbox; have S6 := Z_ ((by rw [hg6]; exact (below_size HB.out) : w.heap.size ≤ g6)); have NE := Z_ ((by rw [hg6]; exact Nat.ne_of_lt (blk_lt BW.out)) : p ≠ g6); have q3 : (ag.add (ji.toNat * 3)).block ≠ g6 := (by rw [hg6]; exact Nat.ne_of_lt Q3.out); have q4 := q3.symm;  clear HB BW; have HB := n1_; have BW := n0_; clear n0_ n1_; replace hx0 := (hb.cell (World.block_lt_of_cell? wr _ hx0)).trans hx0; replace hx1 := (hb.cell (World.block_lt_of_cell? wr _ hx1)).trans hx1; replace hx2 := (hb.cell (World.block_lt_of_cell? wr _ hx2)).trans hx2; replace hx3 := (hb.cell (World.block_lt_of_cell? wr _ hx3)).trans hx3; replace hg2 := (hb.cell (World.block_lt_of_cell? wr _ hg2)).trans hg2; clear hbox hb hg6; have q1 := NE.out; have q2 := NE.out.symm; obtain ⟨_, _, _, _, _, _, _, _⟩ := bc4 B6.out; obtain ⟨_, _, _, _, _, _, _, _, _, _, _, _⟩ := bc6 BW.out))
       go_quiet (first | (go_at_call 40; (with_reducible refine (spec_l1In.calls y.f0 1 (lg.length : Int) true _ H1.out).mono ?_); rintro e w' ⟨rfl, ⟨nd, rfl⟩⟩; (try first | exact ⟨rfl, _, World.drewN_drewN _ _ _⟩ | exact ⟨rfl, _, Eq.trans (World.drewN_drewN _ _ _) (congrArg (World.drewN _) (Nat.add_assoc _ _ _))⟩)) | (go_at_call 40; (with_reducible refine (spec_l1In.calls y.f1 0 (wrap64 ((tl.length : Int) - 1)) true _ H2.out).mono ?_); rintro e w' ⟨rfl, ⟨nd, rfl⟩⟩; (try first | exact ⟨rfl, _, World.drewN_drewN _ _ _⟩ | exact ⟨rfl, _, Eq.trans (World.drewN_drewN _ _ _) (congrArg (World.drewN _) (Nat.add_assoc _ _ _))⟩)) | (go_at_call 40; (with_reducible refine (spec_l1In.calls y.f2 1 9999 true _ H3.out).mono ?_); rintro e w' ⟨rfl, ⟨nd, rfl⟩⟩; (try first | exact ⟨rfl, _, World.drewN_drewN _ _ _⟩ | exact ⟨rfl, _, Eq.trans (World.drewN_drewN _ _ _) (congrArg (World.drewN _) (Nat.add_assoc _ _ _))⟩)) | (go_at_call 42; (with_reducible refine (spec_l5At.calls A0 c0 lt y.f3 true _ ?side1 ?side2 H4.out).mono ?_); (case side1 => first | exact Kd.C_below a0.out Lb_ | (refine Kd.C_drewN ?_ _; exact Kd.C_below a0.out Lb_)); (case side2 => exact a1.out); rintro e w' ⟨rfl, ⟨nd, rfl⟩⟩; (try first | exact ⟨rfl, _, World.drewN_drewN _ _ _⟩ | exact ⟨rfl, _, Eq.trans (World.drewN_drewN _ _ _) (congrArg (World.drewN _) (Nat.add_assoc _ _ _))⟩)))
       go_wp2
       go_roundg (l.length - (kk + 1))
       case measure => omega
       case rel =>
        have hl := HR.out.2.1
        refine ⟨kk + 1, by omega, by omega, (by rw [w64g (by omega) (by omega)]; first | rfl | (push_cast; rfl)), Z_ Lb_, Z_ (fun j hj => ?_)⟩
        by_cases e : j = kk
        ·subst e
         rw [HY.out]; exact HG.out
        ·exact HA.out j (by omega)
  ·have hltz : ¬ (kk : Int) < (l.length : Int) := by omega
   obtain rfl : kk = l.length := by omega
   have hz : r = 0 := by
     refine HRS.out.trans (if_neg ?_)
     rw [Bool.not_eq_true, List.any_eq_false]
     intro x hx
     obtain ⟨j, hj, rfl⟩ := List.getElem_of_mem hx
     have := HA.out j hj
     rw [show rd_T59 l (j : Int) = l[j] by simp [rd_T59, List.getD, List.getElem?_eq_getElem hj]] at this
     simp [this]
   subst hz
   go_wp2
   go_ret
   exact ⟨rfl, HB.out⟩
theorem gS_ {P : Program} {f : FuncId} {x : Value} {w : World} {Q : Ending → World → Prop} (A : Option Addr) (l c : Nat) (h : Calls P f #[x, .slice A l c] w Q) : Calls P f #[x, .slice A l c] w Q := h
theorem Bj_ {P Q : Prop} (a : Aside0 Q) (h : Q → P := by intro h_; repeat (first | exact h_ | apply bN_ | apply bD_)) : P := h a.out
theorem iB2_ {α : Type} {t : Bool} {x y : Option α} {r : α} (h : (if t = true then x else y) = some r) : t = true ∧ x = some r ∨ ¬ t = true ∧ y = some r := by cases t <;> simp_all
def spec_NetFault.g (k : Nat) (lt : List S76) (lg : List S46) (lb lh : List Int) (lv lw : List S59) (u : Int) : Option Int :=
  if u = 0 then (spec_l12Broken.f k lb).bind fun b => if b = 0 then (spec_KnownFault.f k lt lh).bind fun n => if n = 0 then
    (if lv.any (gvBad lt lg) = true then some 3 else if lw.any (gvBad lt lg) = true then some 3 else some 0) else some n else some b else some u
def spec_NetFault.f (k : Nat) (lt : List S76) (lg : List S46) (lb lh : List Int) (lv lw : List S59) : Option Int :=
  (spec_TermsFault.f k lt).bind fun c => if c = 0 then
    (if (lg.length : Int) < 2 then some 2 else if 4 < (lg.length : Int) then some 2 else if 60 < (lv.length : Int) then some 2 else if 60 < (lw.length : Int) then some 2 else
      (nfGates (spec_l11Gate.f k lt) 0 lg).bind (spec_NetFault.g k lt lg lb lh lv lw)) else some c
set_option maxHeartbeats 8000000 in
set_option maxRecDepth 100000 in
theorem spec_NetFault.calls (k : Nat) (A0 : Option Addr) (c0 : Nat) (lt : List S76) (A1 : Option Addr) (c1 : Nat) (lg : List S46) (A2 : Option Addr) (c2 : Nat) (lb : List Int) (A3 : Option Addr) (c3 : Nat) (lh : List Int) (A4 : Option Addr) (c4 : Nat) (lv : List S59) (A5 : Option Addr) (c5 : Nat) (lw : List S59) (r : Int) (w : World) (hr0 : Kd.C k76 w A0 lt.length lt) (hc0 : lt.length ≤ c0) (hr1 : Kd.C k46 w A1 lg.length lg) (hc1 : lg.length ≤ c1) (hr2 : Kd.C (Kd.int .i64) w A2 lb.length lb) (hc2 : lb.length ≤ c2) (hr3 : Kd.C (Kd.int .i64) w A3 lh.length lh) (hc3 : lh.length ≤ c3) (hr4 : Kd.C k59 w A4 lv.length lv) (hc4 : lv.length ≤ c4) (hr5 : Kd.C k59 w A5 lw.length lw) (hc5 : lw.length ≤ c5) (h : spec_NetFault.f k lt lg lb lh lv lw = some r) :
    Calls Try.prog 5 #[.agg #[.slice A0 lt.length c0, .slice A1 lg.length c1, .slice A2 lb.length c2, .slice A3 lh.length c3, .slice A4 lv.length c4, .slice A5 lw.length c5]] w fun e w' => e = .returned (.int .i64 r) ∧ Below w.heap.size w w' := by
 have hu1 := Try.underlying34
 have hu2 := Try.underlying46
 have a0 := Z_ hr0
 have a1 := Z_ hc0
 clear hr0 hc0
 have a2 := Z_ hr1
 have a9 := Z_ hc1
 clear hr1 hc1
 have a3 := Z_ hr2
 have a4 := Z_ hc2
 clear hr2 hc2
 have a5 := Z_ hr3
 have a6 := Z_ hc3
 clear hr3 hc3
 have a7 := Z_ hr4
 have aa := Z_ hc4
 clear hr4 hc4
 have a8 := Z_ hr5
 have ab := Z_ hc5
 clear hr5 hc5
 have HN1 := Z_ a2.out.2.1
 have HB := Z_ (Below.refl w.heap.size w)
 unfold spec_NetFault.f at h
 have H := h
 clear h
 replace H := bS_ H
 obtain ⟨c, HT, H⟩ := H
 replace H := iE_ H
 obtain ⟨c0b0, c0b1, H⟩ | ⟨c0b0, c0b1, H⟩ := H
 replace H := iD_ H
 obtain ⟨d10, H⟩ | ⟨d10, H⟩ := H
 focus
  have g0_ := trivial
 rotate_left
 replace H := iD_ H
 obtain ⟨d20, H⟩ | ⟨d20, H⟩ := H
 focus
  have g0_ := trivial
 rotate_left
 replace H := iD_ H
 obtain ⟨d30, H⟩ | ⟨d30, H⟩ := H
 focus
  have g0_ := trivial
 rotate_left
 replace H := iD_ H
 obtain ⟨d40, H⟩ | ⟨d40, H⟩ := H
 focus
  have g0_ := trivial
 rotate_left
 rotate_left
 focus
  have g0_ := trivial
 rotate_right
 all_goals (try (clear g0_; clear HN1; obtain rfl := Option.some.inj H; go_enter Try.func5, Try.ntmps5; go_wp2_with (first | ((with_reducible refine gD_ 1 rfl ?_); refine bx_ #[.slice A0 lt.length c0, .slice A1 lg.length c1, .slice A2 lb.length c2, .slice A3 lh.length c3, .slice A4 lv.length c4, .slice A5 lw.length c5] 34 ?_; intro p hg1 w1 hbox hb; have BI := Z_ hbox; have SP := Z_ ((by rw [hg1]; exact (below_size HB.out) : w.heap.size ≤ p)); replace HB := Z_ (lP_ HB.out hb); clear hbox hb hg1; obtain ⟨_, _, _, _, _, _, _, _, _, _, _, _⟩ := bc6 BI.out) | (go_at_call 13; refine (spec_TermsFault.calls k A0 c0 lt c _ (Kd.C_below a0.out Lb_) a1.out HT.out).mono ?_; rintro e w7_ ⟨rfl, hb⟩; replace BI := Z_ (bB_ (Bj_ BI) hb); replace HB := Z_ (lP_ Lb_ hb); clear hb; obtain ⟨_, _, _, _, _, _, _, _, _, _, _, _⟩ := bc6 BI.out)); go_ret; exact ⟨rfl, Lb_⟩))
 have H' := Z_ H
 clear H
 go_enter Try.func5, Try.ntmps5
 go_wp2_with (first | ((with_reducible refine gD_ 1 rfl ?_); refine bx_ #[.slice A0 lt.length c0, .slice A1 lg.length c1, .slice A2 lb.length c2, .slice A3 lh.length c3, .slice A4 lv.length c4, .slice A5 lw.length c5] 34 ?_; intro p hg1 w1 hbox hb; have BI := Z_ hbox; have SP := Z_ ((by rw [hg1]; exact (below_size HB.out) : w.heap.size ≤ p)); replace HB := Z_ (lP_ HB.out hb); clear hbox hb hg1; obtain ⟨_, _, _, _, _, _, _, _, _, _, _, _⟩ := bc6 BI.out) | (go_at_call 13; refine (spec_TermsFault.calls k A0 c0 lt c _ (Kd.C_below a0.out Lb_) a1.out HT.out).mono ?_; rintro e w7_ ⟨rfl, hb⟩; replace BI := Z_ (bB_ (Bj_ BI) hb); replace HB := Z_ (lP_ Lb_ hb); clear hb; obtain ⟨_, _, _, _, _, _, _, _, _, _, _, _⟩ := bc6 BI.out))
 go_loopg [4] lg.length (fun gg v4 wr => ∃ kk : Nat, kk ≤ lg.length ∧ lg.length - kk ≤ gg ∧ v4 = .int .i64 kk ∧ Aside0 (wr.heap[p]? = some (.cells #[.slice A0 lt.length c0, .slice A1 lg.length c1, .slice A2 lb.length c2, .slice A3 lh.length c3, .slice A4 lv.length c4, .slice A5 lw.length c5] 34 (0, 0))) ∧ Aside0 (Below w.heap.size w wr) ∧ Aside0 ((nfGates (spec_l11Gate.f k lt) kk (lg.drop kk)).bind (spec_NetFault.g k lt lg lb lh lv lw) = some r))
 case atStart => exact ⟨0, Nat.zero_le _, by omega, rfl, ⟨Bj_ BI⟩, ⟨Lb_⟩, H'⟩
 case round =>
  clear H' HB BI
  obtain ⟨kk, hkk, hgg, rfl, BI, HB, H⟩ := hrel
  obtain ⟨_, _, _, _, _, _, _, _, _, _, _, _⟩ := bc6 BI.out
  by_cases hlt : kk < lg.length
  rotate_left
  ·have hltz : ¬ (kk : Int) < (lg.length : Int) := by omega
   obtain rfl : kk = lg.length := by omega
   replace H := H.out
   rw [List.drop_length] at H
   replace H : spec_NetFault.g k lt lg lb lh lv lw 0 = some r := H
   unfold spec_NetFault.g at H
   rw [if_pos rfl] at H
   replace H := bS_ H
   obtain ⟨b, HBF, H⟩ := H
   replace H := iE_ H
   obtain ⟨c6b0, c6b1, H⟩ | ⟨c6b0, c6b1, H⟩ := H
   rotate_left
   rotate_right
   replace H := bS_ H
   obtain ⟨n, HKF, H⟩ := H
   replace H := iE_ H
   obtain ⟨c7b0, c7b1, H⟩ | ⟨c7b0, c7b1, H⟩ := H
   rotate_left
   rotate_right
   replace H := iB2_ H
   obtain ⟨v4, H⟩ | ⟨v4, H⟩ := H
   rotate_left
   replace H := iB2_ H
   obtain ⟨v5, H⟩ | ⟨v5, H⟩ := H
   all_goals (obtain rfl := Option.some.inj H; go_wp2_with (first | (go_at_call 15; (with_reducible refine (spec_l12Broken.calls k A2 c2 lb b _ (Kd.C_below a3.out Lb_) a4.out HBF.out).mono ?_); rintro e w' ⟨rfl, ⟨nd, rfl⟩⟩) | (go_at_call 16; refine (spec_KnownFault.calls k A0 c0 lt A3 c3 lh n _ (Kd.C_below a0.out Lb_) a1.out (Kd.C_below a5.out Lb_) a6.out HKF.out).mono ?_; rintro e w7_ ⟨rfl, hb⟩; replace BI := Z_ (bB_ (Bj_ BI) hb); replace HB := Z_ (lP_ Lb_ hb); clear hb; obtain ⟨_, _, _, _, _, _, _, _, _, _, _, _⟩ := bc6 BI.out) | (go_at_call 17; (with_reducible refine gS_ A4 lv.length c4 ?_); refine (spec_l12Given.calls p A0 A1 A2 A3 A4 A5 c0 c1 c2 c3 c4 c5 lb.length lh.length lv.length lw.length lt lg A4 c4 lv _ (Bj_ BI) (Kd.C_below a0.out Lb_) a1.out (Kd.C_below a2.out Lb_) (Kd.C_below a7.out Lb_)).mono ?_; rintro e w7_ ⟨he, hb⟩; (first | rw [if_pos v4] at he | rw [if_neg v4] at he); subst he; replace BI := Z_ (bB_ (Bj_ BI) hb); replace HB := Z_ (lP_ Lb_ hb); clear hb; obtain ⟨_, _, _, _, _, _, _, _, _, _, _, _⟩ := bc6 BI.out) | (go_at_call 17; (with_reducible refine gS_ A5 lw.length c5 ?_); refine (spec_l12Given.calls p A0 A1 A2 A3 A4 A5 c0 c1 c2 c3 c4 c5 lb.length lh.length lv.length lw.length lt lg A5 c5 lw _ (Bj_ BI) (Kd.C_below a0.out Lb_) a1.out (Kd.C_below a2.out Lb_) (Kd.C_below a8.out Lb_)).mono ?_; rintro e w7_ ⟨he, hb⟩; (first | rw [if_pos v5] at he | rw [if_neg v5] at he); subst he; replace BI := Z_ (bB_ (Bj_ BI) hb); replace HB := Z_ (lP_ Lb_ hb); clear hb; obtain ⟨_, _, _, _, _, _, _, _, _, _, _, _⟩ := bc6 BI.out)); go_ret; exact ⟨rfl, Lb_⟩)
  have hltz : (kk : Int) < (lg.length : Int) := by omega
  have pj : (0 ≤ (kk : Int)) = True := eq_true (by omega)
  have qj : ((kk : Int) < (lg.length : Int)) = True := eq_true (by omega)
  replace H := H.out
  rw [nf_get lg kk hlt] at H
  unfold nfGates at H
  rw [Option.bind_assoc] at H
  replace H := bS_ H
  obtain ⟨c9, HF, H⟩ := H
  have H1 := Z_ H
  clear H
  obtain ⟨ad, A2e, c2e, e, hx0, hx1, hx2, hTL, hTC⟩ := at_T46 a2.out (kk : Int) (by omega) (by omega)
  cases e
  rw [Int.toNat_natCast] at hx0 hx1 hx2
  replace hx0 := cB_ HB hx0
  replace hx1 := cB_ HB hx1
  replace hx2 := cB_ HB hx2
  generalize rd_T46 lg (kk : Int) = y at hx0 hx1 hx2 hTL hTC HF H1
  have HTL := Z_ hTL
  have HTC := Z_ hTC
  clear hTL hTC
  go_wp2
  replace BI := Z_ (bD_ BI.out)
  replace HB := Z_ (lD_ HB.out)
  replace hx0 := (show wr.drew.cell? _ = _ from hx0)
  replace hx1 := (show wr.drew.cell? _ = _ from hx1)
  replace hx2 := (show wr.drew.cell? _ = _ from hx2)
  refine start_ (n := 9) (S := fun w' => w'.cell? ⟨p, 0, none⟩ = some (.slice A0 lt.length c0) ∧ w'.cell? ⟨p, 1, none⟩ = some (.slice (some ad) lg.length c1) ∧ w'.cell? (ad.add (kk * 3)) = some (.int .i64 y.f0) ∧ w'.cell? ⟨(ad.add (kk * 3)).block, (ad.add (kk * 3)).off + 1, none⟩ = some (.int .i64 y.f1) ∧ w'.cell? ⟨(ad.add (kk * 3)).block, (ad.add (kk * 3)).off + 2, none⟩ = some (.slice A2e y.f2.length c2e)) (ds := []) #[false, false, false, false, false, false, false, false, false] (by kernel_rfl) rfl rfl ⟨(blk_cell BI.out 0).trans rfl, (blk_cell BI.out 1).trans rfl, hx0, hx1, hx2⟩ (fun hHeld => ?_)
  generalize wr.drew = wD at BI HB hHeld hx0 hx1 hx2 ⊢
  refine pure_ (i := 0) (N := some 44) (v := ?_) (a' := ?_) #[true, false, false, false, false, false, false, false, false] rfl rfl (by kernel_rfl) (fun _ _ _ h => h) (Or.inl ⟨by rfl, ?_⟩) ?_ ?_
  rotate_left
  ·intro w'
   go_simp
   with_reducible rfl
  rotate_left
  ·simp only [Act.put, lA_, lZ_, lS_, i64_w, i32_w]
   rfl
  refine take_ (i := 1) (N := some 45) (v := ?_) (a' := ?_) #[true, true, false, false, false, false, false, false, false] rfl rfl (by kernel_rfl) (fun _ _ _ h => h) (Or.inl ⟨by rfl, ?_⟩) hHeld ?_ ?_
  rotate_left
  ·rintro w' ⟨s0, s1, s2, s3, s4⟩
   go_simp
   with_reducible rfl
  rotate_left
  ·simp only [Act.put, lA_, lZ_, lS_, i64_w, i32_w]
   rfl
  refine pure_ (i := 2) (N := some 46) (v := ?_) (a' := ?_) #[true, true, true, false, false, false, false, false, false] rfl rfl (by kernel_rfl) (fun _ _ _ h => h) (Or.inl ⟨by rfl, ?_⟩) ?_ ?_
  rotate_left
  ·intro w'
   go_simp
   with_reducible rfl
  rotate_left
  ·simp only [Act.put, lA_, lZ_, lS_, i64_w, i32_w]
   rfl
  refine take_ (i := 3) (N := some 47) (v := ?_) (a' := ?_) #[true, true, true, true, false, false, false, false, false] rfl rfl (by kernel_rfl) (fun _ _ _ h => h) (Or.inl ⟨by rfl, ?_⟩) hHeld ?_ ?_
  rotate_left
  ·rintro w' ⟨s0, s1, s2, s3, s4⟩
   go_simp
   with_reducible rfl
  rotate_left
  ·simp only [Act.put, lA_, lZ_, lS_, i64_w, i32_w]
   rfl
  refine pure_ (i := 4) (N := some 48) (v := ?_) (a' := ?_) #[true, true, true, true, true, false, false, false, false] rfl rfl (by kernel_rfl) (fun _ _ _ h => h) (Or.inl ⟨by rfl, ?_⟩) ?_ ?_
  rotate_left
  ·intro w'
   go_simp
   with_reducible rfl
  rotate_left
  ·simp only [Act.put, lA_, lZ_, lS_, i64_w, i32_w]
   rfl
  refine pure_ (i := 5) (N := some 49) (v := ?_) (a' := ?_) #[true, true, true, true, true, true, false, false, false] rfl rfl (by kernel_rfl) (fun _ _ _ h => h) (Or.inl ⟨by rfl, ?_⟩) ?_ ?_
  rotate_left
  ·intro w'
   go_simp
   with_reducible rfl
  rotate_left
  ·simp only [Act.put, lA_, lZ_, lS_, i64_w, i32_w]
   rfl
  refine take_ (i := 6) (N := some 50) (v := ?_) (a' := ?_) #[true, true, true, true, true, true, true, false, false] rfl rfl (by kernel_rfl) (fun _ _ _ h => h) (Or.inl ⟨by rfl, ?_⟩) hHeld ?_ ?_
  rotate_left
  ·rintro w' ⟨s0, s1, s2, s3, s4⟩
   go_simp
   with_reducible rfl
  rotate_left
  ·simp only [Act.put, lA_, lZ_, lS_, i64_w, i32_w]
   rfl
  refine one_ (i := 7) (N := some 51) #[true, true, true, true, true, true, true, true, false] rfl rfl (by kernel_rfl) (by decide) (fun K hK => ?_)
  refine goes_ Try.func14 (by kernel_rfl) rfl #[.slice A0 lt.length c0, .agg #[.int .i64 y.f0, .int .i64 y.f1, .slice A2e y.f2.length c2e]] (by rfl) rfl rfl (by (try simp only [List.map_toArray, List.map_cons, List.map_nil]); first | done | rfl) ?_
  refine (spec_l11Gate.calls k A0 c0 lt y.f0 y.f1 A2e c2e y.f2 c9 _ (Kd.C_below a0.out HB.out) a1.out (Kd.C_below HTC.out HB.out) HTL.out HF.out).mono ?_
  rintro e w51 ⟨rfl, hb⟩
  refine ⟨_, rfl, ?_⟩
  replace BI := Z_ (bB_ BI.out hb)
  replace HB := Z_ (lP_ HB.out hb)
  replace hx0 := (hb.cell (World.block_lt_of_cell? _ _ hx0)).trans hx0
  replace hx1 := (hb.cell (World.block_lt_of_cell? _ _ hx1)).trans hx1
  replace hx2 := (hb.cell (World.block_lt_of_cell? _ _ hx2)).trans hx2
  clear hb
  refine hK.out _ _ ⟨(blk_cell BI.out 0).trans rfl, (blk_cell BI.out 1).trans rfl, hx0, hx1, hx2⟩ (fun hHeld => ?_)
  clear hK K
  refine norm_ (a' := ?_) ?_ ?_
  rotate_left
  ·show Act.put _ (some 51) _ = _
   simp only [Act.put, lA_, lZ_, lS_, i64_w, i32_w]
   rfl
  refine pure_ (i := 8) (N := some 5) (v := ?_) (a' := ?_) #[true, true, true, true, true, true, true, true, true] rfl rfl (by kernel_rfl) (fun _ _ _ h => h) (Or.inl ⟨by rfl, ?_⟩) ?_ ?_
  rotate_left
  ·intro w'
   go_simp
   with_reducible rfl
  rotate_left
  ·simp only [Act.put, lA_, lZ_, lS_, i64_w, i32_w]
   rfl
  refine done_ (by kernel_rfl) ?_
  obtain ⟨_, _, _, _, _, _, _, _, _, _, _, _⟩ := bc6 BI.out
  replace H := H1.out
  clear H1
  by_cases hz : c9 = 0
  rotate_left
  ·rw [if_neg hz] at H
   replace H : spec_NetFault.g k lt lg lb lh lv lw c9 = some r := H
   unfold spec_NetFault.g at H
   rw [if_neg hz] at H
   have hz0 : (c9 == 0) = false := by simpa using hz
   have hz1 : (c9 != 0) = true := by simpa using hz
   clear hz
   obtain rfl := Option.some.inj H
   go_wp2
   go_ret
   exact ⟨rfl, Lb_⟩
  subst hz
  rw [if_pos rfl] at H
  have hw1 : IntKind.i64.wrap ((kk : Int) + 1) = (kk : Int) + 1 := by rw [i64_w, w64g (by omega) (by have := HN1.out; omega)]
  by_cases hid : y.f0 = (kk : Int) + 1
  rotate_left
  ·rw [if_neg hid] at H
   obtain rfl : 1 = r := Option.some.inj H
   have hz0 : (y.f0 == (kk : Int) + 1) = false := by simpa using hid
   have hz1 : (y.f0 != (kk : Int) + 1) = true := by simpa using hid
   go_wp2
   go_ret
   exact ⟨rfl, Lb_⟩
  rw [if_pos hid] at H
  have hz0 : (y.f0 == (kk : Int) + 1) = true := by simpa using hid
  have hz1 : (y.f0 != (kk : Int) + 1) = false := by simpa using hid
  clear hid
  have H' := Z_ (show (nfGates (spec_l11Gate.f k lt) ((kk + 1 : Nat) : Int) (lg.drop (kk + 1))).bind (spec_NetFault.g k lt lg lb lh lv lw) = some r from by push_cast; exact H)
  clear H
  go_wp2
  go_roundg (lg.length - (kk + 1))
  case measure => omega
  case rel => exact ⟨kk + 1, by omega, by omega, (by have := HN1.out; first | rfl | (rw [hw1]; push_cast; rfl) | (rw [w64g (by omega) (by omega)]; push_cast; rfl) | (push_cast; rfl)), ⟨Bj_ BI⟩, ⟨Lb_⟩, H'⟩
def laws_toTerm.f (a0_0 a0_1 a0_2 a0_3 : Int) : Option (Int × Int × Int × Int) := some (a0_0, a0_1, a0_2, a0_3)
set_option maxHeartbeats 8000000 in
set_option maxRecDepth 100000 in
theorem laws_toTerm.calls (a0_0 a0_1 a0_2 a0_3 r1 r2 r3 r4 : Int) (w : World) (h : laws_toTerm.f a0_0 a0_1 a0_2 a0_3 = some (r1, r2, r3, r4)) :
  Calls Try.prog 43 #[.agg #[.int .i64 a0_0, .int .i64 a0_1, .int .i64 a0_2, .int .i64 a0_3]] w fun e w' => e = .returned (.agg #[.int .i64 r1, .int .i64 r2, .int .i64 r3, .int .i64 r4]) ∧ Below w.heap.size w w' := by
 have hu85 := Try.underlying85
 have hu76 := Try.underlying76
 have HB := Z_ (Below.refl w.heap.size w)
 unfold laws_toTerm.f at h
 have H := h
 clear h
 simp only [Option.some.injEq, Prod.mk.injEq] at H
 obtain ⟨rfl, rfl, rfl, rfl⟩ := H
 go_enter Try.func43, Try.ntmps43
 go_wp2_with (first | ((with_reducible refine gD_ 1 rfl ?_); refine bx_ #[.int .i64 a0_0, .int .i64 a0_1, .int .i64 a0_2, .int .i64 a0_3] 85 ?_; intro gb197 hg w2 hbox hb; have BK197 := Z_ hbox; have GE197 := Z_ ((by rw [hg]; exact (below_size HB.out) : w.heap.size ≤ gb197)); replace HB := Z_ (lP_ HB.out hb); clear hb hbox hg) | ((with_reducible refine gD_ 2 rfl ?_); refine bx_ #[.int .i64 0, .int .i64 0, .int .i64 0, .int .i64 0] 76 ?_; intro gb198 hg w3 hbox hb; have BK198 := Z_ hbox; have GE198 := Z_ ((by rw [hg]; exact (below_size HB.out) : w.heap.size ≤ gb198)); replace HB := Z_ (lP_ HB.out hb); have NB197_198 := Z_ ((by rw [hg]; exact Nat.ne_of_lt (blk_lt BK197.out) : gb197 ≠ gb198)); replace BK197 := Z_ (bB_ BK197.out hb); have NB198_197 := Z_ NB197_198.out.symm; clear hb hbox hg) | ((with_reducible refine gD_ 3 rfl ?_); refine bx_ #[.int .i64 0, .int .i64 0, .int .i64 0, .int .i64 0] 76 ?_; intro gb199 hg w4 hbox hb; have BK199 := Z_ hbox; have GE199 := Z_ ((by rw [hg]; exact (below_size HB.out) : w.heap.size ≤ gb199)); replace HB := Z_ (lP_ HB.out hb); have NB197_199 := Z_ ((by rw [hg]; exact Nat.ne_of_lt (blk_lt BK197.out) : gb197 ≠ gb199)); replace BK197 := Z_ (bB_ BK197.out hb); have NB199_197 := Z_ NB197_199.out.symm; have NB198_199 := Z_ ((by rw [hg]; exact Nat.ne_of_lt (blk_lt BK198.out) : gb198 ≠ gb199)); replace BK198 := Z_ (bB_ BK198.out hb); have NB199_198 := Z_ NB198_199.out.symm; clear hb hbox hg; have hnb5 := NB197_198.out; have hnc5 := NB198_197.out; have hnb6 := NB197_199.out; have hnc6 := NB199_197.out; obtain ⟨_, _, _, _, _, _, _, _⟩ := bc4 BK197.out; have hnb8 := NB199_198.out; have hnc8 := NB198_199.out; obtain ⟨_, _, _, _, _, _, _, _⟩ := bc4 BK199.out; obtain ⟨_, _, _, _, _, _, _, _⟩ := bc4 BK198.out))
 refine bodyPost_ret (results_cell_row rfl _ _ gb198 76 #[.int .i64 a0_0, .int .i64 a0_1, .int .i64 a0_2, .int .i64 a0_3] (0, 0) _ rfl (by (with_reducible repeat first | apply bN_ | apply bD_ | apply bA_); apply fill4; (iterate 4 ((with_reducible repeat first | apply bN_ | apply bD_ | apply bA_); refine bF_ ?_ NB198_199.out _)); (with_reducible repeat first | apply bN_ | apply bD_ | apply bA_); exact BK198.out) Try.underlying76 rfl (by kernel_rfl)) rfl ?_
 exact ⟨Er_, Lb_⟩
def laws_toTermS.l0 : Nat → List (S85) → List (S76) → Int → Option ((List (S76)))
 | 0, _, _, _ => none
 | k + 1, x0, x3, x4 => if x4 < (x0.length : Int) then (if 0 ≤ x4 then ((laws_toTerm.f ((rd_T85 x0 x4).f0) ((rd_T85 x0 x4).f1) ((rd_T85 x0 x4).f2) ((rd_T85 x0 x4).f3)).bind fun bt204 => (if x4 < (x3.length : Int) then (laws_toTermS.l0 k x0 (x3.set (x4 : Int).toNat (⟨bt204.1, bt204.2.1, bt204.2.2.1, bt204.2.2.2⟩ : S76)) (wrap64 (x4 + 1))) else (none))) else (none)) else (some x3)
def laws_toTermS.f (k : Nat) (l0 : List (S85)) : Option ((List (S76))) := if 0 ≤ (l0.length : Int) then (if ((l0.length : Int) : Int).toNat ≤ 8796093022208 then (laws_toTermS.l0 k l0 (List.replicate ((l0.length : Int) : Int).toNat z76) 0) else (none)) else (none)
set_option maxHeartbeats 8000000 in
set_option maxRecDepth 100000 in
theorem laws_toTermS.calls (k : Nat) (A0 : Option Addr) (c0 : Nat) (l0 : List (S85)) (r : List (S76)) (w : World) (hr0 : Kd.C k85 w A0 l0.length l0) (hc0 : l0.length ≤ c0) (h : laws_toTermS.f k l0 = some r) :
  Calls Try.prog 18 #[.slice A0 l0.length c0] w fun e w' => ∃ v0_ : Value, e = .returned (v0_) ∧ Kd.R k76 76 w' w.heap.size (fun _ => True) v0_ r ∧ Below w.heap.size w w' := by
 have hu85 := Try.underlying85
 have hu76 := Try.underlying76
 have a8 := Z_ hr0
 have a9 := Z_ hc0
 clear hr0 hc0
 have HB := Z_ (Below.refl w.heap.size w)
 unfold laws_toTermS.f at h
 have H := h
 clear h
 replace H := iN_ H
 obtain ⟨c2, H⟩ := H
 have c2b0 := eq_true c2
 have c2b1 : decide (0 ≤ (l0.length : Int)) = true := decide_eq_true c2
 clear c2
 replace H := iN_ H
 obtain ⟨c3, H⟩ := H
 have c3b0 := eq_true c3
 have c3b1 : decide (((l0.length : Int) : Int).toNat ≤ 8796093022208) = true := decide_eq_true c3
 clear c3
 obtain ⟨y200, hy200⟩ : ∃ y_ : List (S76), y_ = (List.replicate ((l0.length : Int) : Int).toNat z76) := ⟨_, rfl⟩
 replace H : (laws_toTermS.l0 k l0 y200 0) = some r := by first | (rw [hy200]; with_reducible exact H) | (have H2_ := (Option.bind_some _ _).symm.trans H; rw [hy200]; with_reducible exact H2_) | (have H2_ := (Option.bind_some _ _).symm.trans H; with_reducible exact H2_) | with_reducible exact H | (rw [hy200]; exact H) | exact H
 have a2 := Z_ hy200
 clear hy200
 have H' := Z_ H
 clear H
 go_enter Try.func18, Try.ntmps18
 go_wp2_with (first | ((with_reducible refine gD_ 7 rfl ?_); refine Kd.R_make k76 _ 76 rfl (N := 7) rfl 30 _ _ rfl (l0.length : Int) rfl rfl Try.underlying30 (.agg #[(.int .i64 0), (.int .i64 0), (.int .i64 0), (.int .i64 0)]) 32 info76 rfl (by decide) (by omega) z76 (ok := fun _ => True) (okp := fun _ => True) (k76_mkM _ _ _ z76 ) (fun _ hk => hk) trivial (dA_) (Nat.le_trans (Nat.mul_le_mul_right _ (dA_ : (l0.length : Int).toNat ≤ 8796093022208)) (by omega)) (Below.refl _ _) (Nat.le_refl _) ?_; intro v201 w4 ho5 hb hg_ hnew_; clear hg_ hnew_; (first | rw [← a2.out] at ho5 | (simp only [Int.reduceToNat] at ho5; rw [← a2.out] at ho5)); have a5 := Z_ (Kd.R_lower ho5 (below_size HB.out)); replace HB := Z_ (lP_ HB.out hb); clear hb ho5))
 go_loopg [4] k (fun kq v4 w' => ∃ (x3_1 : List (S76)) (x4_1 : Int), v4 = .int .i64 x4_1 ∧ Aside0 (laws_toTermS.l0 kq l0 x3_1 x4_1 = some r) ∧ Aside0 (kq ≤ k) ∧ Aside0 (Kd.R k76 76 w' w.heap.size (fun _ => True) v201 x3_1) ∧ Aside0 (Below w.heap.size w w'))
 case atStart => exact ⟨(y200), (0), Sr_, H', ⟨Nat.le_refl _⟩, ⟨by (with_reducible repeat first | apply rA_ | apply rN_ | apply rD_); exact a5.out⟩, ⟨Lb_⟩⟩
 case round =>
  clear H'
  try clear c1
  try clear c2
  try clear c2b0
  try clear c2b1
  try clear p2
  try clear c3
  try clear c3b0
  try clear c3b1
  obtain ⟨x3_1, x4_1, rfl, HA, HK1, a0, HB⟩ := hrel
  cases gk with
  | zero => exact absurd HA.out (by simp [laws_toTermS.l0])
  | succ k1 =>
   have H := HA.out
   clear HA
   simp only [laws_toTermS.l0] at H
   replace H := iD_ H
   obtain ⟨c6b0, H⟩ | ⟨c6b0, H⟩ := H
   rotate_left
   ·obtain rfl := Option.some.inj H
    go_wp2
    go_ret
    exact ⟨_, Er_, by (with_reducible repeat first | apply rA_ | apply rN_ | apply rD_); exact a0.out, Lb_⟩
   rotate_right
   replace H := iM_ H
   obtain ⟨c7b0, H⟩ := H
   replace H := bS_ H
   obtain ⟨⟨t204, t205, t206, t207⟩, A8, H⟩ := H
   try dsimp only at H
   replace H := iM_ H
   obtain ⟨c9b0, H⟩ := H
   obtain ⟨y208, hy208⟩ : ∃ y_ : List (S76), y_ = (x3_1.set (x4_1 : Int).toNat (⟨t204, t205, t206, t207⟩ : S76)) := ⟨_, rfl⟩
   replace H : (laws_toTermS.l0 k1 l0 y208 (wrap64 (x4_1 + 1))) = some r := by first | (rw [hy208]; with_reducible exact H) | (have H2_ := (Option.bind_some _ _).symm.trans H; rw [hy208]; with_reducible exact H2_) | (have H2_ := (Option.bind_some _ _).symm.trans H; with_reducible exact H2_) | with_reducible exact H | (rw [hy208]; exact H) | exact H
   have a6 := Z_ hy208
   clear hy208
   have H' := Z_ H
   clear H
   have p203 : 0 ≤ (x4_1 : Int) := dA_
   have q203 : x4_1 < (l0.length : Int) := dA_
   obtain ⟨ad203, e203, hx203_0, hx203_1, hx203_2, hx203_3⟩ := at_T85 a8.out x4_1 p203 q203
   cases e203
   replace hx203_0 := cB_ HB hx203_0
   replace hx203_1 := cB_ HB hx203_1
   replace hx203_2 := cB_ HB hx203_2
   replace hx203_3 := cB_ HB hx203_3
   replace p203 := eq_true p203
   replace q203 := eq_true q203
   go_wp2_with (first | ((with_reducible refine gate_callee (f := 43) rfl ?_); refine goesA_ (some 20) rfl rfl Try.func43 (by kernel_rfl) rfl #[.agg #[.int .i64 ((rd_T85 l0 x4_1).f0), .int .i64 ((rd_T85 l0 x4_1).f1), .int .i64 ((rd_T85 l0 x4_1).f2), .int .i64 ((rd_T85 l0 x4_1).f3)]] rfl ?_; (with_reducible refine (laws_toTerm.calls ((rd_T85 l0 x4_1).f0) ((rd_T85 l0 x4_1).f1) ((rd_T85 l0 x4_1).f2) ((rd_T85 l0 x4_1).f3) t204 t205 t206 t207 _ A8.out).mono ?_); rintro e w11 ⟨rfl, hb⟩; refine ⟨_, rfl, ?_⟩; replace a0 := Z_ (Kd.R_below a0.out hb); replace HB := Z_ (lP_ HB.out hb); (try clear hb); have p10 : 0 ≤ (x4_1 : Int) := dA_; have q10 : (x4_1 : Int) < ((x3_1.length : Int) : Int) := dA_; obtain ⟨go10, a3, eo10, a4, gl10, cl10, HG10⟩ := Kd.R_form a0.out (by omega); (first | cases eo10 | (injection eo10 with ea_ en_ ec_; (first | subst ea_ | (injection ea_ with ea_; subst ea_)); subst ec_; clear en_)); have a1 := Z_ a4; have GG10 := Z_ HG10; clear a4 gl10 HG10; obtain ⟨ce10, hcl10, hM10, hcc10, hfr10⟩ := Kd.R_elem a0.out z76 (x4_1 : Int) p10 q10; obtain rfl := k76_openM hM10; have hx10_0 : w11.cell? ⟨go10, (x4_1 : Int).toNat * 4, none⟩ = some (.int .i64 ((rd_T76 x3_1 x4_1).f0)) := hcc10 0 _ rfl; have hx10_1 : w11.cell? ⟨go10, (x4_1 : Int).toNat * 4 + 1, none⟩ = some (.int .i64 ((rd_T76 x3_1 x4_1).f1)) := hcc10 1 _ rfl; have hx10_2 : w11.cell? ⟨go10, (x4_1 : Int).toNat * 4 + 2, none⟩ = some (.int .i64 ((rd_T76 x3_1 x4_1).f2)) := hcc10 2 _ rfl; have hx10_3 : w11.cell? ⟨go10, (x4_1 : Int).toNat * 4 + 3, none⟩ = some (.int .i64 ((rd_T76 x3_1 x4_1).f3)) := hcc10 3 _ rfl; have hf10_0 : w11.frozen? ⟨go10, (x4_1 : Int).toNat * 4, none⟩ = false := hfr10 0; have hf10_1 : w11.frozen? ⟨go10, (x4_1 : Int).toNat * 4 + 1, none⟩ = false := hfr10 1; have hf10_2 : w11.frozen? ⟨go10, (x4_1 : Int).toNat * 4 + 2, none⟩ = false := hfr10 2; have hf10_3 : w11.frozen? ⟨go10, (x4_1 : Int).toNat * 4 + 3, none⟩ = false := hfr10 3; clear hcl10 hcc10 hfr10 hM10; replace p10 := eq_true p10; replace q10 := eq_true q10; have HX12 := Z_ (show Kd.R k76 76 w11 w.heap.size (fun _ => True) (.slice (some ⟨go10, 0, none⟩) x3_1.length a3) x3_1 from a0.out); obtain ⟨ce12, hcl12, hM12, hcc12, hfr12⟩ := Kd.R_elem HX12.out z76 (x4_1 : Int) (dA_) (by have h_ : (x4_1 : Int) < ((x3_1.length : Int) : Int) := dA_; first | exact h_ | (have e_ := (Kd.R_reads' a0.out).1; omega) | simpa using h_); obtain rfl := k76_openM hM12; have HP12 := Kd.R_seg HX12.out (x4_1 : Int) (dA_) (by have h_ : (x4_1 : Int) < ((x3_1.length : Int) : Int) := dA_; first | exact h_ | (have e_ := (Kd.R_reads' a0.out).1; omega) | simpa using h_) (seg := [.int .i64 t204, .int .i64 t205, .int .i64 t206, .int .i64 t207]) (j := 0) hcl12 hcc12 (show 4 ≤ 4 from by decide) (x' := (⟨t204, t205, t206, t207⟩ : S76)) (k76_mkM _ _ _ (⟨t204, t205, t206, t207⟩ : S76) ) (fun _ hk => hk); have hx12_0 := hcc12 0 _ rfl; (try simp only [show (k76).sz = 4 from rfl, Nat.mul_one, Nat.add_zero] at hx12_0); have hf12_0 := hfr12 0; (try simp only [show (k76).sz = 4 from rfl, Nat.mul_one, Nat.add_zero] at hf12_0); have hx12_1 := hcc12 1 _ rfl; (try simp only [show (k76).sz = 4 from rfl, Nat.mul_one, Nat.add_zero] at hx12_1); have hf12_1 := hfr12 1; (try simp only [show (k76).sz = 4 from rfl, Nat.mul_one, Nat.add_zero] at hf12_1); have hx12_2 := hcc12 2 _ rfl; (try simp only [show (k76).sz = 4 from rfl, Nat.mul_one, Nat.add_zero] at hx12_2); have hf12_2 := hfr12 2; (try simp only [show (k76).sz = 4 from rfl, Nat.mul_one, Nat.add_zero] at hf12_2); have hx12_3 := hcc12 3 _ rfl; (try simp only [show (k76).sz = 4 from rfl, Nat.mul_one, Nat.add_zero] at hx12_3); have hf12_3 := hfr12 3; (try simp only [show (k76).sz = 4 from rfl, Nat.mul_one, Nat.add_zero] at hf12_3); clear hcl12 hcc12 hfr12 hM12) | ((with_reducible refine gate_store (t := 76) (p := 21) rfl ?_); refine store_event (t := 76) (p := 21) (v := ?vo_w13) (w1 := ((((w11.setCell ⟨go10, (x4_1 : Int).toNat * 4, none⟩ (.int .i64 t204)).setCell ⟨go10, (x4_1 : Int).toNat * 4 + 1, none⟩ (.int .i64 t205)).setCell ⟨go10, (x4_1 : Int).toNat * 4 + 2, none⟩ (.int .i64 t206)).setCell ⟨go10, (x4_1 : Int).toNat * 4 + 3, none⟩ (.int .i64 t207))) ?hg ?ho ?hn ?hr ?_; (case ho => rfl); (case hg => rfl); (case hn => rfl); (case hr => first | (go_simp; done) | (go_simp; rfl)); intro w13 hw; have hg : w11.grownBy w13 (some go10) := (by rw [hw]; exact HP12.2); have hp_ : Kd.R k76 76 w13 w.heap.size (fun _ => True) (.slice (some ⟨go10, 0, none⟩) x3_1.length a3) y208 := (by rw [hw, a6.out]; exact HP12.1); clear HP12; replace a0 := Z_ (hp_); replace HB := Z_ ((by rw [hw]; exact lS1_ (lS1_ (lS1_ (lS1_ (HB.out) a1.out) a1.out) a1.out) a1.out : Below w.heap.size w w13)); clear hg hw hp_))
   go_roundg k1
   case measure => have := HK1.out; omega
   case rel => exact ⟨(y208), (wrap64 (x4_1 + 1)), Sr_, H', ⟨by have := HK1.out; omega⟩, ⟨by (with_reducible repeat first | apply rA_ | apply rN_ | apply rD_); exact a0.out⟩, ⟨Lb_⟩⟩
def laws_toKeys.f (a0_0 a0_1 a0_2 a0_3 : Int) : Option (Int × Int × Int × Int) := some (a0_0, a0_1, a0_2, a0_3)
set_option maxHeartbeats 8000000 in
set_option maxRecDepth 100000 in
theorem laws_toKeys.calls (a0_0 a0_1 a0_2 a0_3 r1 r2 r3 r4 : Int) (w : World) (h : laws_toKeys.f a0_0 a0_1 a0_2 a0_3 = some (r1, r2, r3, r4)) :
  Calls Try.prog 78 #[.agg #[.int .i64 a0_0, .int .i64 a0_1, .int .i64 a0_2, .int .i64 a0_3]] w fun e w' => e = .returned (.agg #[.int .i64 r1, .int .i64 r2, .int .i64 r3, .int .i64 r4]) ∧ Below w.heap.size w w' := by
 have hu115 := Try.underlying115
 have hu79 := Try.underlying79
 have HB := Z_ (Below.refl w.heap.size w)
 unfold laws_toKeys.f at h
 have H := h
 clear h
 simp only [Option.some.injEq, Prod.mk.injEq] at H
 obtain ⟨rfl, rfl, rfl, rfl⟩ := H
 go_enter Try.func78, Try.ntmps78
 go_wp2_with (first | ((with_reducible refine gD_ 1 rfl ?_); refine bx_ #[.int .i64 a0_0, .int .i64 a0_1, .int .i64 a0_2, .int .i64 a0_3] 115 ?_; intro gb209 hg w2 hbox hb; have BK209 := Z_ hbox; have GE209 := Z_ ((by rw [hg]; exact (below_size HB.out) : w.heap.size ≤ gb209)); replace HB := Z_ (lP_ HB.out hb); clear hb hbox hg) | ((with_reducible refine gD_ 2 rfl ?_); refine bx_ #[.int .i64 0, .int .i64 0, .int .i64 0, .int .i64 0] 79 ?_; intro gb210 hg w3 hbox hb; have BK210 := Z_ hbox; have GE210 := Z_ ((by rw [hg]; exact (below_size HB.out) : w.heap.size ≤ gb210)); replace HB := Z_ (lP_ HB.out hb); have NB209_210 := Z_ ((by rw [hg]; exact Nat.ne_of_lt (blk_lt BK209.out) : gb209 ≠ gb210)); replace BK209 := Z_ (bB_ BK209.out hb); have NB210_209 := Z_ NB209_210.out.symm; clear hb hbox hg) | ((with_reducible refine gD_ 3 rfl ?_); refine bx_ #[.int .i64 0, .int .i64 0, .int .i64 0, .int .i64 0] 79 ?_; intro gb211 hg w4 hbox hb; have BK211 := Z_ hbox; have GE211 := Z_ ((by rw [hg]; exact (below_size HB.out) : w.heap.size ≤ gb211)); replace HB := Z_ (lP_ HB.out hb); have NB209_211 := Z_ ((by rw [hg]; exact Nat.ne_of_lt (blk_lt BK209.out) : gb209 ≠ gb211)); replace BK209 := Z_ (bB_ BK209.out hb); have NB211_209 := Z_ NB209_211.out.symm; have NB210_211 := Z_ ((by rw [hg]; exact Nat.ne_of_lt (blk_lt BK210.out) : gb210 ≠ gb211)); replace BK210 := Z_ (bB_ BK210.out hb); have NB211_210 := Z_ NB210_211.out.symm; clear hb hbox hg; have hnb5 := NB209_210.out; have hnc5 := NB210_209.out; have hnb6 := NB209_211.out; have hnc6 := NB211_209.out; obtain ⟨_, _, _, _, _, _, _, _⟩ := bc4 BK209.out; have hnb8 := NB211_210.out; have hnc8 := NB210_211.out; obtain ⟨_, _, _, _, _, _, _, _⟩ := bc4 BK211.out; obtain ⟨_, _, _, _, _, _, _, _⟩ := bc4 BK210.out))
 refine bodyPost_ret (results_cell_row rfl _ _ gb210 79 #[.int .i64 a0_0, .int .i64 a0_1, .int .i64 a0_2, .int .i64 a0_3] (0, 0) _ rfl (by (with_reducible repeat first | apply bN_ | apply bD_ | apply bA_); apply fill4; (iterate 4 ((with_reducible repeat first | apply bN_ | apply bD_ | apply bA_); refine bF_ ?_ NB210_211.out _)); (with_reducible repeat first | apply bN_ | apply bD_ | apply bA_); exact BK210.out) Try.underlying79 rfl (by kernel_rfl)) rfl ?_
 exact ⟨Er_, Lb_⟩
def laws_toWindow.f (a0_0 a0_1 : Int) : Option (Int × Int) := some (a0_0, a0_1)
set_option maxHeartbeats 8000000 in
set_option maxRecDepth 100000 in
theorem laws_toWindow.calls (a0_0 a0_1 r1 r2 : Int) (w : World) (h : laws_toWindow.f a0_0 a0_1 = some (r1, r2)) :
  Calls Try.prog 79 #[.agg #[.int .i64 a0_0, .int .i64 a0_1]] w fun e w' => e = .returned (.agg #[.int .i64 r1, .int .i64 r2]) ∧ Below w.heap.size w w' := by
 have hu116 := Try.underlying116
 have hu81 := Try.underlying81
 have HB := Z_ (Below.refl w.heap.size w)
 unfold laws_toWindow.f at h
 have H := h
 clear h
 simp only [Option.some.injEq, Prod.mk.injEq] at H
 obtain ⟨rfl, rfl⟩ := H
 go_enter Try.func79, Try.ntmps79
 go_wp2_with (first | ((with_reducible refine gD_ 1 rfl ?_); refine bx_ #[.int .i64 a0_0, .int .i64 a0_1] 116 ?_; intro gb212 hg w2 hbox hb; have BK212 := Z_ hbox; have GE212 := Z_ ((by rw [hg]; exact (below_size HB.out) : w.heap.size ≤ gb212)); replace HB := Z_ (lP_ HB.out hb); clear hb hbox hg) | ((with_reducible refine gD_ 2 rfl ?_); refine bx_ #[.int .i64 0, .int .i64 0] 81 ?_; intro gb213 hg w3 hbox hb; have BK213 := Z_ hbox; have GE213 := Z_ ((by rw [hg]; exact (below_size HB.out) : w.heap.size ≤ gb213)); replace HB := Z_ (lP_ HB.out hb); have NB212_213 := Z_ ((by rw [hg]; exact Nat.ne_of_lt (blk_lt BK212.out) : gb212 ≠ gb213)); replace BK212 := Z_ (bB_ BK212.out hb); have NB213_212 := Z_ NB212_213.out.symm; clear hb hbox hg) | ((with_reducible refine gD_ 3 rfl ?_); refine bx_ #[.int .i64 0, .int .i64 0] 81 ?_; intro gb214 hg w4 hbox hb; have BK214 := Z_ hbox; have GE214 := Z_ ((by rw [hg]; exact (below_size HB.out) : w.heap.size ≤ gb214)); replace HB := Z_ (lP_ HB.out hb); have NB212_214 := Z_ ((by rw [hg]; exact Nat.ne_of_lt (blk_lt BK212.out) : gb212 ≠ gb214)); replace BK212 := Z_ (bB_ BK212.out hb); have NB214_212 := Z_ NB212_214.out.symm; have NB213_214 := Z_ ((by rw [hg]; exact Nat.ne_of_lt (blk_lt BK213.out) : gb213 ≠ gb214)); replace BK213 := Z_ (bB_ BK213.out hb); have NB214_213 := Z_ NB213_214.out.symm; clear hb hbox hg; have hnb5 := NB212_213.out; have hnc5 := NB213_212.out; have hnb6 := NB212_214.out; have hnc6 := NB214_212.out; obtain ⟨_, _, _, _⟩ := bc2 BK212.out; have hnb8 := NB214_213.out; have hnc8 := NB213_214.out; obtain ⟨_, _, _, _⟩ := bc2 BK214.out; obtain ⟨_, _, _, _⟩ := bc2 BK213.out))
 refine bodyPost_ret (results_cell_row rfl _ _ gb213 81 #[.int .i64 a0_0, .int .i64 a0_1] (0, 0) _ rfl (by (with_reducible repeat first | apply bN_ | apply bD_ | apply bA_); apply fill2; (iterate 2 ((with_reducible repeat first | apply bN_ | apply bD_ | apply bA_); refine bF_ ?_ NB213_214.out _)); (with_reducible repeat first | apply bN_ | apply bD_ | apply bA_); exact BK213.out) Try.underlying81 rfl (by kernel_rfl)) rfl ?_
 exact ⟨Er_, Lb_⟩
def laws_toTalk.f (a0_0 a0_1 a0_2 a0_3 a0_4 a0_5 a0_6 a0_7 a0_8 a0_9 a0_10 a0_11 a0_12 a0_13 a0_14 a0_15 a0_16 a0_17 a0_18 a0_19 : Int) : Option (Int × Int × Int × Int × Int × Int × Int × Int × Int × Int × Int × Int × Int × Int × Int × Int × Int × Int × Int × Int) := (laws_toKeys.f a0_11 a0_12 a0_13 a0_14).bind fun bt218 => ((laws_toWindow.f a0_18 a0_19).bind fun bt222 => (some (a0_0, a0_1, a0_2, a0_3, a0_4, a0_5, a0_6, a0_7, a0_8, a0_9, a0_10, bt218.1, bt218.2.1, bt218.2.2.1, bt218.2.2.2, a0_15, a0_16, a0_17, bt222.1, bt222.2)))
set_option maxHeartbeats 8000000 in
set_option maxRecDepth 100000 in
theorem laws_toTalk.calls (a0_0 a0_1 a0_2 a0_3 a0_4 a0_5 a0_6 a0_7 a0_8 a0_9 a0_10 a0_11 a0_12 a0_13 a0_14 a0_15 a0_16 a0_17 a0_18 a0_19 r1 r2 r3 r4 r5 r6 r7 r8 r9 r10 r11 r12 r13 r14 r15 r16 r17 r18 r19 r20 : Int) (w : World) (h : laws_toTalk.f a0_0 a0_1 a0_2 a0_3 a0_4 a0_5 a0_6 a0_7 a0_8 a0_9 a0_10 a0_11 a0_12 a0_13 a0_14 a0_15 a0_16 a0_17 a0_18 a0_19 = some (r1, r2, r3, r4, r5, r6, r7, r8, r9, r10, r11, r12, r13, r14, r15, r16, r17, r18, r19, r20)) :
  Calls Try.prog 70 #[.agg #[.int .i64 a0_0, .int .i64 a0_1, .int .i64 a0_2, .int .i64 a0_3, .int .i64 a0_4, .int .i64 a0_5, .int .i64 a0_6, .int .i64 a0_7, .int .i64 a0_8, .int .i64 a0_9, .int .i64 a0_10, .int .i64 a0_11, .int .i64 a0_12, .int .i64 a0_13, .int .i64 a0_14, .int .i64 a0_15, .int .i64 a0_16, .int .i64 a0_17, .int .i64 a0_18, .int .i64 a0_19]] w fun e w' => e = .returned (.agg #[.int .i64 r1, .int .i64 r2, .int .i64 r3, .int .i64 r4, .int .i64 r5, .int .i64 r6, .int .i64 r7, .int .i64 r8, .int .i64 r9, .int .i64 r10, .int .i64 r11, .int .i64 r12, .int .i64 r13, .int .i64 r14, .int .i64 r15, .int .i64 r16, .int .i64 r17, .int .i64 r18, .int .i64 r19, .int .i64 r20]) ∧ Below w.heap.size w w' := by
 have hu118 := Try.underlying118
 have hu83 := Try.underlying83
 have hu115 := Try.underlying115
 have hu79 := Try.underlying79
 have hu116 := Try.underlying116
 have hu81 := Try.underlying81
 have HB := Z_ (Below.refl w.heap.size w)
 unfold laws_toTalk.f at h
 have H := h
 clear h
 replace H := bS_ H
 obtain ⟨⟨t218, t219, t220, t221⟩, A2, H⟩ := H
 try dsimp only at H
 replace H := bS_ H
 obtain ⟨⟨t222, t223⟩, A3, H⟩ := H
 try dsimp only at H
 simp only [Option.some.injEq, Prod.mk.injEq] at H
 obtain ⟨rfl, rfl, rfl, rfl, rfl, rfl, rfl, rfl, rfl, rfl, rfl, rfl, rfl, rfl, rfl, rfl, rfl, rfl, rfl, rfl⟩ := H
 go_enter Try.func70, Try.ntmps70
 go_wp2_with (first | ((with_reducible refine gD_ 1 rfl ?_); refine bx_ #[.int .i64 a0_0, .int .i64 a0_1, .int .i64 a0_2, .int .i64 a0_3, .int .i64 a0_4, .int .i64 a0_5, .int .i64 a0_6, .int .i64 a0_7, .int .i64 a0_8, .int .i64 a0_9, .int .i64 a0_10, .int .i64 a0_11, .int .i64 a0_12, .int .i64 a0_13, .int .i64 a0_14, .int .i64 a0_15, .int .i64 a0_16, .int .i64 a0_17, .int .i64 a0_18, .int .i64 a0_19] 118 ?_; intro a7 hg w4 hbox hb; have a0 := Z_ hbox; have a8 := Z_ ((by rw [hg]; exact (below_size HB.out) : w.heap.size ≤ a7)); replace HB := Z_ (lP_ HB.out hb); clear hb hbox hg) | ((with_reducible refine gD_ 2 rfl ?_); refine bx_ #[.int .i64 0, .int .i64 0, .int .i64 0, .int .i64 0, .int .i64 0, .int .i64 0, .int .i64 0, .int .i64 0, .int .i64 0, .int .i64 0, .int .i64 0, .int .i64 0, .int .i64 0, .int .i64 0, .int .i64 0, .int .i64 0, .int .i64 0, .int .i64 0, .int .i64 0, .int .i64 0] 83 ?_; intro a4 hg w5 hbox hb; have a1 := Z_ hbox; have a9 := Z_ ((by rw [hg]; exact (below_size HB.out) : w.heap.size ≤ a4)); replace HB := Z_ (lP_ HB.out hb); have ab := Z_ ((by rw [hg]; exact Nat.ne_of_lt (blk_lt a0.out) : a7 ≠ a4)); replace a0 := Z_ (bB_ a0.out hb); have ac := Z_ ab.out.symm; clear hb hbox hg) | ((with_reducible refine gD_ 3 rfl ?_); refine bx_ #[.int .i64 0, .int .i64 0, .int .i64 0, .int .i64 0, .int .i64 0, .int .i64 0, .int .i64 0, .int .i64 0, .int .i64 0, .int .i64 0, .int .i64 0, .int .i64 0, .int .i64 0, .int .i64 0, .int .i64 0, .int .i64 0, .int .i64 0, .int .i64 0, .int .i64 0, .int .i64 0] 83 ?_; intro a5 hg w6 hbox hb; have a2 := Z_ hbox; have aa := Z_ ((by rw [hg]; exact (below_size HB.out) : w.heap.size ≤ a5)); replace HB := Z_ (lP_ HB.out hb); have a6 := Z_ ((by rw [hg]; exact Nat.ne_of_lt (blk_lt a0.out) : a7 ≠ a5)); replace a0 := Z_ (bB_ a0.out hb); have ad := Z_ a6.out.symm; have a3 := Z_ ((by rw [hg]; exact Nat.ne_of_lt (blk_lt a1.out) : a4 ≠ a5)); replace a1 := Z_ (bB_ a1.out hb); have ae := Z_ a3.out.symm; clear hb hbox hg; have aj := ab.out; have ak := ac.out; have al := a6.out; have am := ad.out; obtain ⟨_, _, _, _, _, _, _, _, _, _, _, _, _, _, _, _, _, _, _, _, _, _, _, _, _, _, _, _, _, _, _, _, _, _, _, _, _, _, _, _⟩ := bc20 a0.out; have ah := ae.out; have ai := a3.out; obtain ⟨_, _, _, _, _, _, _, _, _, _, _, _, _, _, _, _, _, _, _, _, _, _, _, _, _, _, _, _, _, _, _, _, _, _, _, _, _, _, _, _⟩ := bc20 a2.out) | ((with_reducible refine gate_callee (f := 78) rfl ?_); refine goesA_ (some 39) rfl rfl Try.func78 (by kernel_rfl) rfl #[.agg #[.int .i64 a0_11, .int .i64 a0_12, .int .i64 a0_13, .int .i64 a0_14]] rfl ?_; (with_reducible refine (laws_toKeys.calls a0_11 a0_12 a0_13 a0_14 t218 t219 t220 t221 _ A2.out).mono ?_); rintro e w12 ⟨rfl, hb⟩; refine ⟨_, rfl, ?_⟩; replace a0 := Z_ (bB_ (g := a7) (o := .cells #[.int .i64 a0_0, .int .i64 a0_1, .int .i64 a0_2, .int .i64 a0_3, .int .i64 a0_4, .int .i64 a0_5, .int .i64 a0_6, .int .i64 a0_7, .int .i64 a0_8, .int .i64 a0_9, .int .i64 a0_10, .int .i64 a0_11, .int .i64 a0_12, .int .i64 a0_13, .int .i64 a0_14, .int .i64 a0_15, .int .i64 a0_16, .int .i64 a0_17, .int .i64 a0_18, .int .i64 a0_19] 118 (0, 0)) (by (iterate 11 (refine bF_ ?_ a6.out _)); exact a0.out) hb); replace a1 := Z_ (bB_ (g := a4) (o := .cells #[.int .i64 0, .int .i64 0, .int .i64 0, .int .i64 0, .int .i64 0, .int .i64 0, .int .i64 0, .int .i64 0, .int .i64 0, .int .i64 0, .int .i64 0, .int .i64 0, .int .i64 0, .int .i64 0, .int .i64 0, .int .i64 0, .int .i64 0, .int .i64 0, .int .i64 0, .int .i64 0] 83 (0, 0)) (by (iterate 11 (refine bF_ ?_ a3.out _)); exact a1.out) hb); replace a2 := Z_ (bB_ (g := a5) (o := .cells #[.int .i64 a0_0, .int .i64 a0_1, .int .i64 a0_2, .int .i64 a0_3, .int .i64 a0_4, .int .i64 a0_5, .int .i64 a0_6, .int .i64 a0_7, .int .i64 a0_8, .int .i64 a0_9, .int .i64 a0_10, .int .i64 0, .int .i64 0, .int .i64 0, .int .i64 0, .int .i64 0, .int .i64 0, .int .i64 0, .int .i64 0, .int .i64 0] 83 (0, 0)) (by refine blk_put (cs := #[.int .i64 a0_0, .int .i64 a0_1, .int .i64 a0_2, .int .i64 a0_3, .int .i64 a0_4, .int .i64 a0_5, .int .i64 a0_6, .int .i64 a0_7, .int .i64 a0_8, .int .i64 a0_9, .int .i64 0, .int .i64 0, .int .i64 0, .int .i64 0, .int .i64 0, .int .i64 0, .int .i64 0, .int .i64 0, .int .i64 0, .int .i64 0]) ?_ 10 _ rfl; refine blk_put (cs := #[.int .i64 a0_0, .int .i64 a0_1, .int .i64 a0_2, .int .i64 a0_3, .int .i64 a0_4, .int .i64 a0_5, .int .i64 a0_6, .int .i64 a0_7, .int .i64 a0_8, .int .i64 0, .int .i64 0, .int .i64 0, .int .i64 0, .int .i64 0, .int .i64 0, .int .i64 0, .int .i64 0, .int .i64 0, .int .i64 0, .int .i64 0]) ?_ 9 _ rfl; refine blk_put (cs := #[.int .i64 a0_0, .int .i64 a0_1, .int .i64 a0_2, .int .i64 a0_3, .int .i64 a0_4, .int .i64 a0_5, .int .i64 a0_6, .int .i64 a0_7, .int .i64 0, .int .i64 0, .int .i64 0, .int .i64 0, .int .i64 0, .int .i64 0, .int .i64 0, .int .i64 0, .int .i64 0, .int .i64 0, .int .i64 0, .int .i64 0]) ?_ 8 _ rfl; refine blk_put (cs := #[.int .i64 a0_0, .int .i64 a0_1, .int .i64 a0_2, .int .i64 a0_3, .int .i64 a0_4, .int .i64 a0_5, .int .i64 a0_6, .int .i64 0, .int .i64 0, .int .i64 0, .int .i64 0, .int .i64 0, .int .i64 0, .int .i64 0, .int .i64 0, .int .i64 0, .int .i64 0, .int .i64 0, .int .i64 0, .int .i64 0]) ?_ 7 _ rfl; refine blk_put (cs := #[.int .i64 a0_0, .int .i64 a0_1, .int .i64 a0_2, .int .i64 a0_3, .int .i64 a0_4, .int .i64 a0_5, .int .i64 0, .int .i64 0, .int .i64 0, .int .i64 0, .int .i64 0, .int .i64 0, .int .i64 0, .int .i64 0, .int .i64 0, .int .i64 0, .int .i64 0, .int .i64 0, .int .i64 0, .int .i64 0]) ?_ 6 _ rfl; refine blk_put (cs := #[.int .i64 a0_0, .int .i64 a0_1, .int .i64 a0_2, .int .i64 a0_3, .int .i64 a0_4, .int .i64 0, .int .i64 0, .int .i64 0, .int .i64 0, .int .i64 0, .int .i64 0, .int .i64 0, .int .i64 0, .int .i64 0, .int .i64 0, .int .i64 0, .int .i64 0, .int .i64 0, .int .i64 0, .int .i64 0]) ?_ 5 _ rfl; refine blk_put (cs := #[.int .i64 a0_0, .int .i64 a0_1, .int .i64 a0_2, .int .i64 a0_3, .int .i64 0, .int .i64 0, .int .i64 0, .int .i64 0, .int .i64 0, .int .i64 0, .int .i64 0, .int .i64 0, .int .i64 0, .int .i64 0, .int .i64 0, .int .i64 0, .int .i64 0, .int .i64 0, .int .i64 0, .int .i64 0]) ?_ 4 _ rfl; refine blk_put (cs := #[.int .i64 a0_0, .int .i64 a0_1, .int .i64 a0_2, .int .i64 0, .int .i64 0, .int .i64 0, .int .i64 0, .int .i64 0, .int .i64 0, .int .i64 0, .int .i64 0, .int .i64 0, .int .i64 0, .int .i64 0, .int .i64 0, .int .i64 0, .int .i64 0, .int .i64 0, .int .i64 0, .int .i64 0]) ?_ 3 _ rfl; refine blk_put (cs := #[.int .i64 a0_0, .int .i64 a0_1, .int .i64 0, .int .i64 0, .int .i64 0, .int .i64 0, .int .i64 0, .int .i64 0, .int .i64 0, .int .i64 0, .int .i64 0, .int .i64 0, .int .i64 0, .int .i64 0, .int .i64 0, .int .i64 0, .int .i64 0, .int .i64 0, .int .i64 0, .int .i64 0]) ?_ 2 _ rfl; refine blk_put (cs := #[.int .i64 a0_0, .int .i64 0, .int .i64 0, .int .i64 0, .int .i64 0, .int .i64 0, .int .i64 0, .int .i64 0, .int .i64 0, .int .i64 0, .int .i64 0, .int .i64 0, .int .i64 0, .int .i64 0, .int .i64 0, .int .i64 0, .int .i64 0, .int .i64 0, .int .i64 0, .int .i64 0]) ?_ 1 _ rfl; refine blk_put (cs := #[.int .i64 0, .int .i64 0, .int .i64 0, .int .i64 0, .int .i64 0, .int .i64 0, .int .i64 0, .int .i64 0, .int .i64 0, .int .i64 0, .int .i64 0, .int .i64 0, .int .i64 0, .int .i64 0, .int .i64 0, .int .i64 0, .int .i64 0, .int .i64 0, .int .i64 0, .int .i64 0]) ?_ 0 _ rfl; exact a2.out) hb); replace HB := Z_ (lP_ (by repeat (first | (with_reducible first | exact HB.out | refine lS1_ ?_ a8.out | refine lS1_ ?_ a9.out | refine lS1_ ?_ aa.out) | exact HB.out)) hb); (try clear hb); obtain ⟨_, _, _, _, _, _, _, _, _, _, _, _, _, _, _, _, _, _, _, _, _, _, _, _, _, _, _, _, _, _, _, _, _, _, _, _, _, _, _, _⟩ := bc20 a2.out; obtain ⟨_, _, _, _, _, _, _, _, _, _, _, _, _, _, _, _, _, _, _, _, _, _, _, _, _, _, _, _, _, _, _, _, _, _, _, _, _, _, _, _⟩ := bc20 a0.out) | ((with_reducible refine gate_callee (f := 79) rfl ?_); refine goesA_ (some 52) rfl rfl Try.func79 (by kernel_rfl) rfl #[.agg #[.int .i64 a0_18, .int .i64 a0_19]] rfl ?_; (with_reducible refine (laws_toWindow.calls a0_18 a0_19 t222 t223 _ A3.out).mono ?_); rintro e w15 ⟨rfl, hb⟩; refine ⟨_, rfl, ?_⟩; replace a1 := Z_ (bB_ (g := a4) (o := .cells #[.int .i64 0, .int .i64 0, .int .i64 0, .int .i64 0, .int .i64 0, .int .i64 0, .int .i64 0, .int .i64 0, .int .i64 0, .int .i64 0, .int .i64 0, .int .i64 0, .int .i64 0, .int .i64 0, .int .i64 0, .int .i64 0, .int .i64 0, .int .i64 0, .int .i64 0, .int .i64 0] 83 (0, 0)) (by (iterate 7 (refine bF_ ?_ a3.out _)); exact a1.out) hb); replace a2 := Z_ (bB_ (g := a5) (o := .cells #[.int .i64 a0_0, .int .i64 a0_1, .int .i64 a0_2, .int .i64 a0_3, .int .i64 a0_4, .int .i64 a0_5, .int .i64 a0_6, .int .i64 a0_7, .int .i64 a0_8, .int .i64 a0_9, .int .i64 a0_10, .int .i64 t218, .int .i64 t219, .int .i64 t220, .int .i64 t221, .int .i64 a0_15, .int .i64 a0_16, .int .i64 a0_17, .int .i64 0, .int .i64 0] 83 (0, 0)) (by refine blk_put (cs := #[.int .i64 a0_0, .int .i64 a0_1, .int .i64 a0_2, .int .i64 a0_3, .int .i64 a0_4, .int .i64 a0_5, .int .i64 a0_6, .int .i64 a0_7, .int .i64 a0_8, .int .i64 a0_9, .int .i64 a0_10, .int .i64 t218, .int .i64 t219, .int .i64 t220, .int .i64 t221, .int .i64 a0_15, .int .i64 a0_16, .int .i64 0, .int .i64 0, .int .i64 0]) ?_ 17 _ rfl; refine blk_put (cs := #[.int .i64 a0_0, .int .i64 a0_1, .int .i64 a0_2, .int .i64 a0_3, .int .i64 a0_4, .int .i64 a0_5, .int .i64 a0_6, .int .i64 a0_7, .int .i64 a0_8, .int .i64 a0_9, .int .i64 a0_10, .int .i64 t218, .int .i64 t219, .int .i64 t220, .int .i64 t221, .int .i64 a0_15, .int .i64 0, .int .i64 0, .int .i64 0, .int .i64 0]) ?_ 16 _ rfl; refine blk_put (cs := #[.int .i64 a0_0, .int .i64 a0_1, .int .i64 a0_2, .int .i64 a0_3, .int .i64 a0_4, .int .i64 a0_5, .int .i64 a0_6, .int .i64 a0_7, .int .i64 a0_8, .int .i64 a0_9, .int .i64 a0_10, .int .i64 t218, .int .i64 t219, .int .i64 t220, .int .i64 t221, .int .i64 0, .int .i64 0, .int .i64 0, .int .i64 0, .int .i64 0]) ?_ 15 _ rfl; refine blk_put (cs := #[.int .i64 a0_0, .int .i64 a0_1, .int .i64 a0_2, .int .i64 a0_3, .int .i64 a0_4, .int .i64 a0_5, .int .i64 a0_6, .int .i64 a0_7, .int .i64 a0_8, .int .i64 a0_9, .int .i64 a0_10, .int .i64 t218, .int .i64 t219, .int .i64 t220, .int .i64 0, .int .i64 0, .int .i64 0, .int .i64 0, .int .i64 0, .int .i64 0]) ?_ 14 _ rfl; refine blk_put (cs := #[.int .i64 a0_0, .int .i64 a0_1, .int .i64 a0_2, .int .i64 a0_3, .int .i64 a0_4, .int .i64 a0_5, .int .i64 a0_6, .int .i64 a0_7, .int .i64 a0_8, .int .i64 a0_9, .int .i64 a0_10, .int .i64 t218, .int .i64 t219, .int .i64 0, .int .i64 0, .int .i64 0, .int .i64 0, .int .i64 0, .int .i64 0, .int .i64 0]) ?_ 13 _ rfl; refine blk_put (cs := #[.int .i64 a0_0, .int .i64 a0_1, .int .i64 a0_2, .int .i64 a0_3, .int .i64 a0_4, .int .i64 a0_5, .int .i64 a0_6, .int .i64 a0_7, .int .i64 a0_8, .int .i64 a0_9, .int .i64 a0_10, .int .i64 t218, .int .i64 0, .int .i64 0, .int .i64 0, .int .i64 0, .int .i64 0, .int .i64 0, .int .i64 0, .int .i64 0]) ?_ 12 _ rfl; refine blk_put (cs := #[.int .i64 a0_0, .int .i64 a0_1, .int .i64 a0_2, .int .i64 a0_3, .int .i64 a0_4, .int .i64 a0_5, .int .i64 a0_6, .int .i64 a0_7, .int .i64 a0_8, .int .i64 a0_9, .int .i64 a0_10, .int .i64 0, .int .i64 0, .int .i64 0, .int .i64 0, .int .i64 0, .int .i64 0, .int .i64 0, .int .i64 0, .int .i64 0]) ?_ 11 _ rfl; exact a2.out) hb); replace HB := Z_ (lP_ (by repeat (first | (with_reducible first | exact HB.out | refine lS1_ ?_ a8.out | refine lS1_ ?_ a9.out | refine lS1_ ?_ aa.out) | exact HB.out)) hb); (try clear hb); obtain ⟨_, _, _, _, _, _, _, _, _, _, _, _, _, _, _, _, _, _, _, _, _, _, _, _, _, _, _, _, _, _, _, _, _, _, _, _, _, _, _, _⟩ := bc20 a2.out; obtain ⟨_, _, _, _, _, _, _, _, _, _, _, _, _, _, _, _, _, _, _, _, _, _, _, _, _, _, _, _, _, _, _, _, _, _, _, _, _, _, _, _⟩ := bc20 a1.out) | ((with_reducible refine gate_load_ (t := 83) rfl ?_); refine load_row_ (by rfl) (by rfl) (by rfl) (rowAt_block (t := 83) (cs := [.int .i64 a0_0, .int .i64 a0_1, .int .i64 a0_2, .int .i64 a0_3, .int .i64 a0_4, .int .i64 a0_5, .int .i64 a0_6, .int .i64 a0_7, .int .i64 a0_8, .int .i64 a0_9, .int .i64 a0_10, .int .i64 t218, .int .i64 t219, .int .i64 t220, .int .i64 t221, .int .i64 a0_15, .int .i64 a0_16, .int .i64 a0_17, .int .i64 t222, .int .i64 t223]) (blk_put (cs' := #[.int .i64 a0_0, .int .i64 a0_1, .int .i64 a0_2, .int .i64 a0_3, .int .i64 a0_4, .int .i64 a0_5, .int .i64 a0_6, .int .i64 a0_7, .int .i64 a0_8, .int .i64 a0_9, .int .i64 a0_10, .int .i64 t218, .int .i64 t219, .int .i64 t220, .int .i64 t221, .int .i64 a0_15, .int .i64 a0_16, .int .i64 a0_17, .int .i64 t222, .int .i64 t223]) (blk_put (cs' := #[.int .i64 a0_0, .int .i64 a0_1, .int .i64 a0_2, .int .i64 a0_3, .int .i64 a0_4, .int .i64 a0_5, .int .i64 a0_6, .int .i64 a0_7, .int .i64 a0_8, .int .i64 a0_9, .int .i64 a0_10, .int .i64 t218, .int .i64 t219, .int .i64 t220, .int .i64 t221, .int .i64 a0_15, .int .i64 a0_16, .int .i64 a0_17, .int .i64 t222, .int .i64 0]) a2.out 18 _ rfl) 19 _ rfl)) Try.underlying83 rfl size83_ ?_) | ((with_reducible refine gate_store (t := 83) rfl ?_); refine store_box_ (by rfl) (by rfl) (by rfl) (by rfl) (by rfl) (g := a4) (t := 83) (old := #[.int .i64 0, .int .i64 0, .int .i64 0, .int .i64 0, .int .i64 0, .int .i64 0, .int .i64 0, .int .i64 0, .int .i64 0, .int .i64 0, .int .i64 0, .int .i64 0, .int .i64 0, .int .i64 0, .int .i64 0, .int .i64 0, .int .i64 0, .int .i64 0, .int .i64 0, .int .i64 0]) (by (iterate 2 (refine bF_ ?_ a3.out _)); exact a1.out) (by rfl) size83_ (by rfl) ?_; intro w99_ hst hU; have n0_ := Z_ (lU_ hU (by repeat (first | (with_reducible first | exact HB.out | refine lS1_ ?_ a8.out | refine lS1_ ?_ a9.out | refine lS1_ ?_ aa.out) | exact HB.out)) a9.out); have BST := Z_ hst; clear HB hU hst; have HB := n0_; clear n0_))
 refine bodyPost_ret (results_cell_row rfl _ _ a4 83 #[.int .i64 a0_0, .int .i64 a0_1, .int .i64 a0_2, .int .i64 a0_3, .int .i64 a0_4, .int .i64 a0_5, .int .i64 a0_6, .int .i64 a0_7, .int .i64 a0_8, .int .i64 a0_9, .int .i64 a0_10, .int .i64 t218, .int .i64 t219, .int .i64 t220, .int .i64 t221, .int .i64 a0_15, .int .i64 a0_16, .int .i64 a0_17, .int .i64 t222, .int .i64 t223] (0, 0) _ rfl BST.out Try.underlying83 rfl (by kernel_rfl)) rfl ?_
 exact ⟨Er_, Lb_⟩
def laws_toTalkS.l0 : Nat → List (S118) → List (S83) → Int → Option ((List (S83)))
 | 0, _, _, _ => none
 | k + 1, x0, x3, x4 => if x4 < (x0.length : Int) then (if 0 ≤ x4 then ((laws_toTalk.f ((rd_T118 x0 x4).f0) ((rd_T118 x0 x4).f1) ((rd_T118 x0 x4).f2) ((rd_T118 x0 x4).f3) ((rd_T118 x0 x4).f4) ((rd_T118 x0 x4).f5) ((rd_T118 x0 x4).f6) ((rd_T118 x0 x4).f7) ((rd_T118 x0 x4).f8) ((rd_T118 x0 x4).f9) ((rd_T118 x0 x4).f10) ((rd_T118 x0 x4).f11.f0) ((rd_T118 x0 x4).f11.f1) ((rd_T118 x0 x4).f11.f2) ((rd_T118 x0 x4).f11.f3) ((rd_T118 x0 x4).f12) ((rd_T118 x0 x4).f13) ((rd_T118 x0 x4).f14) ((rd_T118 x0 x4).f15.f0) ((rd_T118 x0 x4).f15.f1)).bind fun bt228 => (if x4 < (x3.length : Int) then (laws_toTalkS.l0 k x0 (x3.set (x4 : Int).toNat (⟨bt228.1, bt228.2.1, bt228.2.2.1, bt228.2.2.2.1, bt228.2.2.2.2.1, bt228.2.2.2.2.2.1, bt228.2.2.2.2.2.2.1, bt228.2.2.2.2.2.2.2.1, bt228.2.2.2.2.2.2.2.2.1, bt228.2.2.2.2.2.2.2.2.2.1, bt228.2.2.2.2.2.2.2.2.2.2.1, (⟨bt228.2.2.2.2.2.2.2.2.2.2.2.1, bt228.2.2.2.2.2.2.2.2.2.2.2.2.1, bt228.2.2.2.2.2.2.2.2.2.2.2.2.2.1, bt228.2.2.2.2.2.2.2.2.2.2.2.2.2.2.1⟩ : S79), bt228.2.2.2.2.2.2.2.2.2.2.2.2.2.2.2.1, bt228.2.2.2.2.2.2.2.2.2.2.2.2.2.2.2.2.1, bt228.2.2.2.2.2.2.2.2.2.2.2.2.2.2.2.2.2.1, (⟨bt228.2.2.2.2.2.2.2.2.2.2.2.2.2.2.2.2.2.2.1, bt228.2.2.2.2.2.2.2.2.2.2.2.2.2.2.2.2.2.2.2⟩ : S81)⟩ : S83)) (wrap64 (x4 + 1))) else (none))) else (none)) else (some x3)
def laws_toTalkS.f (k : Nat) (l0 : List (S118)) : Option ((List (S83))) := if 0 ≤ (l0.length : Int) then (if ((l0.length : Int) : Int).toNat ≤ 1759218604441 then (laws_toTalkS.l0 k l0 (List.replicate ((l0.length : Int) : Int).toNat z83) 0) else (none)) else (none)
set_option maxHeartbeats 8000000 in
set_option maxRecDepth 100000 in
theorem laws_toTalkS.calls (k : Nat) (A0 : Option Addr) (c0 : Nat) (l0 : List (S118)) (r : List (S83)) (w : World) (hr0 : Kd.C k118 w A0 l0.length l0) (hc0 : l0.length ≤ c0) (h : laws_toTalkS.f k l0 = some r) :
  Calls Try.prog 61 #[.slice A0 l0.length c0] w fun e w' => ∃ v0_ : Value, e = .returned (v0_) ∧ Kd.R k83 83 w' w.heap.size (fun _ => True) v0_ r ∧ Below w.heap.size w w' := by
 have hu118 := Try.underlying118
 have hu83 := Try.underlying83
 have a8 := Z_ hr0
 have a9 := Z_ hc0
 clear hr0 hc0
 have HB := Z_ (Below.refl w.heap.size w)
 unfold laws_toTalkS.f at h
 have H := h
 clear h
 replace H := iN_ H
 obtain ⟨c2, H⟩ := H
 have c2b0 := eq_true c2
 have c2b1 : decide (0 ≤ (l0.length : Int)) = true := decide_eq_true c2
 clear c2
 replace H := iN_ H
 obtain ⟨c3, H⟩ := H
 have c3b0 := eq_true c3
 have c3b1 : decide (((l0.length : Int) : Int).toNat ≤ 1759218604441) = true := decide_eq_true c3
 clear c3
 obtain ⟨y224, hy224⟩ : ∃ y_ : List (S83), y_ = (List.replicate ((l0.length : Int) : Int).toNat z83) := ⟨_, rfl⟩
 replace H : (laws_toTalkS.l0 k l0 y224 0) = some r := by first | (rw [hy224]; with_reducible exact H) | (have H2_ := (Option.bind_some _ _).symm.trans H; rw [hy224]; with_reducible exact H2_) | (have H2_ := (Option.bind_some _ _).symm.trans H; with_reducible exact H2_) | with_reducible exact H | (rw [hy224]; exact H) | exact H
 have a2 := Z_ hy224
 clear hy224
 have H' := Z_ H
 clear H
 go_enter Try.func61, Try.ntmps61
 go_wp2_with (first | ((with_reducible refine gD_ 7 rfl ?_); refine Kd.R_make k83 _ 83 rfl (N := 7) rfl 44 _ _ rfl (l0.length : Int) rfl rfl Try.underlying44 (.agg #[(.int .i64 0), (.int .i64 0), (.int .i64 0), (.int .i64 0), (.int .i64 0), (.int .i64 0), (.int .i64 0), (.int .i64 0), (.int .i64 0), (.int .i64 0), (.int .i64 0), (.int .i64 0), (.int .i64 0), (.int .i64 0), (.int .i64 0), (.int .i64 0), (.int .i64 0), (.int .i64 0), (.int .i64 0), (.int .i64 0)]) 160 info83 rfl (by decide) (by omega) z83 (ok := fun _ => True) (okp := fun _ => True) (k83_mkM _ _ _ z83 ) (fun _ hk => hk) trivial (dA_) (Nat.le_trans (Nat.mul_le_mul_right _ (dA_ : (l0.length : Int).toNat ≤ 1759218604441)) (by omega)) (Below.refl _ _) (Nat.le_refl _) ?_; intro v225 w4 ho5 hb hg_ hnew_; clear hg_ hnew_; (first | rw [← a2.out] at ho5 | (simp only [Int.reduceToNat] at ho5; rw [← a2.out] at ho5)); have a5 := Z_ (Kd.R_lower ho5 (below_size HB.out)); replace HB := Z_ (lP_ HB.out hb); clear hb ho5))
 go_loopg [4] k (fun kq v4 w' => ∃ (x3_1 : List (S83)) (x4_1 : Int), v4 = .int .i64 x4_1 ∧ Aside0 (laws_toTalkS.l0 kq l0 x3_1 x4_1 = some r) ∧ Aside0 (kq ≤ k) ∧ Aside0 (Kd.R k83 83 w' w.heap.size (fun _ => True) v225 x3_1) ∧ Aside0 (Below w.heap.size w w'))
 case atStart => exact ⟨(y224), (0), Sr_, H', ⟨Nat.le_refl _⟩, ⟨by (with_reducible repeat first | apply rA_ | apply rN_ | apply rD_); exact a5.out⟩, ⟨Lb_⟩⟩
 case round =>
  clear H'
  try clear c2
  try clear c2b0
  try clear c2b1
  try clear p2
  try clear c3
  try clear c3b0
  try clear c3b1
  obtain ⟨x3_1, x4_1, rfl, HA, HK1, a1, HB⟩ := hrel
  cases gk with
  | zero => exact absurd HA.out (by simp [laws_toTalkS.l0])
  | succ k1 =>
   have H := HA.out
   clear HA
   simp only [laws_toTalkS.l0] at H
   replace H := iD_ H
   obtain ⟨c6b0, H⟩ | ⟨c6b0, H⟩ := H
   rotate_left
   ·obtain rfl := Option.some.inj H
    go_wp2
    go_ret
    exact ⟨_, Er_, by (with_reducible repeat first | apply rA_ | apply rN_ | apply rD_); exact a1.out, Lb_⟩
   rotate_right
   replace H := iM_ H
   obtain ⟨c7b0, H⟩ := H
   replace H := bS_ H
   obtain ⟨⟨t228, t229, t230, t231, t232, t233, t234, t235, t236, t237, t238, t239, t240, t241, t242, t243, t244, t245, t246, t247⟩, A8, H⟩ := H
   try dsimp only at H
   replace H := iM_ H
   obtain ⟨c9b0, H⟩ := H
   obtain ⟨y248, hy248⟩ : ∃ y_ : List (S83), y_ = (x3_1.set (x4_1 : Int).toNat (⟨t228, t229, t230, t231, t232, t233, t234, t235, t236, t237, t238, (⟨t239, t240, t241, t242⟩ : S79), t243, t244, t245, (⟨t246, t247⟩ : S81)⟩ : S83)) := ⟨_, rfl⟩
   replace H : (laws_toTalkS.l0 k1 l0 y248 (wrap64 (x4_1 + 1))) = some r := by first | (rw [hy248]; with_reducible exact H) | (have H2_ := (Option.bind_some _ _).symm.trans H; rw [hy248]; with_reducible exact H2_) | (have H2_ := (Option.bind_some _ _).symm.trans H; with_reducible exact H2_) | with_reducible exact H | (rw [hy248]; exact H) | exact H
   have a6 := Z_ hy248
   clear hy248
   have H' := Z_ H
   clear H
   have p227 : 0 ≤ (x4_1 : Int) := dA_
   have q227 : x4_1 < (l0.length : Int) := dA_
   obtain ⟨ad227, e227, hL227⟩ := at_L118 a8.out x4_1 p227 q227
   cases e227
   replace hL227 := RowAt.below (B := 0) hL227 HB.out
   replace p227 := eq_true p227
   replace q227 := eq_true q227
   go_wp2_with (first | ((with_reducible refine gate_load_ (t := 118) rfl ?_); refine load_row_ (by rfl) (by rfl) (by rfl) hL227 Try.underlying118 rfl size118_ ?_) | ((with_reducible refine gate_callee (f := 70) rfl ?_); refine goesA_ (some 20) rfl rfl Try.func70 (by kernel_rfl) rfl #[.agg #[.int .i64 ((rd_T118 l0 x4_1).f0), .int .i64 ((rd_T118 l0 x4_1).f1), .int .i64 ((rd_T118 l0 x4_1).f2), .int .i64 ((rd_T118 l0 x4_1).f3), .int .i64 ((rd_T118 l0 x4_1).f4), .int .i64 ((rd_T118 l0 x4_1).f5), .int .i64 ((rd_T118 l0 x4_1).f6), .int .i64 ((rd_T118 l0 x4_1).f7), .int .i64 ((rd_T118 l0 x4_1).f8), .int .i64 ((rd_T118 l0 x4_1).f9), .int .i64 ((rd_T118 l0 x4_1).f10), .int .i64 ((rd_T118 l0 x4_1).f11.f0), .int .i64 ((rd_T118 l0 x4_1).f11.f1), .int .i64 ((rd_T118 l0 x4_1).f11.f2), .int .i64 ((rd_T118 l0 x4_1).f11.f3), .int .i64 ((rd_T118 l0 x4_1).f12), .int .i64 ((rd_T118 l0 x4_1).f13), .int .i64 ((rd_T118 l0 x4_1).f14), .int .i64 ((rd_T118 l0 x4_1).f15.f0), .int .i64 ((rd_T118 l0 x4_1).f15.f1)]] rfl ?_; (with_reducible refine (laws_toTalk.calls ((rd_T118 l0 x4_1).f0) ((rd_T118 l0 x4_1).f1) ((rd_T118 l0 x4_1).f2) ((rd_T118 l0 x4_1).f3) ((rd_T118 l0 x4_1).f4) ((rd_T118 l0 x4_1).f5) ((rd_T118 l0 x4_1).f6) ((rd_T118 l0 x4_1).f7) ((rd_T118 l0 x4_1).f8) ((rd_T118 l0 x4_1).f9) ((rd_T118 l0 x4_1).f10) ((rd_T118 l0 x4_1).f11.f0) ((rd_T118 l0 x4_1).f11.f1) ((rd_T118 l0 x4_1).f11.f2) ((rd_T118 l0 x4_1).f11.f3) ((rd_T118 l0 x4_1).f12) ((rd_T118 l0 x4_1).f13) ((rd_T118 l0 x4_1).f14) ((rd_T118 l0 x4_1).f15.f0) ((rd_T118 l0 x4_1).f15.f1) t228 t229 t230 t231 t232 t233 t234 t235 t236 t237 t238 t239 t240 t241 t242 t243 t244 t245 t246 t247 _ A8.out).mono ?_); rintro e w11 ⟨rfl, hb⟩; refine ⟨_, rfl, ?_⟩; replace a1 := Z_ (Kd.R_below a1.out hb); replace HB := Z_ (lP_ HB.out hb); (try clear hb); have p10 : 0 ≤ (x4_1 : Int) := dA_; have q10 : (x4_1 : Int) < ((x3_1.length : Int) : Int) := dA_; obtain ⟨go10, a3, eo10, a4, gl10, cl10, HG10⟩ := Kd.R_form a1.out (by omega); (first | cases eo10 | (injection eo10 with ea_ en_ ec_; (first | subst ea_ | (injection ea_ with ea_; subst ea_)); subst ec_; clear en_)); have a0 := Z_ a4; have GG10 := Z_ HG10; clear a4 gl10 HG10; replace p10 := eq_true p10; replace q10 := eq_true q10; have HX12 := Z_ (show Kd.R k83 83 w11 w.heap.size (fun _ => True) (.slice (some ⟨go10, 0, none⟩) x3_1.length a3) x3_1 from a1.out); obtain ⟨ce12, hcl12, hM12, hcc12, hfr12⟩ := Kd.R_elem HX12.out z83 (x4_1 : Int) (dA_) (by have h_ : (x4_1 : Int) < ((x3_1.length : Int) : Int) := dA_; first | exact h_ | (have e_ := (Kd.R_reads' a1.out).1; omega) | simpa using h_); obtain rfl := k83_openM hM12; have HP12 := Kd.R_seg HX12.out (x4_1 : Int) (dA_) (by have h_ : (x4_1 : Int) < ((x3_1.length : Int) : Int) := dA_; first | exact h_ | (have e_ := (Kd.R_reads' a1.out).1; omega) | simpa using h_) (seg := [.int .i64 t228, .int .i64 t229, .int .i64 t230, .int .i64 t231, .int .i64 t232, .int .i64 t233, .int .i64 t234, .int .i64 t235, .int .i64 t236, .int .i64 t237, .int .i64 t238, .int .i64 t239, .int .i64 t240, .int .i64 t241, .int .i64 t242, .int .i64 t243, .int .i64 t244, .int .i64 t245, .int .i64 t246, .int .i64 t247]) (j := 0) hcl12 hcc12 (show 20 ≤ 20 from by decide) (k83_mkM _ _ _ (⟨t228, t229, t230, t231, t232, t233, t234, t235, t236, t237, t238, (⟨t239, t240, t241, t242⟩ : S79), t243, t244, t245, (⟨t246, t247⟩ : S81)⟩ : S83) ) (fun _ hk => hk); have hT12 : ∀ j, j < 20 → (w11.cell? ⟨go10, (x4_1 : Int).toNat * 20 + j, none⟩).isSome = true ∧ w11.frozen? ⟨go10, (x4_1 : Int).toNat * 20 + j, none⟩ = false := fun j hj => ⟨(congrArg Option.isSome (hcc12 j _ (List.getElem?_eq_getElem hj))).trans rfl, hfr12 j⟩; clear hcl12 hcc12 hfr12 hM12) | ((with_reducible refine gate_store (t := 83) (p := 21) rfl ?_); refine store_event (t := 83) (p := 21) (v := ?vo_w13) (w1 := w11.setCells go10 ((x4_1 : Int).toNat * 20) [.int .i64 t228, .int .i64 t229, .int .i64 t230, .int .i64 t231, .int .i64 t232, .int .i64 t233, .int .i64 t234, .int .i64 t235, .int .i64 t236, .int .i64 t237, .int .i64 t238, .int .i64 t239, .int .i64 t240, .int .i64 t241, .int .i64 t242, .int .i64 t243, .int .i64 t244, .int .i64 t245, .int .i64 t246, .int .i64 t247]) ?hg ?ho ?hn ?hr ?_; (case ho => rfl); (case hg => rfl); (case hn => rfl); (case hr => exact exec_storeRow (by rfl) (by rfl) (by rfl) hT12 size83_ (by rfl)); intro w13 hw; have hg : w11.grownBy w13 (some go10) := (by rw [hw]; exact HP12.2); have hp_ : Kd.R k83 83 w13 w.heap.size (fun _ => True) (.slice (some ⟨go10, 0, none⟩) x3_1.length a3) y248 := (by rw [hw, a6.out]; exact HP12.1); clear HP12; replace a1 := Z_ (hp_); replace HB := Z_ ((by rw [hw]; exact lSs_ HB.out a0.out : Below w.heap.size w w13)); clear hg hw hp_))
   go_roundg k1
   case measure => have := HK1.out; omega
   case rel => exact ⟨(y248), (wrap64 (x4_1 + 1)), Sr_, H', ⟨by have := HK1.out; omega⟩, ⟨by (with_reducible repeat first | apply rA_ | apply rN_ | apply rD_); exact a1.out⟩, ⟨Lb_⟩⟩
def laws_toGate.f (k : Nat) (a0_0 a0_1 : Int) (l0_2 : List (S118)) : Option (Int × Int × (List (S83))) := (laws_toTalkS.f k l0_2).bind fun t252 => (some (a0_0, a0_1, t252))
set_option maxHeartbeats 8000000 in
set_option maxRecDepth 100000 in
theorem laws_toGate.calls (k : Nat) (a0_0 a0_1 : Int) (A0_2 : Option Addr) (c0_2 : Nat) (l0_2 : List (S118)) (r1 r2 : Int) (r3 : List (S83)) (w : World) (hr0_2 : Kd.C k118 w A0_2 l0_2.length l0_2) (hc0_2 : l0_2.length ≤ c0_2) (h : laws_toGate.f k a0_0 a0_1 l0_2 = some (r1, r2, r3)) :
  Calls Try.prog 44 #[.agg #[.int .i64 a0_0, .int .i64 a0_1, .slice A0_2 l0_2.length c0_2]] w fun e w' => ∃ v2_ : Value, e = .returned (.agg #[.int .i64 r1, .int .i64 r2, v2_]) ∧ Kd.R k83 83 w' w.heap.size (fun _ => True) v2_ r3 ∧ Below w.heap.size w w' := by
 have hu73 := Try.underlying73
 have hu46 := Try.underlying46
 have HR0_2 := Z_ hr0_2
 have HC0_2 := Z_ hc0_2
 clear hr0_2 hc0_2
 have HB := Z_ (Below.refl w.heap.size w)
 unfold laws_toGate.f at h
 have H := h
 clear h
 replace H := bS_ H
 obtain ⟨t252, A2, H⟩ := H
 simp only [Option.some.injEq, Prod.mk.injEq] at H
 obtain ⟨rfl, rfl, rfl⟩ := H
 go_enter Try.func44, Try.ntmps44
 go_wp2_with (first | ((with_reducible refine gD_ 1 rfl ?_); refine bx_ #[.int .i64 a0_0, .int .i64 a0_1, .slice A0_2 l0_2.length c0_2] 73 ?_; intro a9 hg w3 hbox hb; have a1 := Z_ hbox; have a6 := Z_ ((by rw [hg]; exact (below_size HB.out) : w.heap.size ≤ a9)); replace HB := Z_ (lP_ HB.out hb); clear hb hbox hg) | ((with_reducible refine gD_ 2 rfl ?_); refine bx_ #[.int .i64 0, .int .i64 0, .slice none 0 0] 46 ?_; intro a3 hg w4 hbox hb; have a0 := Z_ hbox; have a7 := Z_ ((by rw [hg]; exact (below_size HB.out) : w.heap.size ≤ a3)); replace HB := Z_ (lP_ HB.out hb); have aa := Z_ ((by rw [hg]; exact Nat.ne_of_lt (blk_lt a1.out) : a9 ≠ a3)); replace a1 := Z_ (bB_ a1.out hb); have ab := Z_ aa.out.symm; clear hb hbox hg) | ((with_reducible refine gD_ 3 rfl ?_); refine bx_ #[.int .i64 0, .int .i64 0, .slice none 0 0] 46 ?_; intro a5 hg w5 hbox hb; have a4 := Z_ hbox; have a8 := Z_ ((by rw [hg]; exact (below_size HB.out) : w.heap.size ≤ a5)); replace HB := Z_ (lP_ HB.out hb); have ac := Z_ ((by rw [hg]; exact Nat.ne_of_lt (blk_lt a1.out) : a9 ≠ a5)); replace a1 := Z_ (bB_ a1.out hb); have ad := Z_ ac.out.symm; have a2 := Z_ ((by rw [hg]; exact Nat.ne_of_lt (blk_lt a0.out) : a3 ≠ a5)); replace a0 := Z_ (bB_ a0.out hb); have ae := Z_ a2.out.symm; clear hb hbox hg; have aj := aa.out; have ak := ab.out; have al := ac.out; have am := ad.out; obtain ⟨_, _, _, _, _, _⟩ := bc3 a1.out; have an := ae.out; have ao := a2.out; obtain ⟨_, _, _, _, _, _⟩ := bc3 a4.out) | ((with_reducible refine gate_callee (f := 61) rfl ?_); refine goesA_ (some 12) rfl rfl Try.func61 (by kernel_rfl) rfl #[.slice A0_2 l0_2.length c0_2] rfl ?_; (with_reducible refine (laws_toTalkS.calls k _ _ l0_2 t252 _ ?side1 ?side2 A2.out).mono ?_); (case side1 => exact Kd.C_below HR0_2.out (by repeat (first | (with_reducible first | exact HB.out | refine lS1_ ?_ a6.out | refine lS1_ ?_ a7.out | refine lS1_ ?_ a8.out) | exact HB.out))); (case side2 => exact HC0_2.out); rintro e w11 ⟨v253, rfl, ho0, hb⟩; refine ⟨_, rfl, ?_⟩; have af := Z_ (Kd.R_lower ho0 (below_size (by repeat (first | (with_reducible first | exact HB.out | refine lS1_ ?_ a6.out | refine lS1_ ?_ a7.out | refine lS1_ ?_ a8.out) | exact HB.out)))); replace a0 := Z_ (bB_ (g := a3) (o := .cells #[.int .i64 0, .int .i64 0, .slice none 0 0] 46 (0, 0)) (by (iterate 2 (refine bF_ ?_ a2.out _)); exact a0.out) hb); replace a4 := Z_ (bB_ (g := a5) (o := .cells #[.int .i64 a0_0, .int .i64 a0_1, .slice none 0 0] 46 (0, 0)) (by refine blk_put (cs := #[.int .i64 a0_0, .int .i64 0, .slice none 0 0]) ?_ 1 _ rfl; refine blk_put (cs := #[.int .i64 0, .int .i64 0, .slice none 0 0]) ?_ 0 _ rfl; exact a4.out) hb); replace HB := Z_ (lP_ (by repeat (first | (with_reducible first | exact HB.out | refine lS1_ ?_ a6.out | refine lS1_ ?_ a7.out | refine lS1_ ?_ a8.out) | exact HB.out)) hb); (try clear hb); (try clear ho0); obtain ⟨ag, ah, eo12⟩ := Kd.R_slice af.out; subst eo12; obtain ⟨_, _, _, _, _, _⟩ := bc3 a4.out; obtain ⟨_, _, _, _, _, _⟩ := bc3 a0.out))
 refine bodyPost_ret (results_cell_row rfl _ _ a3 46 #[.int .i64 a0_0, .int .i64 a0_1, .slice ag t252.length ah] (0, 0) _ rfl (by (with_reducible repeat first | apply bN_ | apply bD_ | apply bA_); apply fill3; (with_reducible repeat first | apply bN_ | apply bD_ | apply bA_); refine bF_ ?_ a2.out _; (with_reducible repeat first | apply bN_ | apply bD_ | apply bA_); exact a0.out) Try.underlying46 rfl (by kernel_rfl)) rfl ?_
 exact ⟨_, Er_, by (with_reducible repeat first | apply rA_ | apply rN_ | apply rD_); exact Kd.R_mono (rfar3 (g := a3) (Kd.R_far (p := ⟨a5, 2, none⟩) (Kd.R_types (Kd.R_types af.out a4.out (by decide)) a0.out (by decide)) (fun _ hk => hk.1.2) (.slice ag t252.length ah)) (fun _ hk => hk.2)) (fun _ hk => trivial), Lb_⟩
def laws_toGateS.l0 : Nat → List (S73) → List (S46) → Int → Option ((List (S46)))
 | 0, _, _, _ => none
 | k + 1, x0, x3, x4 => if x4 < (x0.length : Int) then (if 0 ≤ x4 then ((laws_toGate.f k ((rd_T73 x0 x4).f0) ((rd_T73 x0 x4).f1) ((rd_T73 x0 x4).f2)).bind fun bt259 => (if x4 < (x3.length : Int) then (laws_toGateS.l0 k x0 (x3.set (x4 : Int).toNat (⟨bt259.1, bt259.2.1, bt259.2.2⟩ : S46)) (wrap64 (x4 + 1))) else (none))) else (none)) else (some x3)
def laws_toGateS.f (k : Nat) (l0 : List (S73)) : Option ((List (S46))) := if 0 ≤ (l0.length : Int) then (if ((l0.length : Int) : Int).toNat ≤ 7036874417766 then (laws_toGateS.l0 k l0 (List.replicate ((l0.length : Int) : Int).toNat z46) 0) else (none)) else (none)
set_option maxHeartbeats 8000000 in
set_option maxRecDepth 100000 in
theorem laws_toGateS.calls (k : Nat) (A0 : Option Addr) (c0 : Nat) (l0 : List (S73)) (r : List (S46)) (w : World) (hr0 : Kd.C k73 w A0 l0.length l0) (hc0 : l0.length ≤ c0) (h : laws_toGateS.f k l0 = some r) :
  Calls Try.prog 19 #[.slice A0 l0.length c0] w fun e w' => ∃ v0_ : Value, e = .returned (v0_) ∧ Kd.S k46 46 w' w.heap.size (fun _ => True) v0_ r ∧ Below w.heap.size w w' := by
 have hu73 := Try.underlying73
 have hu46 := Try.underlying46
 have a9 := Z_ hr0
 have aa := Z_ hc0
 clear hr0 hc0
 have HB := Z_ (Below.refl w.heap.size w)
 unfold laws_toGateS.f at h
 have H := h
 clear h
 replace H := iN_ H
 obtain ⟨c2, H⟩ := H
 have c2b0 := eq_true c2
 have c2b1 : decide (0 ≤ (l0.length : Int)) = true := decide_eq_true c2
 clear c2
 replace H := iN_ H
 obtain ⟨c3, H⟩ := H
 have c3b0 := eq_true c3
 have c3b1 : decide (((l0.length : Int) : Int).toNat ≤ 7036874417766) = true := decide_eq_true c3
 clear c3
 obtain ⟨y255, hy255⟩ : ∃ y_ : List (S46), y_ = (List.replicate ((l0.length : Int) : Int).toNat z46) := ⟨_, rfl⟩
 replace H : (laws_toGateS.l0 k l0 y255 0) = some r := by first | (rw [hy255]; with_reducible exact H) | (have H2_ := (Option.bind_some _ _).symm.trans H; rw [hy255]; with_reducible exact H2_) | (have H2_ := (Option.bind_some _ _).symm.trans H; with_reducible exact H2_) | with_reducible exact H | (rw [hy255]; exact H) | exact H
 have a3 := Z_ hy255
 clear hy255
 have H' := Z_ H
 clear H
 go_enter Try.func19, Try.ntmps19
 go_wp2_with (first | ((with_reducible refine gD_ 7 rfl ?_); refine Kd.S_make k46 _ 46 rfl (N := 7) rfl 31 _ _ rfl (l0.length : Int) rfl rfl Try.underlying31 (.agg #[(.int .i64 0), (.int .i64 0), (.slice none 0 0)]) 40 info46 rfl (by decide) (by omega) z46 (ok := fun _ => True) (okp := fun _ => True) (k46_mkM _ _ _ z46 (Kd.R_nil _ _ _ _ _)) (fun _ hk => hk) trivial (dA_) (Nat.le_trans (Nat.mul_le_mul_right _ (dA_ : (l0.length : Int).toNat ≤ 7036874417766)) (by omega)) (Below.refl _ _) (Nat.le_refl _) ?_; intro v256 w4 ho5 hb hg_ hnew_; clear hg_ hnew_; (first | rw [← a3.out] at ho5 | (simp only [Int.reduceToNat] at ho5; rw [← a3.out] at ho5)); have a6 := Z_ (Kd.S_lower ho5 (below_size HB.out)); replace HB := Z_ (lP_ HB.out hb); clear hb ho5))
 go_loopg [4] k (fun kq v4 w' => ∃ (x3_1 : List (S46)) (x4_1 : Int), v4 = .int .i64 x4_1 ∧ Aside0 (laws_toGateS.l0 kq l0 x3_1 x4_1 = some r) ∧ Aside0 (kq ≤ k) ∧ Aside0 (Kd.S k46 46 w' w.heap.size (fun _ => True) v256 x3_1) ∧ Aside0 (Below w.heap.size w w'))
 case atStart => exact ⟨(y255), (0), Sr_, H', ⟨Nat.le_refl _⟩, ⟨by (with_reducible repeat (first | apply Kd.S_alloc | apply Kd.S_drewN | apply Kd.S_drew)); exact a6.out⟩, ⟨Lb_⟩⟩
 case round =>
  clear H'
  try clear c1
  try clear c2
  try clear c2b0
  try clear c2b1
  try clear p2
  try clear c3
  try clear c3b0
  try clear c3b1
  obtain ⟨x3_1, x4_1, rfl, HA, HK1, a0, HB⟩ := hrel
  cases gk with
  | zero => exact absurd HA.out (by simp [laws_toGateS.l0])
  | succ k1 =>
   have H := HA.out
   clear HA
   simp only [laws_toGateS.l0] at H
   replace H := iD_ H
   obtain ⟨c6b0, H⟩ | ⟨c6b0, H⟩ := H
   rotate_left
   ·obtain rfl := Option.some.inj H
    go_wp2
    go_ret
    exact ⟨_, Er_, by (with_reducible repeat (first | apply Kd.S_alloc | apply Kd.S_drewN | apply Kd.S_drew)); exact a0.out, Lb_⟩
   rotate_right
   replace H := iM_ H
   obtain ⟨c7b0, H⟩ := H
   replace H := bS_ H
   obtain ⟨⟨t259, t260, t261⟩, A8, H⟩ := H
   try dsimp only at H
   replace H := iM_ H
   obtain ⟨c9b0, H⟩ := H
   obtain ⟨y264, hy264⟩ : ∃ y_ : List (S46), y_ = (x3_1.set (x4_1 : Int).toNat (⟨t259, t260, t261⟩ : S46)) := ⟨_, rfl⟩
   replace H : (laws_toGateS.l0 k1 l0 y264 (wrap64 (x4_1 + 1))) = some r := by first | (rw [hy264]; with_reducible exact H) | (have H2_ := (Option.bind_some _ _).symm.trans H; rw [hy264]; with_reducible exact H2_) | (have H2_ := (Option.bind_some _ _).symm.trans H; with_reducible exact H2_) | with_reducible exact H | (rw [hy264]; exact H) | exact H
   have a7 := Z_ hy264
   clear hy264
   have H' := Z_ H
   clear H
   have p258 : 0 ≤ (x4_1 : Int) := dA_
   have q258 : x4_1 < (l0.length : Int) := dA_
   obtain ⟨ad258, A258_2, c258_2, e258, hx258_0, hx258_1, hx258_2, hl258_2, hi258_2⟩ := at_T73 a9.out x4_1 p258 q258
   cases e258
   replace hx258_0 := cB_ HB hx258_0
   replace hx258_1 := cB_ HB hx258_1
   replace hx258_2 := cB_ HB hx258_2
   have HR258_2 := Z_ hi258_2
   have HC258_2 := Z_ hl258_2
   clear hi258_2 hl258_2
   replace p258 := eq_true p258
   replace q258 := eq_true q258
   go_wp2_with (first | ((with_reducible refine gate_callee (f := 44) rfl ?_); refine goesA_ (some 20) rfl rfl Try.func44 (by kernel_rfl) rfl #[.agg #[.int .i64 ((rd_T73 l0 x4_1).f0), .int .i64 ((rd_T73 l0 x4_1).f1), .slice A258_2 ((rd_T73 l0 x4_1).f2).length c258_2]] rfl ?_; (with_reducible refine (laws_toGate.calls k1 ((rd_T73 l0 x4_1).f0) ((rd_T73 l0 x4_1).f1) _ _ ((rd_T73 l0 x4_1).f2) t259 t260 t261 _ ?side1 ?side2 A8.out).mono ?_); (case side1 => repeat (first | exact (Kd.C_below HR258_2.out HB.out) | (with_reducible refine Kd.C_alloc ?_ _) | (with_reducible refine Kd.C_drewN ?_ _) | (with_reducible refine Kd.C_drew ?_))); (case side2 => exact HC258_2.out); rintro e w11 ⟨v262, rfl, ho0, hb⟩; refine ⟨_, rfl, ?_⟩; replace a0 := Z_ (Kd.S_elder' (by (with_reducible repeat (first | apply Kd.S_alloc | apply Kd.S_drewN | apply Kd.S_drew)); exact a0.out) (Kd.R_base ho0) hb); have a1 := Z_ (Kd.R_lower ho0 (below_size HB.out)); replace HB := Z_ (lP_ HB.out hb); (try clear hb); (try clear ho0); have p10 : 0 ≤ (x4_1 : Int) := dA_; have q10 : (x4_1 : Int) < ((x3_1.length : Int) : Int) := dA_; obtain ⟨go10, a4, eo10, a5, gl10, cl10, HG10⟩ := Kd.S_form a0.out (by omega); (first | cases eo10 | (injection eo10 with ea_ en_ ec_; (first | subst ea_ | (injection ea_ with ea_; subst ea_)); subst ec_; clear en_)); have a2 := Z_ a5; have GG10 := Z_ HG10; clear a5 gl10 HG10; obtain ⟨_, ce10, hcl10, hM10, hcc10, hfr10, _, _⟩ := Kd.S_elem a0.out z46 (x4_1 : Int) p10 q10; obtain ⟨ve10_2, rfl, ge10_2⟩ := k46_openM hM10; have hx10_0 : w11.cell? ⟨go10, (x4_1 : Int).toNat * 3, none⟩ = some (.int .i64 ((rd_T46 x3_1 x4_1).f0)) := hcc10 0 _ rfl; have hx10_1 : w11.cell? ⟨go10, (x4_1 : Int).toNat * 3 + 1, none⟩ = some (.int .i64 ((rd_T46 x3_1 x4_1).f1)) := hcc10 1 _ rfl; have hx10_2 : w11.cell? ⟨go10, (x4_1 : Int).toNat * 3 + 2, none⟩ = some (ve10_2) := hcc10 2 _ rfl; have hf10_0 : w11.frozen? ⟨go10, (x4_1 : Int).toNat * 3, none⟩ = false := hfr10 0; have hf10_1 : w11.frozen? ⟨go10, (x4_1 : Int).toNat * 3 + 1, none⟩ = false := hfr10 1; have hf10_2 : w11.frozen? ⟨go10, (x4_1 : Int).toNat * 3 + 2, none⟩ = false := hfr10 2; clear hcl10 hcc10 hfr10 hM10; replace p10 := eq_true p10; replace q10 := eq_true q10; have n_ := Z_ (Kd.S_mono (ok' := (fun k_ => some k_ ≠ (v262 : Value).ownBlock)) a0.out (fun k_ hk => hk.2)); clear a0; have a0 := n_; clear n_; have HX12 := Z_ (show Kd.S k46 46 w11 w.heap.size (fun k_ => ((fun _ => True)) k_ ∧ ¬ ((fun k_ => some k_ = (v262 : Value).ownBlock)) k_) (.slice (some ⟨go10, 0, none⟩) x3_1.length a4) x3_1 from (by (with_reducible repeat (first | apply Kd.S_alloc | apply Kd.S_drewN | apply Kd.S_drew)); exact Kd.S_mono a0.out (fun k_ hk => ⟨trivial, fun e_ => hk e_⟩))); obtain ⟨oki12, ce12, hcl12, hM12, hcc12, hfr12, hoki12, hH12⟩ := Kd.S_elem HX12.out z46 (x4_1 : Int) (dA_) (by have h_ : (x4_1 : Int) < ((x3_1.length : Int) : Int) := dA_; first | exact h_ | (have e_ := (Kd.S_reads' a0.out).1; omega) | simpa using h_); obtain ⟨ve12_2, rfl, ge12_2⟩ := k46_openM hM12; have HP12 := Kd.S_seg hH12 (dA_) (by have h_ : (x4_1 : Int) < ((x3_1.length : Int) : Int) := dA_; first | exact h_ | (have e_ := (Kd.S_reads' a0.out).1; omega) | simpa using h_) (seg := [.int .i64 t259, .int .i64 t260, v262]) (j := 0) (show 3 ≤ 3 from by decide) (x' := (⟨t259, t260, t261⟩ : S46)) (k46_mkM _ _ _ (⟨t259, t260, t261⟩ : S46) (Kd.R_mono (Kd.R_tight rfl (Kd.R_mono (ok' := fun k_ => ((fun _ => True)) k_ ∧ k_ ≠ go10) (Kd.R_apart' (a1.out) (Kd.S_typed a0.out) (by decide)) (fun k_ hk => ⟨trivial, fun e_ => (hk.2) (by rw [e_]; rfl)⟩))) (fun _ h_ => Or.inr (h_)))) (fun _ hk => hk) (fun k_ hk_ => ((Kd.R_mono (ok' := fun k_ => ((fun _ => True)) k_ ∧ k_ ≠ go10) (Kd.R_apart' (a1.out) (Kd.S_typed a0.out) (by decide)) (fun k_ hk => ⟨trivial, fun e_ => (hk.2) (by rw [e_]; rfl)⟩))).1 k_ hk_.symm); have hx12_0 := hcc12 0 _ rfl; (try simp only [show (k46).sz = 3 from rfl, Nat.mul_one, Nat.add_zero] at hx12_0); have hf12_0 := hfr12 0; (try simp only [show (k46).sz = 3 from rfl, Nat.mul_one, Nat.add_zero] at hf12_0); have hx12_1 := hcc12 1 _ rfl; (try simp only [show (k46).sz = 3 from rfl, Nat.mul_one, Nat.add_zero] at hx12_1); have hf12_1 := hfr12 1; (try simp only [show (k46).sz = 3 from rfl, Nat.mul_one, Nat.add_zero] at hf12_1); have hx12_2 := hcc12 2 _ rfl; (try simp only [show (k46).sz = 3 from rfl, Nat.mul_one, Nat.add_zero] at hx12_2); have hf12_2 := hfr12 2; (try simp only [show (k46).sz = 3 from rfl, Nat.mul_one, Nat.add_zero] at hf12_2); clear hcl12 hcc12 hfr12 hM12 hoki12 hH12) | ((with_reducible refine gate_store (t := 46) (p := 21) rfl ?_); obtain ⟨Av_, cv_, ev_⟩ := Kd.R_slice a1.out; subst ev_; refine store_event (t := 46) (p := 21) (v := ?vo_w13) (w1 := (((w11.setCell ⟨go10, (x4_1 : Int).toNat * 3, none⟩ (.int .i64 t259)).setCell ⟨go10, (x4_1 : Int).toNat * 3 + 1, none⟩ (.int .i64 t260)).setCell ⟨go10, (x4_1 : Int).toNat * 3 + 2, none⟩ (.slice Av_ t261.length cv_))) ?hg ?ho ?hn ?hr ?_; (case ho => rfl); (case hg => rfl); (case hn => rfl); (case hr => first | (go_simp; done) | (go_simp; rfl)); intro w13 hw; have hg : w11.grownBy w13 (some go10) := (by rw [hw]; exact HP12.2); have hp_ : Kd.S k46 46 w13 w.heap.size (fun _ => True) (.slice (some ⟨go10, 0, none⟩) x3_1.length a4) y264 := (by rw [hw, a7.out]; exact HP12.1); clear HP12; replace a0 := Z_ (hp_); replace HB := Z_ ((by rw [hw]; exact lS1_ (lS1_ (lS1_ (HB.out) a2.out) a2.out) a2.out : Below w.heap.size w w13)); clear a1 hg hw hp_))
   go_roundg k1
   case measure => have := HK1.out; omega
   case rel => exact ⟨(y264), (wrap64 (x4_1 + 1)), Sr_, H', ⟨by have := HK1.out; omega⟩, ⟨by (with_reducible repeat (first | apply Kd.S_alloc | apply Kd.S_drewN | apply Kd.S_drew)); exact a0.out⟩, ⟨Lb_⟩⟩
def laws_toInt64S.l0 : Nat → List Int → List Int → Int → Option (List Int)
 | 0, _, _, _ => none
 | k + 1, x0, x3, x4 => if x4 < (x0.length : Int) then (if 0 ≤ x4 then (if x4 < (x3.length : Int) then (laws_toInt64S.l0 k x0 (x3.set (x4 : Int).toNat (rd x0 x4)) (wrap64 (x4 + 1))) else (none)) else (none)) else (some x3)
def laws_toInt64S.f (k : Nat) (l0 : List Int) : Option (List Int) := if 0 ≤ (l0.length : Int) then (if ((l0.length : Int) : Int).toNat ≤ 35184372088832 then (laws_toInt64S.l0 k l0 (List.replicate ((l0.length : Int) : Int).toNat 0) 0) else (none)) else (none)
set_option maxHeartbeats 8000000 in
set_option maxRecDepth 100000 in
theorem laws_toInt64S.calls (k : Nat) (A0 : Option Addr) (c0 : Nat) (l0 r : List Int) (w : World) (hr0 : Kd.C (Kd.int .i64) w A0 l0.length l0) (hc0 : l0.length ≤ c0) (h : laws_toInt64S.f k l0 = some r) :
  Calls Try.prog 20 #[.slice A0 l0.length c0] w fun e w' => ∃ v0_ : Value, e = .returned (v0_) ∧ Kd.R (Kd.int .i64) 2 w' w.heap.size (fun _ => True) v0_ r ∧ Below w.heap.size w w' := by
 have a5 := Z_ hr0
 have a8 := Z_ hc0
 clear hr0 hc0
 have HB := Z_ (Below.refl w.heap.size w)
 unfold laws_toInt64S.f at h
 have H := h
 clear h
 replace H := iN_ H
 obtain ⟨c2, H⟩ := H
 have c2b0 := eq_true c2
 have c2b1 : decide (0 ≤ (l0.length : Int)) = true := decide_eq_true c2
 clear c2
 replace H := iN_ H
 obtain ⟨c3, H⟩ := H
 have c3b0 := eq_true c3
 have c3b1 : decide (((l0.length : Int) : Int).toNat ≤ 35184372088832) = true := decide_eq_true c3
 clear c3
 obtain ⟨y265, hy265⟩ : ∃ y_ : List Int, y_ = (List.replicate ((l0.length : Int) : Int).toNat 0) := ⟨_, rfl⟩
 replace H : (laws_toInt64S.l0 k l0 y265 0) = some r := by first | (rw [hy265]; with_reducible exact H) | (have H2_ := (Option.bind_some _ _).symm.trans H; rw [hy265]; with_reducible exact H2_) | (have H2_ := (Option.bind_some _ _).symm.trans H; with_reducible exact H2_) | with_reducible exact H | (rw [hy265]; exact H) | exact H
 have a1 := Z_ hy265
 clear hy265
 have H' := Z_ H
 clear H
 go_enter Try.func20, Try.ntmps20
 go_wp2_with (first | ((with_reducible refine gD_ 7 rfl ?_); refine Kd.R_make (Kd.int .i64) _ 2 rfl (N := 7) rfl 24 _ _ rfl (l0.length : Int) rfl rfl Try.underlying24 (.int .i64 0) 8 info2 rfl (by decide) (by omega) 0 (ok := fun _ => True) (okp := fun _ => True) rfl (fun _ hk => hk) trivial (dA_) (Nat.le_trans (Nat.mul_le_mul_right _ (dA_ : (l0.length : Int).toNat ≤ 35184372088832)) (by omega)) (Below.refl _ _) (Nat.le_refl _) ?_; intro v266 w4 ho5 hb hg_ hnew_; clear hg_ hnew_; (first | rw [← a1.out] at ho5 | (simp only [Int.reduceToNat] at ho5; rw [← a1.out] at ho5)); have a2 := Z_ (Kd.R_lower ho5 (below_size HB.out)); replace HB := Z_ (lP_ HB.out hb); clear hb ho5))
 go_loopg [4] k (fun kq v4 w' => ∃ (x3_1 : List Int) (x4_1 : Int), v4 = .int .i64 x4_1 ∧ Aside0 (laws_toInt64S.l0 kq l0 x3_1 x4_1 = some r) ∧ Aside0 (kq ≤ k) ∧ Aside0 (Kd.R (Kd.int .i64) 2 w' w.heap.size (fun _ => True) v266 x3_1) ∧ Aside0 (Below w.heap.size w w'))
 case atStart => exact ⟨(y265), (0), Sr_, H', ⟨Nat.le_refl _⟩, ⟨by (with_reducible repeat first | apply rA_ | apply rN_ | apply rD_); exact a2.out⟩, ⟨Lb_⟩⟩
 case round =>
  clear H'
  try clear c2
  try clear c2b0
  try clear c2b1
  try clear p2
  try clear c3
  try clear c3b0
  try clear c3b1
  obtain ⟨x3_1, x4_1, rfl, HA, HK1, a0, HB⟩ := hrel
  cases gk with
  | zero => exact absurd HA.out (by simp [laws_toInt64S.l0])
  | succ k1 =>
   have H := HA.out
   clear HA
   simp only [laws_toInt64S.l0] at H
   replace H := iD_ H
   obtain ⟨c6b0, H⟩ | ⟨c6b0, H⟩ := H
   rotate_left
   ·obtain rfl := Option.some.inj H
    go_wp2
    go_ret
    exact ⟨_, Er_, by (with_reducible repeat first | apply rA_ | apply rN_ | apply rD_); exact a0.out, Lb_⟩
   rotate_right
   replace H := iM_ H
   obtain ⟨c7b0, H⟩ := H
   replace H := iM_ H
   obtain ⟨c8b0, H⟩ := H
   obtain ⟨y269, hy269⟩ : ∃ y_ : List Int, y_ = (x3_1.set (x4_1 : Int).toNat (rd l0 x4_1)) := ⟨_, rfl⟩
   replace H : (laws_toInt64S.l0 k1 l0 y269 (wrap64 (x4_1 + 1))) = some r := by first | (rw [hy269]; with_reducible exact H) | (have H2_ := (Option.bind_some _ _).symm.trans H; rw [hy269]; with_reducible exact H2_) | (have H2_ := (Option.bind_some _ _).symm.trans H; with_reducible exact H2_) | with_reducible exact H | (rw [hy269]; exact H) | exact H
   have a3 := Z_ hy269
   clear hy269
   have H' := Z_ H
   clear H
   have p268 : 0 ≤ (x4_1 : Int) := dA_
   have q268 : x4_1 < (l0.length : Int) := dA_
   obtain ⟨ad268, e268, hx268_0⟩ := Kd.at_int a5.out x4_1 p268 q268
   cases e268
   replace hx268_0 := cB_ HB hx268_0
   replace p268 := eq_true p268
   replace q268 := eq_true q268
   have p9 : 0 ≤ (x4_1 : Int) := dA_
   have q9 : (x4_1 : Int) < ((x3_1.length : Int) : Int) := dA_
   obtain ⟨go9, a6, eo9, a4, gl9, cl9, HG9⟩ := Kd.R_form a0.out (by omega)
   (first | cases eo9 | (injection eo9 with ea_ en_ ec_; (first | subst ea_ | (injection ea_ with ea_; subst ea_)); subst ec_; clear en_))
   have a7 := Z_ a4
   have GG9 := Z_ HG9
   clear a4 gl9 HG9
   obtain ⟨hx9_0, hf9_0⟩ := Kd.R_celln 0 a0.out (x4_1 : Int) p9 q9
   replace p9 := eq_true p9
   replace q9 := eq_true q9
   have HP10 := Kd.R_putg a0.out (x4_1 : Int) (rd l0 x4_1)
   go_wp2_with (first | ((with_reducible refine gate_store (t := 2) (p := 20) rfl ?_); refine store_event (t := 2) (p := 20) (v := ?vo_w11) (w1 := (wr.setCell ⟨go9, (x4_1 : Int).toNat, none⟩ (.int .i64 (rd l0 x4_1)))) ?hg ?ho ?hn ?hr ?_; (case ho => rfl); (case hg => rfl); (case hn => rfl); (case hr => first | (go_simp; done) | (go_simp; rfl)); intro w11 hw; have hg : wr.grownBy w11 (some go9) := (by rw [hw]; exact HP10.2); have hp_ : Kd.R (Kd.int .i64) 2 w11 w.heap.size (fun _ => True) (.slice (some ⟨go9, 0, none⟩) x3_1.length a6) y269 := (by rw [hw, a3.out]; exact HP10.1); clear HP10; replace a0 := Z_ (hp_); replace HB := Z_ ((by rw [hw]; exact lS1_ (HB.out) a7.out : Below w.heap.size w w11)); clear hg hw hp_))
   go_roundg k1
   case measure => have := HK1.out; omega
   case rel => exact ⟨(y269), (wrap64 (x4_1 + 1)), Sr_, H', ⟨by have := HK1.out; omega⟩, ⟨by (with_reducible repeat first | apply rA_ | apply rN_ | apply rD_); exact a0.out⟩, ⟨Lb_⟩⟩
def laws_toGiven.f (a0_0 a0_1 a0_2 a0_3 : Int) : Option (Int × Int × Int × Int) := some (a0_0, a0_1, a0_2, a0_3)
set_option maxHeartbeats 8000000 in
set_option maxRecDepth 100000 in
theorem laws_toGiven.calls (a0_0 a0_1 a0_2 a0_3 r1 r2 r3 r4 : Int) (w : World) (h : laws_toGiven.f a0_0 a0_1 a0_2 a0_3 = some (r1, r2, r3, r4)) :
  Calls Try.prog 45 #[.agg #[.int .i64 a0_0, .int .i64 a0_1, .int .i64 a0_2, .int .i64 a0_3]] w fun e w' => e = .returned (.agg #[.int .i64 r1, .int .i64 r2, .int .i64 r3, .int .i64 r4]) ∧ Below w.heap.size w w' := by
 have hu88 := Try.underlying88
 have hu59 := Try.underlying59
 have HB := Z_ (Below.refl w.heap.size w)
 unfold laws_toGiven.f at h
 have H := h
 clear h
 simp only [Option.some.injEq, Prod.mk.injEq] at H
 obtain ⟨rfl, rfl, rfl, rfl⟩ := H
 go_enter Try.func45, Try.ntmps45
 go_wp2_with (first | ((with_reducible refine gD_ 1 rfl ?_); refine bx_ #[.int .i64 a0_0, .int .i64 a0_1, .int .i64 a0_2, .int .i64 a0_3] 88 ?_; intro gb270 hg w2 hbox hb; have BK270 := Z_ hbox; have GE270 := Z_ ((by rw [hg]; exact (below_size HB.out) : w.heap.size ≤ gb270)); replace HB := Z_ (lP_ HB.out hb); clear hb hbox hg) | ((with_reducible refine gD_ 2 rfl ?_); refine bx_ #[.int .i64 0, .int .i64 0, .int .i64 0, .int .i64 0] 59 ?_; intro gb271 hg w3 hbox hb; have BK271 := Z_ hbox; have GE271 := Z_ ((by rw [hg]; exact (below_size HB.out) : w.heap.size ≤ gb271)); replace HB := Z_ (lP_ HB.out hb); have NB270_271 := Z_ ((by rw [hg]; exact Nat.ne_of_lt (blk_lt BK270.out) : gb270 ≠ gb271)); replace BK270 := Z_ (bB_ BK270.out hb); have NB271_270 := Z_ NB270_271.out.symm; clear hb hbox hg) | ((with_reducible refine gD_ 3 rfl ?_); refine bx_ #[.int .i64 0, .int .i64 0, .int .i64 0, .int .i64 0] 59 ?_; intro gb272 hg w4 hbox hb; have BK272 := Z_ hbox; have GE272 := Z_ ((by rw [hg]; exact (below_size HB.out) : w.heap.size ≤ gb272)); replace HB := Z_ (lP_ HB.out hb); have NB270_272 := Z_ ((by rw [hg]; exact Nat.ne_of_lt (blk_lt BK270.out) : gb270 ≠ gb272)); replace BK270 := Z_ (bB_ BK270.out hb); have NB272_270 := Z_ NB270_272.out.symm; have NB271_272 := Z_ ((by rw [hg]; exact Nat.ne_of_lt (blk_lt BK271.out) : gb271 ≠ gb272)); replace BK271 := Z_ (bB_ BK271.out hb); have NB272_271 := Z_ NB271_272.out.symm; clear hb hbox hg; have hnb5 := NB270_271.out; have hnc5 := NB271_270.out; have hnb6 := NB270_272.out; have hnc6 := NB272_270.out; obtain ⟨_, _, _, _, _, _, _, _⟩ := bc4 BK270.out; have hnb8 := NB272_271.out; have hnc8 := NB271_272.out; obtain ⟨_, _, _, _, _, _, _, _⟩ := bc4 BK272.out; obtain ⟨_, _, _, _, _, _, _, _⟩ := bc4 BK271.out))
 refine bodyPost_ret (results_cell_row rfl _ _ gb271 59 #[.int .i64 a0_0, .int .i64 a0_1, .int .i64 a0_2, .int .i64 a0_3] (0, 0) _ rfl (by (with_reducible repeat first | apply bN_ | apply bD_ | apply bA_); apply fill4; (iterate 4 ((with_reducible repeat first | apply bN_ | apply bD_ | apply bA_); refine bF_ ?_ NB271_272.out _)); (with_reducible repeat first | apply bN_ | apply bD_ | apply bA_); exact BK271.out) Try.underlying59 rfl (by kernel_rfl)) rfl ?_
 exact ⟨Er_, Lb_⟩
def laws_toGivenS.l0 : Nat → List (S88) → List (S59) → Int → Option ((List (S59)))
 | 0, _, _, _ => none
 | k + 1, x0, x3, x4 => if x4 < (x0.length : Int) then (if 0 ≤ x4 then ((laws_toGiven.f ((rd_T88 x0 x4).f0) ((rd_T88 x0 x4).f1) ((rd_T88 x0 x4).f2) ((rd_T88 x0 x4).f3)).bind fun bt277 => (if x4 < (x3.length : Int) then (laws_toGivenS.l0 k x0 (x3.set (x4 : Int).toNat (⟨bt277.1, bt277.2.1, bt277.2.2.1, bt277.2.2.2⟩ : S59)) (wrap64 (x4 + 1))) else (none))) else (none)) else (some x3)
def laws_toGivenS.f (k : Nat) (l0 : List (S88)) : Option ((List (S59))) := if 0 ≤ (l0.length : Int) then (if ((l0.length : Int) : Int).toNat ≤ 8796093022208 then (laws_toGivenS.l0 k l0 (List.replicate ((l0.length : Int) : Int).toNat z59) 0) else (none)) else (none)
set_option maxHeartbeats 8000000 in
set_option maxRecDepth 100000 in
theorem laws_toGivenS.calls (k : Nat) (A0 : Option Addr) (c0 : Nat) (l0 : List (S88)) (r : List (S59)) (w : World) (hr0 : Kd.C k88 w A0 l0.length l0) (hc0 : l0.length ≤ c0) (h : laws_toGivenS.f k l0 = some r) :
  Calls Try.prog 21 #[.slice A0 l0.length c0] w fun e w' => ∃ v0_ : Value, e = .returned (v0_) ∧ Kd.R k59 59 w' w.heap.size (fun _ => True) v0_ r ∧ Below w.heap.size w w' := by
 have hu88 := Try.underlying88
 have hu59 := Try.underlying59
 have a8 := Z_ hr0
 have a9 := Z_ hc0
 clear hr0 hc0
 have HB := Z_ (Below.refl w.heap.size w)
 unfold laws_toGivenS.f at h
 have H := h
 clear h
 replace H := iN_ H
 obtain ⟨c2, H⟩ := H
 have c2b0 := eq_true c2
 have c2b1 : decide (0 ≤ (l0.length : Int)) = true := decide_eq_true c2
 clear c2
 replace H := iN_ H
 obtain ⟨c3, H⟩ := H
 have c3b0 := eq_true c3
 have c3b1 : decide (((l0.length : Int) : Int).toNat ≤ 8796093022208) = true := decide_eq_true c3
 clear c3
 obtain ⟨y273, hy273⟩ : ∃ y_ : List (S59), y_ = (List.replicate ((l0.length : Int) : Int).toNat z59) := ⟨_, rfl⟩
 replace H : (laws_toGivenS.l0 k l0 y273 0) = some r := by first | (rw [hy273]; with_reducible exact H) | (have H2_ := (Option.bind_some _ _).symm.trans H; rw [hy273]; with_reducible exact H2_) | (have H2_ := (Option.bind_some _ _).symm.trans H; with_reducible exact H2_) | with_reducible exact H | (rw [hy273]; exact H) | exact H
 have a2 := Z_ hy273
 clear hy273
 have H' := Z_ H
 clear H
 go_enter Try.func21, Try.ntmps21
 go_wp2_with (first | ((with_reducible refine gD_ 7 rfl ?_); refine Kd.R_make k59 _ 59 rfl (N := 7) rfl 32 _ _ rfl (l0.length : Int) rfl rfl Try.underlying32 (.agg #[(.int .i64 0), (.int .i64 0), (.int .i64 0), (.int .i64 0)]) 32 info59 rfl (by decide) (by omega) z59 (ok := fun _ => True) (okp := fun _ => True) (k59_mkM _ _ _ z59 ) (fun _ hk => hk) trivial (dA_) (Nat.le_trans (Nat.mul_le_mul_right _ (dA_ : (l0.length : Int).toNat ≤ 8796093022208)) (by omega)) (Below.refl _ _) (Nat.le_refl _) ?_; intro v274 w4 ho5 hb hg_ hnew_; clear hg_ hnew_; (first | rw [← a2.out] at ho5 | (simp only [Int.reduceToNat] at ho5; rw [← a2.out] at ho5)); have a5 := Z_ (Kd.R_lower ho5 (below_size HB.out)); replace HB := Z_ (lP_ HB.out hb); clear hb ho5))
 go_loopg [4] k (fun kq v4 w' => ∃ (x3_1 : List (S59)) (x4_1 : Int), v4 = .int .i64 x4_1 ∧ Aside0 (laws_toGivenS.l0 kq l0 x3_1 x4_1 = some r) ∧ Aside0 (kq ≤ k) ∧ Aside0 (Kd.R k59 59 w' w.heap.size (fun _ => True) v274 x3_1) ∧ Aside0 (Below w.heap.size w w'))
 case atStart => exact ⟨(y273), (0), Sr_, H', ⟨Nat.le_refl _⟩, ⟨by (with_reducible repeat first | apply rA_ | apply rN_ | apply rD_); exact a5.out⟩, ⟨Lb_⟩⟩
 case round =>
  clear H'
  try clear c2
  try clear c2b0
  try clear c2b1
  try clear p2
  try clear c3
  try clear c3b0
  try clear c3b1
  obtain ⟨x3_1, x4_1, rfl, HA, HK1, a0, HB⟩ := hrel
  cases gk with
  | zero => exact absurd HA.out (by simp [laws_toGivenS.l0])
  | succ k1 =>
   have H := HA.out
   clear HA
   simp only [laws_toGivenS.l0] at H
   replace H := iD_ H
   obtain ⟨c6b0, H⟩ | ⟨c6b0, H⟩ := H
   rotate_left
   ·obtain rfl := Option.some.inj H
    go_wp2
    go_ret
    exact ⟨_, Er_, by (with_reducible repeat first | apply rA_ | apply rN_ | apply rD_); exact a0.out, Lb_⟩
   rotate_right
   replace H := iM_ H
   obtain ⟨c7b0, H⟩ := H
   replace H := bS_ H
   obtain ⟨⟨t277, t278, t279, t280⟩, A8, H⟩ := H
   try dsimp only at H
   replace H := iM_ H
   obtain ⟨c9b0, H⟩ := H
   obtain ⟨y281, hy281⟩ : ∃ y_ : List (S59), y_ = (x3_1.set (x4_1 : Int).toNat (⟨t277, t278, t279, t280⟩ : S59)) := ⟨_, rfl⟩
   replace H : (laws_toGivenS.l0 k1 l0 y281 (wrap64 (x4_1 + 1))) = some r := by first | (rw [hy281]; with_reducible exact H) | (have H2_ := (Option.bind_some _ _).symm.trans H; rw [hy281]; with_reducible exact H2_) | (have H2_ := (Option.bind_some _ _).symm.trans H; with_reducible exact H2_) | with_reducible exact H | (rw [hy281]; exact H) | exact H
   have a6 := Z_ hy281
   clear hy281
   have H' := Z_ H
   clear H
   have p276 : 0 ≤ (x4_1 : Int) := dA_
   have q276 : x4_1 < (l0.length : Int) := dA_
   obtain ⟨ad276, e276, hx276_0, hx276_1, hx276_2, hx276_3⟩ := at_T88 a8.out x4_1 p276 q276
   cases e276
   replace hx276_0 := cB_ HB hx276_0
   replace hx276_1 := cB_ HB hx276_1
   replace hx276_2 := cB_ HB hx276_2
   replace hx276_3 := cB_ HB hx276_3
   replace p276 := eq_true p276
   replace q276 := eq_true q276
   go_wp2_with (first | ((with_reducible refine gate_callee (f := 45) rfl ?_); refine goesA_ (some 20) rfl rfl Try.func45 (by kernel_rfl) rfl #[.agg #[.int .i64 ((rd_T88 l0 x4_1).f0), .int .i64 ((rd_T88 l0 x4_1).f1), .int .i64 ((rd_T88 l0 x4_1).f2), .int .i64 ((rd_T88 l0 x4_1).f3)]] rfl ?_; (with_reducible refine (laws_toGiven.calls ((rd_T88 l0 x4_1).f0) ((rd_T88 l0 x4_1).f1) ((rd_T88 l0 x4_1).f2) ((rd_T88 l0 x4_1).f3) t277 t278 t279 t280 _ A8.out).mono ?_); rintro e w11 ⟨rfl, hb⟩; refine ⟨_, rfl, ?_⟩; replace a0 := Z_ (Kd.R_below a0.out hb); replace HB := Z_ (lP_ HB.out hb); (try clear hb); have p10 : 0 ≤ (x4_1 : Int) := dA_; have q10 : (x4_1 : Int) < ((x3_1.length : Int) : Int) := dA_; obtain ⟨go10, a3, eo10, a4, gl10, cl10, HG10⟩ := Kd.R_form a0.out (by omega); (first | cases eo10 | (injection eo10 with ea_ en_ ec_; (first | subst ea_ | (injection ea_ with ea_; subst ea_)); subst ec_; clear en_)); have a1 := Z_ a4; have GG10 := Z_ HG10; clear a4 gl10 HG10; obtain ⟨ce10, hcl10, hM10, hcc10, hfr10⟩ := Kd.R_elem a0.out z59 (x4_1 : Int) p10 q10; obtain rfl := k59_openM hM10; have hx10_0 : w11.cell? ⟨go10, (x4_1 : Int).toNat * 4, none⟩ = some (.int .i64 ((rd_T59 x3_1 x4_1).f0)) := hcc10 0 _ rfl; have hx10_1 : w11.cell? ⟨go10, (x4_1 : Int).toNat * 4 + 1, none⟩ = some (.int .i64 ((rd_T59 x3_1 x4_1).f1)) := hcc10 1 _ rfl; have hx10_2 : w11.cell? ⟨go10, (x4_1 : Int).toNat * 4 + 2, none⟩ = some (.int .i64 ((rd_T59 x3_1 x4_1).f2)) := hcc10 2 _ rfl; have hx10_3 : w11.cell? ⟨go10, (x4_1 : Int).toNat * 4 + 3, none⟩ = some (.int .i64 ((rd_T59 x3_1 x4_1).f3)) := hcc10 3 _ rfl; have hf10_0 : w11.frozen? ⟨go10, (x4_1 : Int).toNat * 4, none⟩ = false := hfr10 0; have hf10_1 : w11.frozen? ⟨go10, (x4_1 : Int).toNat * 4 + 1, none⟩ = false := hfr10 1; have hf10_2 : w11.frozen? ⟨go10, (x4_1 : Int).toNat * 4 + 2, none⟩ = false := hfr10 2; have hf10_3 : w11.frozen? ⟨go10, (x4_1 : Int).toNat * 4 + 3, none⟩ = false := hfr10 3; clear hcl10 hcc10 hfr10 hM10; replace p10 := eq_true p10; replace q10 := eq_true q10; have HX12 := Z_ (show Kd.R k59 59 w11 w.heap.size (fun _ => True) (.slice (some ⟨go10, 0, none⟩) x3_1.length a3) x3_1 from a0.out); obtain ⟨ce12, hcl12, hM12, hcc12, hfr12⟩ := Kd.R_elem HX12.out z59 (x4_1 : Int) (dA_) (by have h_ : (x4_1 : Int) < ((x3_1.length : Int) : Int) := dA_; first | exact h_ | (have e_ := (Kd.R_reads' a0.out).1; omega) | simpa using h_); obtain rfl := k59_openM hM12; have HP12 := Kd.R_seg HX12.out (x4_1 : Int) (dA_) (by have h_ : (x4_1 : Int) < ((x3_1.length : Int) : Int) := dA_; first | exact h_ | (have e_ := (Kd.R_reads' a0.out).1; omega) | simpa using h_) (seg := [.int .i64 t277, .int .i64 t278, .int .i64 t279, .int .i64 t280]) (j := 0) hcl12 hcc12 (show 4 ≤ 4 from by decide) (x' := (⟨t277, t278, t279, t280⟩ : S59)) (k59_mkM _ _ _ (⟨t277, t278, t279, t280⟩ : S59) ) (fun _ hk => hk); have hx12_0 := hcc12 0 _ rfl; (try simp only [show (k59).sz = 4 from rfl, Nat.mul_one, Nat.add_zero] at hx12_0); have hf12_0 := hfr12 0; (try simp only [show (k59).sz = 4 from rfl, Nat.mul_one, Nat.add_zero] at hf12_0); have hx12_1 := hcc12 1 _ rfl; (try simp only [show (k59).sz = 4 from rfl, Nat.mul_one, Nat.add_zero] at hx12_1); have hf12_1 := hfr12 1; (try simp only [show (k59).sz = 4 from rfl, Nat.mul_one, Nat.add_zero] at hf12_1); have hx12_2 := hcc12 2 _ rfl; (try simp only [show (k59).sz = 4 from rfl, Nat.mul_one, Nat.add_zero] at hx12_2); have hf12_2 := hfr12 2; (try simp only [show (k59).sz = 4 from rfl, Nat.mul_one, Nat.add_zero] at hf12_2); have hx12_3 := hcc12 3 _ rfl; (try simp only [show (k59).sz = 4 from rfl, Nat.mul_one, Nat.add_zero] at hx12_3); have hf12_3 := hfr12 3; (try simp only [show (k59).sz = 4 from rfl, Nat.mul_one, Nat.add_zero] at hf12_3); clear hcl12 hcc12 hfr12 hM12) | ((with_reducible refine gate_store (t := 59) (p := 21) rfl ?_); refine store_event (t := 59) (p := 21) (v := ?vo_w13) (w1 := ((((w11.setCell ⟨go10, (x4_1 : Int).toNat * 4, none⟩ (.int .i64 t277)).setCell ⟨go10, (x4_1 : Int).toNat * 4 + 1, none⟩ (.int .i64 t278)).setCell ⟨go10, (x4_1 : Int).toNat * 4 + 2, none⟩ (.int .i64 t279)).setCell ⟨go10, (x4_1 : Int).toNat * 4 + 3, none⟩ (.int .i64 t280))) ?hg ?ho ?hn ?hr ?_; (case ho => rfl); (case hg => rfl); (case hn => rfl); (case hr => first | (go_simp; done) | (go_simp; rfl)); intro w13 hw; have hg : w11.grownBy w13 (some go10) := (by rw [hw]; exact HP12.2); have hp_ : Kd.R k59 59 w13 w.heap.size (fun _ => True) (.slice (some ⟨go10, 0, none⟩) x3_1.length a3) y281 := (by rw [hw, a6.out]; exact HP12.1); clear HP12; replace a0 := Z_ (hp_); replace HB := Z_ ((by rw [hw]; exact lS1_ (lS1_ (lS1_ (lS1_ (HB.out) a1.out) a1.out) a1.out) a1.out : Below w.heap.size w w13)); clear hg hw hp_))
   go_roundg k1
   case measure => have := HK1.out; omega
   case rel => exact ⟨(y281), (wrap64 (x4_1 + 1)), Sr_, H', ⟨by have := HK1.out; omega⟩, ⟨by (with_reducible repeat first | apply rA_ | apply rN_ | apply rD_); exact a0.out⟩, ⟨Lb_⟩⟩
def laws_toNet.f (k : Nat) (l0_0 : List (S85)) (l0_1 : List (S73)) (l0_2 l0_3 : List Int) (l0_4 l0_5 : List (S88)) : Option ((List (S76)) × (List (S46)) × List Int × List Int × (List (S59)) × (List (S59))) := (laws_toTermS.f k l0_0).bind fun t285 => ((laws_toGateS.f k l0_1).bind fun t288 => ((laws_toInt64S.f k l0_2).bind fun t291 => ((laws_toInt64S.f k l0_3).bind fun t294 => ((laws_toGivenS.f k l0_4).bind fun t297 => ((laws_toGivenS.f k l0_5).bind fun t300 => (some (t285, t288, t291, t294, t297, t300)))))))
set_option maxHeartbeats 8000000 in
set_option maxRecDepth 100000 in
theorem laws_toNet.calls (k : Nat) (A0_0 : Option Addr) (c0_0 : Nat) (l0_0 : List (S85)) (A0_1 : Option Addr) (c0_1 : Nat) (l0_1 : List (S73)) (A0_2 : Option Addr) (c0_2 : Nat) (l0_2 : List Int) (A0_3 : Option Addr) (c0_3 : Nat) (l0_3 : List Int) (A0_4 : Option Addr) (c0_4 : Nat) (l0_4 : List (S88)) (A0_5 : Option Addr) (c0_5 : Nat) (l0_5 : List (S88)) (r1 : List (S76)) (r2 : List (S46)) (r3 r4 : List Int) (r5 r6 : List (S59)) (w : World) (hr0_0 : Kd.C k85 w A0_0 l0_0.length l0_0) (hc0_0 : l0_0.length ≤ c0_0) (hr0_1 : Kd.C k73 w A0_1 l0_1.length l0_1) (hc0_1 : l0_1.length ≤ c0_1) (hr0_2 : Kd.C (Kd.int .i64) w A0_2 l0_2.length l0_2) (hc0_2 : l0_2.length ≤ c0_2) (hr0_3 : Kd.C (Kd.int .i64) w A0_3 l0_3.length l0_3) (hc0_3 : l0_3.length ≤ c0_3) (hr0_4 : Kd.C k88 w A0_4 l0_4.length l0_4) (hc0_4 : l0_4.length ≤ c0_4) (hr0_5 : Kd.C k88 w A0_5 l0_5.length l0_5) (hc0_5 : l0_5.length ≤ c0_5) (h : laws_toNet.f k l0_0 l0_1 l0_2 l0_3 l0_4 l0_5 = some (r1, r2, r3, r4, r5, r6)) :
  Calls Try.prog 6 #[.agg #[.slice A0_0 l0_0.length c0_0, .slice A0_1 l0_1.length c0_1, .slice A0_2 l0_2.length c0_2, .slice A0_3 l0_3.length c0_3, .slice A0_4 l0_4.length c0_4, .slice A0_5 l0_5.length c0_5]] w fun e w' => ∃ v0_ v1_ v2_ v3_ v4_ v5_ : Value, e = .returned (.agg #[v0_, v1_, v2_, v3_, v4_, v5_]) ∧ Kd.R k76 76 w' w.heap.size (fun _ => True) v0_ r1 ∧ Kd.S k46 46 w' w.heap.size (fun _ => True) v1_ r2 ∧ Kd.R (Kd.int .i64) 2 w' w.heap.size (fun k_ => some k_ ≠ (v3_ : Value).ownBlock) v2_ r3 ∧ Kd.R (Kd.int .i64) 2 w' w.heap.size (fun k_ => some k_ ≠ (v2_ : Value).ownBlock) v3_ r4 ∧ Kd.R k59 59 w' w.heap.size (fun k_ => some k_ ≠ (v5_ : Value).ownBlock) v4_ r5 ∧ Kd.R k59 59 w' w.heap.size (fun k_ => some k_ ≠ (v4_ : Value).ownBlock) v5_ r6 ∧ Below w.heap.size w w' := by
 have hu27 := Try.underlying27
 have hu34 := Try.underlying34
 have HR0_0 := Z_ hr0_0
 have HC0_0 := Z_ hc0_0
 clear hr0_0 hc0_0
 have HR0_1 := Z_ hr0_1
 have HC0_1 := Z_ hc0_1
 clear hr0_1 hc0_1
 have HR0_2 := Z_ hr0_2
 have HC0_2 := Z_ hc0_2
 clear hr0_2 hc0_2
 have HR0_3 := Z_ hr0_3
 have HC0_3 := Z_ hc0_3
 clear hr0_3 hc0_3
 have HR0_4 := Z_ hr0_4
 have HC0_4 := Z_ hc0_4
 clear hr0_4 hc0_4
 have HR0_5 := Z_ hr0_5
 have HC0_5 := Z_ hc0_5
 clear hr0_5 hc0_5
 have HB := Z_ (Below.refl w.heap.size w)
 unfold laws_toNet.f at h
 have H := h
 clear h
 replace H := bS_ H
 obtain ⟨t285, A2, H⟩ := H
 replace H := bS_ H
 obtain ⟨t288, A3, H⟩ := H
 replace H := bS_ H
 obtain ⟨t291, A4, H⟩ := H
 replace H := bS_ H
 obtain ⟨t294, A5, H⟩ := H
 replace H := bS_ H
 obtain ⟨t297, A6, H⟩ := H
 replace H := bS_ H
 obtain ⟨t300, A7, H⟩ := H
 simp only [Option.some.injEq, Prod.mk.injEq] at H
 obtain ⟨rfl, rfl, rfl, rfl, rfl, rfl⟩ := H
 go_enter Try.func6, Try.ntmps6
 go_wp2_with (first | ((with_reducible refine gD_ 1 rfl ?_); refine bx_ #[.slice A0_0 l0_0.length c0_0, .slice A0_1 l0_1.length c0_1, .slice A0_2 l0_2.length c0_2, .slice A0_3 l0_3.length c0_3, .slice A0_4 l0_4.length c0_4, .slice A0_5 l0_5.length c0_5] 27 ?_; intro ak hg w8 hbox hb; have a3 := Z_ hbox; have a6 := Z_ ((by rw [hg]; exact (below_size HB.out) : w.heap.size ≤ ak)); replace HB := Z_ (lP_ HB.out hb); clear hb hbox hg) | ((with_reducible refine gD_ 2 rfl ?_); refine bx_ #[.slice none 0 0, .slice none 0 0, .slice none 0 0, .slice none 0 0, .slice none 0 0, .slice none 0 0] 34 ?_; intro a4 hg w9 hbox hb; have a2 := Z_ hbox; have a7 := Z_ ((by rw [hg]; exact (below_size HB.out) : w.heap.size ≤ a4)); replace HB := Z_ (lP_ HB.out hb); have au := Z_ ((by rw [hg]; exact Nat.ne_of_lt (blk_lt a3.out) : ak ≠ a4)); replace a3 := Z_ (bB_ a3.out hb); have av := Z_ au.out.symm; clear hb hbox hg) | ((with_reducible refine gD_ 3 rfl ?_); refine bx_ #[.slice none 0 0, .slice none 0 0, .slice none 0 0, .slice none 0 0, .slice none 0 0, .slice none 0 0] 34 ?_; intro a1 hg w10 hbox hb; have a0 := Z_ hbox; have a8 := Z_ ((by rw [hg]; exact (below_size HB.out) : w.heap.size ≤ a1)); replace HB := Z_ (lP_ HB.out hb); have ac := Z_ ((by rw [hg]; exact Nat.ne_of_lt (blk_lt a3.out) : ak ≠ a1)); replace a3 := Z_ (bB_ a3.out hb); have aw := Z_ ac.out.symm; have aa := Z_ ((by rw [hg]; exact Nat.ne_of_lt (blk_lt a2.out) : a4 ≠ a1)); replace a2 := Z_ (bB_ a2.out hb); have ax := Z_ aa.out.symm; clear hb hbox hg; have b5 := au.out; have b6 := av.out; have b7 := ac.out; have b8 := aw.out; obtain ⟨_, _, _, _, _, _, _, _, _, _, _, _⟩ := bc6 a3.out) | ((with_reducible refine gate_callee (f := 18) rfl ?_); refine goesA_ (some 6) rfl rfl Try.func18 (by kernel_rfl) rfl #[.slice A0_0 l0_0.length c0_0] rfl ?_; (with_reducible refine (laws_toTermS.calls k _ _ l0_0 t285 _ ?side1 ?side2 A2.out).mono ?_); (case side1 => repeat (first | exact (Kd.C_below HR0_0.out HB.out) | (with_reducible refine Kd.C_alloc ?_ _) | (with_reducible refine Kd.C_drewN ?_ _) | (with_reducible refine Kd.C_drew ?_))); (case side2 => exact HC0_0.out); rintro e w14 ⟨v286, rfl, ho0, hb⟩; refine ⟨_, rfl, ?_⟩; have a5 := Z_ (Kd.R_lower ho0 (below_size HB.out)); replace a3 := Z_ (bB_ a3.out hb); replace a2 := Z_ (bB_ a2.out hb); replace a0 := Z_ (bB_ a0.out hb); replace HB := Z_ (lP_ HB.out hb); (try clear hb); (try clear ho0); obtain ⟨ad, ae, eo15⟩ := Kd.R_slice a5.out; subst eo15; have b9 := ax.out; have ba := aa.out; obtain ⟨_, _, _, _, _, _, _, _, _, _, _, _⟩ := bc6 a0.out; obtain ⟨_, _, _, _, _, _, _, _, _, _, _, _⟩ := bc6 a3.out) | ((with_reducible refine gate_callee (f := 19) rfl ?_); refine goesA_ (some 10) rfl rfl Try.func19 (by kernel_rfl) rfl #[.slice A0_1 l0_1.length c0_1] rfl ?_; (with_reducible refine (laws_toGateS.calls k _ _ l0_1 t288 _ ?side1 ?side2 A3.out).mono ?_); (case side1 => exact Kd.C_below HR0_1.out (by repeat (first | (with_reducible first | exact HB.out | refine lS1_ ?_ a6.out | refine lS1_ ?_ a7.out | refine lS1_ ?_ a8.out) | exact HB.out))); (case side2 => exact HC0_1.out); rintro e w19 ⟨v289, rfl, ho0, hb⟩; refine ⟨_, rfl, ?_⟩; replace a5 := Z_ (Kd.R_below (Kd.R_mono (Kd.R_far (p := ⟨a1, 0, none⟩) (Kd.R_types a5.out a0.out (by decide)) (fun _ hk => hk.2) (.slice ad t285.length ae)) (fun _ h_ => h_.1)) hb); have a9 := Z_ (Kd.S_lower ho0 (below_size (by repeat (first | (with_reducible first | exact HB.out | refine lS1_ ?_ a6.out | refine lS1_ ?_ a7.out | refine lS1_ ?_ a8.out) | exact HB.out)))); replace a3 := Z_ (bB_ (g := ak) (o := .cells #[.slice A0_0 l0_0.length c0_0, .slice A0_1 l0_1.length c0_1, .slice A0_2 l0_2.length c0_2, .slice A0_3 l0_3.length c0_3, .slice A0_4 l0_4.length c0_4, .slice A0_5 l0_5.length c0_5] 27 (0, 0)) (by refine bF_ ?_ ac.out _; exact a3.out) hb); replace a2 := Z_ (bB_ (g := a4) (o := .cells #[.slice none 0 0, .slice none 0 0, .slice none 0 0, .slice none 0 0, .slice none 0 0, .slice none 0 0] 34 (0, 0)) (by refine bF_ ?_ aa.out _; exact a2.out) hb); replace a0 := Z_ (bB_ (g := a1) (o := .cells #[.slice ad t285.length ae, .slice none 0 0, .slice none 0 0, .slice none 0 0, .slice none 0 0, .slice none 0 0] 34 (0, 0)) (by refine blk_put (cs := #[.slice none 0 0, .slice none 0 0, .slice none 0 0, .slice none 0 0, .slice none 0 0, .slice none 0 0]) ?_ 0 _ rfl; exact a0.out) hb); replace HB := Z_ (lP_ (by repeat (first | (with_reducible first | exact HB.out | refine lS1_ ?_ a6.out | refine lS1_ ?_ a7.out | refine lS1_ ?_ a8.out) | exact HB.out)) hb); (try clear hb); (try clear ho0); obtain ⟨af, ag, eo20⟩ := Kd.S_slice a9.out; subst eo20; obtain ⟨_, _, _, _, _, _, _, _, _, _, _, _⟩ := bc6 a0.out; obtain ⟨_, _, _, _, _, _, _, _, _, _, _, _⟩ := bc6 a3.out) | ((with_reducible refine gate_callee (f := 20) rfl ?_); refine goesA_ (some 14) rfl rfl Try.func20 (by kernel_rfl) rfl #[.slice A0_2 l0_2.length c0_2] rfl ?_; (with_reducible refine (laws_toInt64S.calls k _ _ l0_2 t291 _ ?side1 ?side2 A4.out).mono ?_); (case side1 => exact Kd.C_below HR0_2.out (by repeat (first | (with_reducible first | exact HB.out | refine lS1_ ?_ a6.out | refine lS1_ ?_ a7.out | refine lS1_ ?_ a8.out) | exact HB.out))); (case side2 => exact HC0_2.out); rintro e w23 ⟨v292, rfl, ho0, hb⟩; refine ⟨_, rfl, ?_⟩; replace a5 := Z_ (Kd.R_below (Kd.R_mono (Kd.R_far (p := ⟨a1, 1, none⟩) (Kd.R_types a5.out a0.out (by decide)) (fun _ hk => hk.2) (.slice af t288.length ag)) (fun _ h_ => h_.1)) hb); replace a9 := Z_ (Kd.S_below (by (with_reducible repeat (first | apply Kd.S_alloc | apply Kd.S_drewN | apply Kd.S_drew)); exact (Kd.S_mono (Kd.S_far (p := ⟨a1, 1, none⟩) (Kd.S_types a9.out a0.out (by decide)) (fun _ hk => hk.2) (.slice af t288.length ag)) (fun _ h_ => h_.1))) hb); have ab := Z_ (Kd.R_lower ho0 (below_size (by repeat (first | (with_reducible first | exact HB.out | refine lS1_ ?_ a6.out | refine lS1_ ?_ a7.out | refine lS1_ ?_ a8.out) | exact HB.out)))); replace a3 := Z_ (bB_ (g := ak) (o := .cells #[.slice A0_0 l0_0.length c0_0, .slice A0_1 l0_1.length c0_1, .slice A0_2 l0_2.length c0_2, .slice A0_3 l0_3.length c0_3, .slice A0_4 l0_4.length c0_4, .slice A0_5 l0_5.length c0_5] 27 (0, 0)) (by refine bF_ ?_ ac.out _; exact a3.out) hb); replace a2 := Z_ (bB_ (g := a4) (o := .cells #[.slice none 0 0, .slice none 0 0, .slice none 0 0, .slice none 0 0, .slice none 0 0, .slice none 0 0] 34 (0, 0)) (by refine bF_ ?_ aa.out _; exact a2.out) hb); replace a0 := Z_ (bB_ (g := a1) (o := .cells #[.slice ad t285.length ae, .slice af t288.length ag, .slice none 0 0, .slice none 0 0, .slice none 0 0, .slice none 0 0] 34 (0, 0)) (by refine blk_put (cs := #[.slice ad t285.length ae, .slice none 0 0, .slice none 0 0, .slice none 0 0, .slice none 0 0, .slice none 0 0]) ?_ 1 _ rfl; exact a0.out) hb); replace HB := Z_ (lP_ (by repeat (first | (with_reducible first | exact HB.out | refine lS1_ ?_ a6.out | refine lS1_ ?_ a7.out | refine lS1_ ?_ a8.out) | exact HB.out)) hb); (try clear hb); (try clear ho0); obtain ⟨ah, ai, eo24⟩ := Kd.R_slice ab.out; subst eo24; obtain ⟨_, _, _, _, _, _, _, _, _, _, _, _⟩ := bc6 a0.out; obtain ⟨_, _, _, _, _, _, _, _, _, _, _, _⟩ := bc6 a3.out) | ((with_reducible refine gate_callee (f := 20) rfl ?_); refine goesA_ (some 18) rfl rfl Try.func20 (by kernel_rfl) rfl #[.slice A0_3 l0_3.length c0_3] rfl ?_; (with_reducible refine (laws_toInt64S.calls k _ _ l0_3 t294 _ ?side1 ?side2 A5.out).mono ?_); (case side1 => exact Kd.C_below HR0_3.out (by repeat (first | (with_reducible first | exact HB.out | refine lS1_ ?_ a6.out | refine lS1_ ?_ a7.out | refine lS1_ ?_ a8.out) | exact HB.out))); (case side2 => exact HC0_3.out); rintro e w27 ⟨v295, rfl, ho0, hb⟩; refine ⟨_, rfl, ?_⟩; replace a5 := Z_ (Kd.R_below (Kd.R_mono (Kd.R_far (p := ⟨a1, 2, none⟩) (Kd.R_types a5.out a0.out (by decide)) (fun _ hk => hk.2) (.slice ah t291.length ai)) (fun _ h_ => h_.1)) hb); replace a9 := Z_ (Kd.S_below (by (with_reducible repeat (first | apply Kd.S_alloc | apply Kd.S_drewN | apply Kd.S_drew)); exact (Kd.S_mono (Kd.S_far (p := ⟨a1, 2, none⟩) (Kd.S_types a9.out a0.out (by decide)) (fun _ hk => hk.2) (.slice ah t291.length ai)) (fun _ h_ => h_.1))) hb); have aj := Z_ (Kd.R_lower (Kd.R_new' ho0 (Kd.R_lt (Kd.R_mono (Kd.R_far (p := ⟨a1, 2, none⟩) (Kd.R_types ab.out a0.out (by decide)) (fun _ hk => hk.2) (.slice ah t291.length ai)) (fun _ h_ => h_.1)))) (below_size (by repeat (first | (with_reducible first | exact HB.out | refine lS1_ ?_ a6.out | refine lS1_ ?_ a7.out | refine lS1_ ?_ a8.out) | exact HB.out)))); replace ab := Z_ (Kd.R_elder' (Kd.R_mono (Kd.R_far (p := ⟨a1, 2, none⟩) (Kd.R_types ab.out a0.out (by decide)) (fun _ hk => hk.2) (.slice ah t291.length ai)) (fun _ h_ => h_.1)) (Kd.R_base ho0) hb); replace a3 := Z_ (bB_ (g := ak) (o := .cells #[.slice A0_0 l0_0.length c0_0, .slice A0_1 l0_1.length c0_1, .slice A0_2 l0_2.length c0_2, .slice A0_3 l0_3.length c0_3, .slice A0_4 l0_4.length c0_4, .slice A0_5 l0_5.length c0_5] 27 (0, 0)) (by refine bF_ ?_ ac.out _; exact a3.out) hb); replace a2 := Z_ (bB_ (g := a4) (o := .cells #[.slice none 0 0, .slice none 0 0, .slice none 0 0, .slice none 0 0, .slice none 0 0, .slice none 0 0] 34 (0, 0)) (by refine bF_ ?_ aa.out _; exact a2.out) hb); replace a0 := Z_ (bB_ (g := a1) (o := .cells #[.slice ad t285.length ae, .slice af t288.length ag, .slice ah t291.length ai, .slice none 0 0, .slice none 0 0, .slice none 0 0] 34 (0, 0)) (by refine blk_put (cs := #[.slice ad t285.length ae, .slice af t288.length ag, .slice none 0 0, .slice none 0 0, .slice none 0 0, .slice none 0 0]) ?_ 2 _ rfl; exact a0.out) hb); replace HB := Z_ (lP_ (by repeat (first | (with_reducible first | exact HB.out | refine lS1_ ?_ a6.out | refine lS1_ ?_ a7.out | refine lS1_ ?_ a8.out) | exact HB.out)) hb); (try clear hb); (try clear ho0); obtain ⟨al, am, eo28⟩ := Kd.R_slice aj.out; subst eo28; obtain ⟨_, _, _, _, _, _, _, _, _, _, _, _⟩ := bc6 a0.out; obtain ⟨_, _, _, _, _, _, _, _, _, _, _, _⟩ := bc6 a3.out) | ((with_reducible refine gate_callee (f := 21) rfl ?_); refine goesA_ (some 22) rfl rfl Try.func21 (by kernel_rfl) rfl #[.slice A0_4 l0_4.length c0_4] rfl ?_; (with_reducible refine (laws_toGivenS.calls k _ _ l0_4 t297 _ ?side1 ?side2 A6.out).mono ?_); (case side1 => exact Kd.C_below HR0_4.out (by repeat (first | (with_reducible first | exact HB.out | refine lS1_ ?_ a6.out | refine lS1_ ?_ a7.out | refine lS1_ ?_ a8.out) | exact HB.out))); (case side2 => exact HC0_4.out); rintro e w31 ⟨v298, rfl, ho0, hb⟩; refine ⟨_, rfl, ?_⟩; replace a5 := Z_ (Kd.R_below (Kd.R_mono (Kd.R_far (p := ⟨a1, 3, none⟩) (Kd.R_types a5.out a0.out (by decide)) (fun _ hk => hk.2) (.slice al t294.length am)) (fun _ h_ => h_.1)) hb); replace a9 := Z_ (Kd.S_below (by (with_reducible repeat (first | apply Kd.S_alloc | apply Kd.S_drewN | apply Kd.S_drew)); exact (Kd.S_mono (Kd.S_far (p := ⟨a1, 3, none⟩) (Kd.S_types a9.out a0.out (by decide)) (fun _ hk => hk.2) (.slice al t294.length am)) (fun _ h_ => h_.1))) hb); replace ab := Z_ (Kd.R_below (Kd.R_mono (Kd.R_far (p := ⟨a1, 3, none⟩) (Kd.R_types ab.out a0.out (by decide)) (fun _ hk => hk.2) (.slice al t294.length am)) (fun _ h_ => h_.1)) hb); replace aj := Z_ (Kd.R_below (Kd.R_mono (Kd.R_far (p := ⟨a1, 3, none⟩) (Kd.R_types aj.out a0.out (by decide)) (fun _ hk => hk.2) (.slice al t294.length am)) (fun _ h_ => h_.1)) hb); have ar := Z_ (Kd.R_lower ho0 (below_size (by repeat (first | (with_reducible first | exact HB.out | refine lS1_ ?_ a6.out | refine lS1_ ?_ a7.out | refine lS1_ ?_ a8.out) | exact HB.out)))); replace a3 := Z_ (bB_ (g := ak) (o := .cells #[.slice A0_0 l0_0.length c0_0, .slice A0_1 l0_1.length c0_1, .slice A0_2 l0_2.length c0_2, .slice A0_3 l0_3.length c0_3, .slice A0_4 l0_4.length c0_4, .slice A0_5 l0_5.length c0_5] 27 (0, 0)) (by refine bF_ ?_ ac.out _; exact a3.out) hb); replace a2 := Z_ (bB_ (g := a4) (o := .cells #[.slice none 0 0, .slice none 0 0, .slice none 0 0, .slice none 0 0, .slice none 0 0, .slice none 0 0] 34 (0, 0)) (by refine bF_ ?_ aa.out _; exact a2.out) hb); replace a0 := Z_ (bB_ (g := a1) (o := .cells #[.slice ad t285.length ae, .slice af t288.length ag, .slice ah t291.length ai, .slice al t294.length am, .slice none 0 0, .slice none 0 0] 34 (0, 0)) (by refine blk_put (cs := #[.slice ad t285.length ae, .slice af t288.length ag, .slice ah t291.length ai, .slice none 0 0, .slice none 0 0, .slice none 0 0]) ?_ 3 _ rfl; exact a0.out) hb); replace HB := Z_ (lP_ (by repeat (first | (with_reducible first | exact HB.out | refine lS1_ ?_ a6.out | refine lS1_ ?_ a7.out | refine lS1_ ?_ a8.out) | exact HB.out)) hb); (try clear hb); (try clear ho0); obtain ⟨an, ao, eo32⟩ := Kd.R_slice ar.out; subst eo32; obtain ⟨_, _, _, _, _, _, _, _, _, _, _, _⟩ := bc6 a0.out; obtain ⟨_, _, _, _, _, _, _, _, _, _, _, _⟩ := bc6 a3.out) | ((with_reducible refine gate_callee (f := 21) rfl ?_); refine goesA_ (some 26) rfl rfl Try.func21 (by kernel_rfl) rfl #[.slice A0_5 l0_5.length c0_5] rfl ?_; (with_reducible refine (laws_toGivenS.calls k _ _ l0_5 t300 _ ?side1 ?side2 A7.out).mono ?_); (case side1 => exact Kd.C_below HR0_5.out (by repeat (first | (with_reducible first | exact HB.out | refine lS1_ ?_ a6.out | refine lS1_ ?_ a7.out | refine lS1_ ?_ a8.out) | exact HB.out))); (case side2 => exact HC0_5.out); rintro e w35 ⟨v301, rfl, ho0, hb⟩; refine ⟨_, rfl, ?_⟩; replace a5 := Z_ (Kd.R_below (Kd.R_mono (Kd.R_far (p := ⟨a1, 4, none⟩) (Kd.R_types a5.out a0.out (by decide)) (fun _ hk => hk.2) (.slice an t297.length ao)) (fun _ h_ => h_.1)) hb); replace a9 := Z_ (Kd.S_below (by (with_reducible repeat (first | apply Kd.S_alloc | apply Kd.S_drewN | apply Kd.S_drew)); exact (Kd.S_mono (Kd.S_far (p := ⟨a1, 4, none⟩) (Kd.S_types a9.out a0.out (by decide)) (fun _ hk => hk.2) (.slice an t297.length ao)) (fun _ h_ => h_.1))) hb); replace ab := Z_ (Kd.R_below (Kd.R_mono (Kd.R_far (p := ⟨a1, 4, none⟩) (Kd.R_types ab.out a0.out (by decide)) (fun _ hk => hk.2) (.slice an t297.length ao)) (fun _ h_ => h_.1)) hb); replace aj := Z_ (Kd.R_below (Kd.R_mono (Kd.R_far (p := ⟨a1, 4, none⟩) (Kd.R_types aj.out a0.out (by decide)) (fun _ hk => hk.2) (.slice an t297.length ao)) (fun _ h_ => h_.1)) hb); have ay := Z_ (Kd.R_lower (Kd.R_new' ho0 (Kd.R_lt (Kd.R_mono (Kd.R_far (p := ⟨a1, 4, none⟩) (Kd.R_types ar.out a0.out (by decide)) (fun _ hk => hk.2) (.slice an t297.length ao)) (fun _ h_ => h_.1)))) (below_size (by repeat (first | (with_reducible first | exact HB.out | refine lS1_ ?_ a6.out | refine lS1_ ?_ a7.out | refine lS1_ ?_ a8.out) | exact HB.out)))); replace ar := Z_ (Kd.R_elder' (Kd.R_mono (Kd.R_far (p := ⟨a1, 4, none⟩) (Kd.R_types ar.out a0.out (by decide)) (fun _ hk => hk.2) (.slice an t297.length ao)) (fun _ h_ => h_.1)) (Kd.R_base ho0) hb); replace a2 := Z_ (bB_ (g := a4) (o := .cells #[.slice none 0 0, .slice none 0 0, .slice none 0 0, .slice none 0 0, .slice none 0 0, .slice none 0 0] 34 (0, 0)) (by refine bF_ ?_ aa.out _; exact a2.out) hb); replace a0 := Z_ (bB_ (g := a1) (o := .cells #[.slice ad t285.length ae, .slice af t288.length ag, .slice ah t291.length ai, .slice al t294.length am, .slice an t297.length ao, .slice none 0 0] 34 (0, 0)) (by refine blk_put (cs := #[.slice ad t285.length ae, .slice af t288.length ag, .slice ah t291.length ai, .slice al t294.length am, .slice none 0 0, .slice none 0 0]) ?_ 4 _ rfl; exact a0.out) hb); replace HB := Z_ (lP_ (by repeat (first | (with_reducible first | exact HB.out | refine lS1_ ?_ a6.out | refine lS1_ ?_ a7.out | refine lS1_ ?_ a8.out) | exact HB.out)) hb); (try clear hb); (try clear ho0); obtain ⟨ap, aq, eo36⟩ := Kd.R_slice ay.out; subst eo36; obtain ⟨_, _, _, _, _, _, _, _, _, _, _, _⟩ := bc6 a0.out; obtain ⟨_, _, _, _, _, _, _, _, _, _, _, _⟩ := bc6 a2.out))
 refine bodyPost_ret (results_cell_row rfl _ _ a4 34 #[.slice ad t285.length ae, .slice af t288.length ag, .slice ah t291.length ai, .slice al t294.length am, .slice an t297.length ao, .slice ap t300.length aq] (0, 0) _ rfl (by (with_reducible repeat first | apply bN_ | apply bD_ | apply bA_); apply fill6; (with_reducible repeat first | apply bN_ | apply bD_ | apply bA_); refine bF_ ?_ aa.out _; (with_reducible repeat first | apply bN_ | apply bD_ | apply bA_); exact a2.out) Try.underlying34 rfl (by kernel_rfl)) rfl ?_
 exact ⟨_, _, _, _, _, _, Er_, by (with_reducible repeat first | apply rA_ | apply rN_ | apply rD_); exact Kd.R_mono (rfar6 (g := a4) (Kd.R_far (p := ⟨a1, 5, none⟩) (Kd.R_types (Kd.R_types a5.out a0.out (by decide)) a2.out (by decide)) (fun _ hk => hk.1.2) (.slice ap t300.length aq)) (fun _ hk => hk.2)) (fun _ hk => trivial), by (with_reducible repeat (first | apply Kd.S_alloc | apply Kd.S_drewN | apply Kd.S_drew)); exact Kd.S_mono (Kd.S_far (p := ⟨a4, 5, none⟩) (Kd.S_far (p := ⟨a4, 4, none⟩) (Kd.S_far (p := ⟨a4, 3, none⟩) (Kd.S_far (p := ⟨a4, 2, none⟩) (Kd.S_far (p := ⟨a4, 1, none⟩) (Kd.S_far (p := ⟨a4, 0, none⟩) (Kd.S_far (p := ⟨a1, 5, none⟩) (Kd.S_types (Kd.S_types a9.out a0.out (by decide)) a2.out (by decide)) (fun _ hk => hk.1.2) (.slice ap t300.length aq)) (fun _ hk => hk.2) (.slice ad t285.length ae)) (fun _ hk => hk.2) (.slice af t288.length ag)) (fun _ hk => hk.2) (.slice ah t291.length ai)) (fun _ hk => hk.2) (.slice al t294.length am)) (fun _ hk => hk.2) (.slice an t297.length ao)) (fun _ hk => hk.2) (.slice ap t300.length aq)) (fun _ hk => trivial), by (with_reducible repeat first | apply rA_ | apply rN_ | apply rD_); exact Kd.R_mono (rfar6 (g := a4) (Kd.R_far (p := ⟨a1, 5, none⟩) (Kd.R_types (Kd.R_types ab.out a0.out (by decide)) a2.out (by decide)) (fun _ hk => hk.1.2) (.slice ap t300.length aq)) (fun _ hk => hk.2)) (fun _ hk => hk.1.1.2), by (with_reducible repeat first | apply rA_ | apply rN_ | apply rD_); exact Kd.R_mono (rfar6 (g := a4) (Kd.R_far (p := ⟨a1, 5, none⟩) (Kd.R_types (Kd.R_types aj.out a0.out (by decide)) a2.out (by decide)) (fun _ hk => hk.1.2) (.slice ap t300.length aq)) (fun _ hk => hk.2)) (fun _ hk => hk.1.1.2), by (with_reducible repeat first | apply rA_ | apply rN_ | apply rD_); exact Kd.R_mono (rfar6 (g := a4) (Kd.R_far (p := ⟨a1, 5, none⟩) (Kd.R_types (Kd.R_types ar.out a0.out (by decide)) a2.out (by decide)) (fun _ hk => hk.1.2) (.slice ap t300.length aq)) (fun _ hk => hk.2)) (fun _ hk => hk.1.1.2), by (with_reducible repeat first | apply rA_ | apply rN_ | apply rD_); exact Kd.R_mono (rfar6 (g := a4) (Kd.R_far (p := ⟨a1, 5, none⟩) (Kd.R_types (Kd.R_types ay.out a0.out (by decide)) a2.out (by decide)) (fun _ hk => hk.1.2) (.slice ap t300.length aq)) (fun _ hk => hk.2)) (fun _ hk => hk.1.1.2), Lb_⟩
def impl_faultOf.l0 : Nat → List Int → Int → Int → Option (Int)
 | 0, _, _, _ => none
 | k + 1, x5, x6, x7 => if x7 < x6 then (if 0 ≤ x7 then (if x7 < (x5.length : Int) then (if (rd x5 x7) = 0 then (impl_faultOf.l0 k x5 x6 (wrap64 (x7 + 1))) else (some (rd x5 x7))) else (none)) else (none)) else (some 0)
def impl_faultOf.f (k : Nat) (l0 : List Int) : Option (Int) := impl_faultOf.l0 k l0 (l0.length : Int) 0
set_option maxHeartbeats 8000000 in
set_option maxRecDepth 100000 in
theorem impl_faultOf.calls (k : Nat) (A0 : Option Addr) (c0 : Nat) (l0 : List Int) (r : Int) (w : World) (hr0 : Kd.C (Kd.int .i64) w A0 l0.length l0) (hc0 : l0.length ≤ c0) (h : impl_faultOf.f k l0 = some r) :
  Calls Try.prog 22 #[.slice A0 l0.length c0] w fun e w' => e = .returned (.int .i64 r) ∧ Drawn0 w w' := by
 have HR0 := Z_ hr0
 have HC0 := Z_ hc0
 clear hr0 hc0
 unfold impl_faultOf.f at h
 have H := h
 clear h
 have H' := Z_ H
 clear H
 go_enter Try.func22, Try.ntmps22
 go_wp2
 go_loopg [7] k (fun kq v7 w' => ∃ (x7_1 : Int), v7 = .int .i64 x7_1 ∧ Aside0 (impl_faultOf.l0 kq l0 (l0.length : Int) x7_1 = some r) ∧ Aside0 (kq ≤ k) ∧ Drawn0 w w')
 case atStart => exact ⟨(0), Sr_, H', ⟨Nat.le_refl _⟩, by repeat (first | exact Drawn0.refl _ | apply Drawn0.step)⟩
 case round =>
  clear H'
  obtain ⟨x7_1, rfl, HA, HK1, ⟨m1, rfl⟩⟩ := hrel
  cases gk with
  | zero => exact absurd HA.out (by simp [impl_faultOf.l0])
  | succ k1 =>
   have H := HA.out
   clear HA
   simp only [impl_faultOf.l0] at H
   replace H := iD_ H
   obtain ⟨c2b0, H⟩ | ⟨c2b0, H⟩ := H
   rotate_left
   ·obtain rfl := Option.some.inj H
    go_wp2
    go_ret
    exact ⟨by first | rfl | (simp; done) | (simp [*]; done), by repeat (first | exact Drawn0.refl _ | apply Drawn0.step)⟩
   rotate_right
   replace H := iM_ H
   obtain ⟨c3b0, H⟩ := H
   replace H := iM_ H
   obtain ⟨c4b0, H⟩ := H
   replace H := iE_ H
   obtain ⟨c5b0, c5b1, H⟩ | ⟨c5b0, c5b1, H⟩ := H
   rotate_left
   ·obtain rfl := Option.some.inj H
    have p303 : 0 ≤ (x7_1 : Int) := dA_
    have q303 : x7_1 < (l0.length : Int) := dA_
    obtain ⟨ad303, e303, hx303_0⟩ := Kd.at_int HR0.out x7_1 p303 q303
    cases e303
    replace p303 := eq_true p303
    replace q303 := eq_true q303
    go_wp2
    go_ret
    exact ⟨by first | rfl | (simp; done) | (simp [*]; done), by repeat (first | exact Drawn0.refl _ | apply Drawn0.step)⟩
   rotate_right
   have H' := Z_ H
   clear H
   have p303 : 0 ≤ (x7_1 : Int) := dA_
   have q303 : x7_1 < (l0.length : Int) := dA_
   obtain ⟨ad303, e303, hx303_0⟩ := Kd.at_int HR0.out x7_1 p303 q303
   cases e303
   replace p303 := eq_true p303
   replace q303 := eq_true q303
   go_wp2
   go_roundg k1
   case measure => have := HK1.out; omega
   case rel => exact ⟨(wrap64 (x7_1 + 1)), Sr_, H', ⟨by have := HK1.out; omega⟩, by repeat (first | exact Drawn0.refl _ | apply Drawn0.step)⟩
def impl_in.f (a0 a1 a2 : Int) : Option (Bool) := if a0 ≥ a1 then (some (decide (a0 ≤ a2))) else (some false)
set_option maxHeartbeats 8000000 in
set_option maxRecDepth 100000 in
theorem impl_in.calls (a0 a1 a2 : Int) (r : Bool) (w : World) (h : impl_in.f a0 a1 a2 = some r) :
  Calls Try.prog 31 #[.int .i64 a0, .int .i64 a1, .int .i64 a2] w fun e w' => e = .returned (.bool r) ∧ Drawn0 w w' := by
 unfold impl_in.f at h
 have H := h
 clear h
 replace H := iD_ H
 obtain ⟨c4b0, H⟩ | ⟨c4b0, H⟩ := H
 rotate_left
 focus replace c4b0 : decide (a1 ≤ a0) = false := c4b0
 rotate_right
 replace c4b0 : decide (a1 ≤ a0) = true := c4b0
 all_goals
  obtain rfl := Option.some.inj H
  go_enter Try.func31, Try.ntmps31
  go_wp2
  go_ret
  exact ⟨by first | rfl | (simp; done) | (simp [*]; done), by repeat (first | exact Drawn0.refl _ | apply Drawn0.step)⟩
def impl_namesOf.j0 : Nat → Int → Bool → Option (Bool × Bool × Bool)
 | 0, _, _ => none
 | k + 1, x3, x4 => if x4 = true then (some (false, false, true)) else (if x3 = 6 then (some (true, false, false)) else (some (true, true, false)))
def impl_namesOf.f (k : Nat) (a0 : Int) : Option (Bool × Bool × Bool) := if a0 = 1 then (impl_namesOf.j0 k a0 (a0 == 1)) else (impl_namesOf.j0 k a0 (a0 == 2))
set_option maxHeartbeats 8000000 in
set_option maxRecDepth 100000 in
theorem impl_namesOf.calls (k : Nat) (a0 : Int) (r1 r2 r3 : Bool) (w : World) (h : impl_namesOf.f k a0 = some (r1, r2, r3)) :
  Calls Try.prog 62 #[.int .i64 a0] w fun e w' => e = .returned (.agg #[.bool r1, .bool r2, .bool r3]) ∧ Below w.heap.size w w' := by
 have hu108 := Try.underlying108
 have HB := Z_ (Below.refl w.heap.size w)
 unfold impl_namesOf.f at h
 have H := h
 clear h
 have a4 := Z_ H
 clear H
 go_enter Try.func62, Try.ntmps62
 go_upto_if 4 with (first | ((with_reducible refine gate_dst (N := 2) rfl ?_); refine box_event ?hg (N := 2) ?hd (cs := #[.bool false, .bool false, .bool false]) (t := 108) ?hr ?_; (case hd => rfl); (case hg => rfl); (case hr => first | (go_simp; done) | (go_simp; rfl)); intro a2 hg w3 hbox hb; have n0_ := Z_ (lP_ Lb_ hb); have n1_ := Z_ hbox; have n2_ := Z_ ((by rw [hg]; exact (below_size Lb_) : w.heap.size ≤ a2)); have n3_ := Z_ ((by rw [hg]; exact (below_size Lb_) : w.heap.size ≤ a2)); clear HB; have HB := n0_; have a1 := n1_; have a5 := n2_; have a3 := n3_; clear n0_ n1_ n2_ n3_ hb hbox hg))
 (try simp only [Act.put, lA_, lZ_, lS_])
 go_cut [4] (fun v4 wc => ∃ (kq : Nat) (x4_1 : Bool), v4 = .bool x4_1 ∧ Aside0 (impl_namesOf.j0 kq a0 x4_1 = some (r1, r2, r3)) ∧ Aside0 (kq ≤ k) ∧ Aside0 (wc.heap[a2]? = some (.cells #[.bool false, .bool false, .bool false] 108 (0, 0))) ∧ Aside0 (Below w.heap.size w wc))
 case first =>
  have H := a4.out
  clear a4
  replace H := iE_ H
  obtain ⟨c4b0, c4b1, H⟩ | ⟨c4b0, c4b1, H⟩ := H
  all_goals
   (first | rw [c4b0] | (simp only [i64_w, i32_w]; rw [c4b0]) | skip)
   have H' := Z_ H
   clear H
   go_wp2
   go_meet
   case rel => exact ⟨_, _, Sr_, H', Ol_, ⟨Bk_ a1⟩, ⟨Lb_⟩⟩
 case rest =>
  clear a4
  try clear p2
  try clear c4
  try clear c4b0
  try clear c4b1
  obtain ⟨kq, x4_1, rfl, HA, HJ1, a1, HB⟩ := hcut
  cases kq with
  | zero => exact absurd HA.out (by simp [impl_namesOf.j0])
  | succ kj1 =>
   have H := HA.out
   clear HA
   simp only [impl_namesOf.j0] at H
   replace H := iB_ H
   obtain ⟨rfl, H⟩ | ⟨rfl, H⟩ := H
   ·simp only [Option.some.injEq, Prod.mk.injEq] at H
    obtain ⟨rfl, rfl, rfl⟩ := H
    obtain ⟨_, _, _, _, _, _⟩ := bc3 a1.out
    go_wp2
    refine bodyPost_ret (results_cell_row rfl _ _ a2 108 #[.bool false, .bool false, .bool true] (0, 0) _ rfl (by (with_reducible repeat first | apply bN_ | apply bD_ | apply bA_); apply fill3; (with_reducible repeat first | apply bN_ | apply bD_ | apply bA_); exact a1.out) Try.underlying108 rfl (by kernel_rfl)) rfl ?_
    exact ⟨Er_, Lb_⟩
   replace H := iE_ H
   obtain ⟨c7b0, c7b1, H⟩ | ⟨c7b0, c7b1, H⟩ := H
   rotate_left
   ·simp only [Option.some.injEq, Prod.mk.injEq] at H
    obtain ⟨rfl, rfl, rfl⟩ := H
    obtain ⟨_, _, _, _, _, _⟩ := bc3 a1.out
    go_wp2
    refine bodyPost_ret (results_cell_row rfl _ _ a2 108 #[.bool true, .bool true, .bool false] (0, 0) _ rfl (by (with_reducible repeat first | apply bN_ | apply bD_ | apply bA_); apply fill3; (with_reducible repeat first | apply bN_ | apply bD_ | apply bA_); exact a1.out) Try.underlying108 rfl (by kernel_rfl)) rfl ?_
    exact ⟨Er_, Lb_⟩
   rotate_right
   simp only [Option.some.injEq, Prod.mk.injEq] at H
   obtain ⟨rfl, rfl, rfl⟩ := H
   obtain ⟨_, _, _, _, _, _⟩ := bc3 a1.out
   go_wp2
   refine bodyPost_ret (results_cell_row rfl _ _ a2 108 #[.bool true, .bool false, .bool false] (0, 0) _ rfl (by (with_reducible repeat first | apply bN_ | apply bD_ | apply bA_); apply fill3; (with_reducible repeat first | apply bN_ | apply bD_ | apply bA_); exact a1.out) Try.underlying108 rfl (by kernel_rfl)) rfl ?_
   exact ⟨Er_, Lb_⟩
set_option maxHeartbeats 4000000 in
set_option maxRecDepth 100000 in
theorem slices_IndexFunc_int64_int64.calls (g : Nat) (lb : Array Value) (p : Int → Bool) (A0 : Option Addr) (c0 : Nat) (l0 : List Int) (w : World) (eg : ∀ args w, (callFunc g args).run Try.prog w = .ok (.enter g args) w)
    (hp : ∀ (W : World) (x : Int), x ∈ l0 → Below w.heap.size w W → Calls Try.prog g (#[.int .i64 x] ++ lb) W fun e w' => e = .returned (.bool (p x)) ∧ Below w.heap.size w w')
    (hr0 : Kd.C (Kd.int .i64) w A0 l0.length l0) (hl : l0.length ≤ 9223372036854775807) :
    Calls Try.prog 71 #[.slice A0 l0.length c0, .func (.func g) #[] lb] w fun e w' => ∃ v : Int, e = .returned (.int .i64 v) ∧ Aside0 (decide (0 ≤ v) = l0.any p) ∧ Below w.heap.size w w' := by
 have HR := Z_ hr0
 clear hr0
 go_enter Try.func71, Try.ntmps71
 go_wp2
 go_loopg [5, 8] l0.length (fun gg _ s8 wr => ∃ kk : Nat, kk ≤ l0.length ∧ l0.length - kk ≤ gg ∧ s8 = .int .i64 kk ∧ Aside0 (Below w.heap.size w wr) ∧ Aside0 (∀ j : Nat, j < kk → p (rd l0 j) = false))
 case atStart => exact ⟨0, Nat.zero_le _, by omega, rfl, Z_ (Below.refl _ w), Z_ (fun j hj => absurd hj (Nat.not_lt_zero _))⟩
 case round =>
  obtain ⟨kk, hkk, hg, rfl, BW, HA⟩ := hrel
  by_cases hlt : kk < l0.length
  ·have hltz : (kk : Int) < (l0.length : Int) := by omega
   obtain ⟨ad, e, hx⟩ := Kd.at_int (Kd.C_below HR.out BW.out) (kk : Int) (by omega) (by omega)
   rw [Int.toNat_natCast] at hx
   subst e
   have hm : rd l0 (kk : Int) ∈ l0 := by
     have : rd l0 (kk : Int) = l0[kk] := by simp [rd, List.getD, List.getElem?_eq_getElem hlt]
     rw [this]; exact List.getElem_mem hlt
   have HM := Z_ hm
   have hcall := hp wr (rd l0 (kk : Int)) hm BW.out
   clear hp hm
   generalize hy : rd l0 (kk : Int) = y at hx hcall
   have HY := Z_ hy
   clear hy
   cases hq : p y with
   | true =>
    rw [hq] at hcall
    go_wp2_with (go_at_fn g; refine hcall.mono ?_; rintro e w' ⟨rfl, hb'⟩)
    go_ret
    refine ⟨_, rfl, Z_ ?_, hb'⟩
    rw [decide_eq_true (show (0 : Int) ≤ (kk : Int) by omega)]
    symm
    exact List.any_eq_true.2 ⟨_, HM.out, by rw [HY.out]; exact hq⟩
   | false =>
    rw [hq] at hcall
    go_wp2_with (go_at_fn g; refine hcall.mono ?_; rintro e w' ⟨rfl, hb'⟩)
    go_roundg (l0.length - (kk + 1))
    case measure => omega
    case rel =>
     refine ⟨kk + 1, by omega, by omega, by go_num, Z_ hb', Z_ (fun j hj => ?_)⟩
     by_cases e : j = kk
     ·subst e
      rw [HY.out]; exact hq
     ·exact HA.out j (by omega)
  ·have hltz : ¬ (kk : Int) < (l0.length : Int) := by omega
   obtain rfl : kk = l0.length := by omega
   go_wp2
   go_ret
   refine ⟨_, rfl, Z_ ?_, BW.out⟩
   rw [decide_eq_false (show ¬ (0 : Int) ≤ -1 by omega)]
   symm
   rw [List.any_eq_false]
   intro x hx
   obtain ⟨j, hj, rfl⟩ := List.getElem_of_mem hx
   have := HA.out j hj
   have e : rd l0 (j : Int) = l0[j] := by simp [rd, List.getD, List.getElem?_eq_getElem hj]
   rw [e] at this
   simp [this]
set_option maxHeartbeats 4000000 in
set_option maxRecDepth 100000 in
theorem slices_ContainsFunc_int64_int64.calls (g : Nat) (lb : Array Value) (p : Int → Bool) (A0 : Option Addr) (c0 : Nat) (l0 : List Int) (w : World) (eg : ∀ args w, (callFunc g args).run Try.prog w = .ok (.enter g args) w)
    (hp : ∀ (W : World) (x : Int), x ∈ l0 → Below w.heap.size w W → Calls Try.prog g (#[.int .i64 x] ++ lb) W fun e w' => e = .returned (.bool (p x)) ∧ Below w.heap.size w w')
    (hr0 : Kd.C (Kd.int .i64) w A0 l0.length l0) (hl : l0.length ≤ 9223372036854775807) :
    Calls Try.prog 63 #[.slice A0 l0.length c0, .func (.func g) #[] lb] w fun e w' => e = .returned (.bool (l0.any p)) ∧ Below w.heap.size w w' := by
 have hC := slices_IndexFunc_int64_int64.calls g lb p A0 c0 l0 w eg hp hr0 hl
 clear hp hr0
 go_enter Try.func63, Try.ntmps63
 go_wp2_with (go_at_call 71; refine hC.mono ?_; rintro e w' ⟨v, rfl, hv, hb⟩)
 go_ret
 exact ⟨congrArg (fun b => Ending.returned (Value.bool b)) hv.out, hb⟩
def impl_Term_parts.f (k : Nat) (a0_0 a0_1 a0_2 a0_3 : Int) : Option (List Int) := (impl_namesOf.f k a0_0).bind fun bt306 => (if bt306.2.2 = true then (some ([] : List Int)) else (if bt306.2.1 = true then (some (([a0_1, a0_2] : List Int))) else (some (([a0_1] : List Int)))))
set_option maxHeartbeats 8000000 in
set_option maxRecDepth 100000 in
theorem impl_Term_parts.calls (k : Nat) (a0_0 a0_1 a0_2 a0_3 : Int) (r : List Int) (w : World) (h : impl_Term_parts.f k a0_0 a0_1 a0_2 a0_3 = some r) :
  Calls Try.prog 64 #[.agg #[.int .i64 a0_0, .int .i64 a0_1, .int .i64 a0_2, .int .i64 a0_3]] w fun e w' => ∃ v0_ : Value, e = .returned (v0_) ∧ Kd.R (Kd.int .i64) 2 w' w.heap.size (fun _ => True) v0_ r ∧ Below w.heap.size w w' := by
 have hu76 := Try.underlying76
 have hu108 := Try.underlying108
 have HB := Z_ (Below.refl w.heap.size w)
 unfold impl_Term_parts.f at h
 have H := h
 clear h
 replace H := bS_ H
 obtain ⟨⟨t306, t307, t308⟩, A2, H⟩ := H
 try dsimp only at H
 replace H := iB_ H
 obtain ⟨rfl, H⟩ | ⟨rfl, H⟩ := H
 ·obtain rfl := Option.some.inj H
  go_enter Try.func64, Try.ntmps64
  go_wp2_with (first | ((with_reducible refine gD_ 1 rfl ?_); refine bx_ #[.int .i64 a0_0, .int .i64 a0_1, .int .i64 a0_2, .int .i64 a0_3] 76 ?_; intro a4 hg w4 hbox hb; have a0 := Z_ hbox; have a1 := Z_ ((by rw [hg]; exact (below_size HB.out) : w.heap.size ≤ a4)); replace HB := Z_ (lP_ HB.out hb); clear hb hbox hg; obtain ⟨_, _, _, _, _, _, _, _⟩ := bc4 a0.out) | ((with_reducible refine gate_callee (f := 62) rfl ?_); refine goesA_ (some 6) rfl rfl Try.func62 (by kernel_rfl) rfl #[.int .i64 a0_0] rfl ?_; (with_reducible refine (impl_namesOf.calls k a0_0 t306 t307 true _ A2.out).mono ?_); rintro e w6 ⟨rfl, hb⟩; refine ⟨_, rfl, ?_⟩; replace a0 := Z_ (bB_ a0.out hb); replace HB := Z_ (lP_ HB.out hb); (try clear hb)) | ((with_reducible refine gD_ 3 rfl ?_); refine bx_ #[.bool false, .bool false, .bool false] 108 ?_; intro a6 hg w7 hbox hb; have a7 := Z_ hbox; have a5 := Z_ ((by rw [hg]; exact (below_size (by repeat (first | (with_reducible first | exact HB.out | refine lS1_ ?_ a1.out) | exact HB.out))) : w.heap.size ≤ a6)); replace HB := Z_ (lP_ (by repeat (first | (with_reducible first | exact HB.out | refine lS1_ ?_ a1.out) | exact HB.out)) hb); have a2 := Z_ ((by rw [hg]; exact Nat.ne_of_lt (blk_lt (g := a4) (o := .cells #[.int .i64 a0_0, .int .i64 a0_1, .int .i64 a0_2, .int .i64 a0_3] 76 (0, 0)) a0.out) : a4 ≠ a6)); have a3 := Z_ a2.out.symm; clear hb hbox hg; have ah := a3.out; have ai := a2.out; obtain ⟨_, _, _, _, _, _⟩ := bc3 a7.out))
  go_ret
  exact ⟨_, Er_, by first | exact Kd.R_nil _ _ _ _ _ | exact Kd.N_nil _ _ _ _ _ | exact Kd.V_nil _ _ _ _ _ | exact Kd.Q_nil _ _ _ _ _ | exact Kd.S_nil _ _ _ _ _, Lb_⟩
 replace H := iB_ H
 obtain ⟨rfl, H⟩ | ⟨rfl, H⟩ := H
 rotate_left
 ·obtain ⟨y313, hy313⟩ : ∃ y_ : List Int, y_ = (([a0_1] : List Int)) := ⟨_, rfl⟩
  replace H : (some y313) = some r := by first | (rw [hy313]; with_reducible exact H) | (have H2_ := (Option.bind_some _ _).symm.trans H; rw [hy313]; with_reducible exact H2_) | (have H2_ := (Option.bind_some _ _).symm.trans H; with_reducible exact H2_) | with_reducible exact H | (rw [hy313]; exact H) | exact H
  have a9 := Z_ hy313
  clear hy313
  obtain rfl := Option.some.inj H
  go_enter Try.func64, Try.ntmps64
  go_wp2_with (first | ((with_reducible refine gD_ 1 rfl ?_); refine bx_ #[.int .i64 a0_0, .int .i64 a0_1, .int .i64 a0_2, .int .i64 a0_3] 76 ?_; intro a4 hg w20 hbox hb; have a0 := Z_ hbox; have a1 := Z_ ((by rw [hg]; exact (below_size Lb_) : w.heap.size ≤ a4)); replace HB := Z_ (lP_ Lb_ hb); clear hb hbox hg; obtain ⟨_, _, _, _, _, _, _, _⟩ := bc4 a0.out) | ((with_reducible refine gate_callee (f := 62) rfl ?_); refine goesA_ (some 6) rfl rfl Try.func62 (by kernel_rfl) rfl #[.int .i64 a0_0] rfl ?_; (with_reducible refine (impl_namesOf.calls k a0_0 t306 false false _ A2.out).mono ?_); rintro e w22 ⟨rfl, hb⟩; refine ⟨_, rfl, ?_⟩; replace a0 := Z_ (bB_ a0.out hb); replace HB := Z_ (lP_ HB.out hb); (try clear hb)) | ((with_reducible refine gD_ 3 rfl ?_); refine bx_ #[.bool false, .bool false, .bool false] 108 ?_; intro a6 hg w23 hbox hb; have a7 := Z_ hbox; have a5 := Z_ ((by rw [hg]; exact (below_size HB.out) : w.heap.size ≤ a6)); replace HB := Z_ (lP_ HB.out hb); have a2 := Z_ ((by rw [hg]; exact Nat.ne_of_lt (blk_lt a0.out) : a4 ≠ a6)); replace a0 := Z_ (bB_ a0.out hb); have a3 := Z_ a2.out.symm; clear hb hbox hg; have af := a3.out; have ag := a2.out; obtain ⟨_, _, _, _, _, _⟩ := bc3 a7.out; obtain ⟨_, _, _, _, _, _, _, _⟩ := bc4 a0.out) | ((with_reducible refine gD_ 16 rfl ?_); refine Kd.R_lit (Kd.int .i64) _ 2 ?hg (N := 16) ?hd (xs := ([a0_1] : List Int)) (inner := [.int .i64 a0_1]) (ok := fun _ => True) (okp := fun _ => True) ?hr ?hp (fun _ hk => hk) trivial (Below.refl _ _) (Nat.le_refl _) (by simp) ?_; (case hd => rfl); (case hg => rfl); (case hr => first | (go_simp; done) | (go_simp; rfl)); (case hp => exact (Reps.one (show Kd.M (Kd.int .i64) _ _ _ a0_1 [.int .i64 a0_1] from rfl) (Reps.none _ _))); intro v314 w27 ho28 hb hg_ hnew_; clear hg_ hnew_; (first | rw [← a9.out] at ho28 | (simp only [Int.reduceToNat] at ho28; rw [← a9.out] at ho28)); have ab := Z_ (Kd.R_lower ho28 (below_size (by repeat (first | (with_reducible first | exact HB.out | refine lS1_ ?_ a1.out | refine lS1_ ?_ a5.out) | exact HB.out)))); replace HB := Z_ (lP_ (by repeat (first | (with_reducible first | exact HB.out | refine lS1_ ?_ a1.out | refine lS1_ ?_ a5.out) | exact HB.out)) hb); clear hb ho28))
  go_ret
  exact ⟨_, Er_, by (with_reducible repeat first | apply rA_ | apply rN_ | apply rD_); exact ab.out, Lb_⟩
 rotate_right
 obtain ⟨y310, hy310⟩ : ∃ y_ : List Int, y_ = (([a0_1, a0_2] : List Int)) := ⟨_, rfl⟩
 replace H : (some y310) = some r := by first | (rw [hy310]; with_reducible exact H) | (have H2_ := (Option.bind_some _ _).symm.trans H; rw [hy310]; with_reducible exact H2_) | (have H2_ := (Option.bind_some _ _).symm.trans H; with_reducible exact H2_) | with_reducible exact H | (rw [hy310]; exact H) | exact H
 have a8 := Z_ hy310
 clear hy310
 obtain rfl := Option.some.inj H
 go_enter Try.func64, Try.ntmps64
 go_wp2_with (first | ((with_reducible refine gD_ 1 rfl ?_); refine bx_ #[.int .i64 a0_0, .int .i64 a0_1, .int .i64 a0_2, .int .i64 a0_3] 76 ?_; intro a4 hg w11 hbox hb; have a0 := Z_ hbox; have a1 := Z_ ((by rw [hg]; exact (below_size Lb_) : w.heap.size ≤ a4)); replace HB := Z_ (lP_ Lb_ hb); clear hb hbox hg; obtain ⟨_, _, _, _, _, _, _, _⟩ := bc4 a0.out) | ((with_reducible refine gate_callee (f := 62) rfl ?_); refine goesA_ (some 6) rfl rfl Try.func62 (by kernel_rfl) rfl #[.int .i64 a0_0] rfl ?_; (with_reducible refine (impl_namesOf.calls k a0_0 t306 true false _ A2.out).mono ?_); rintro e w13 ⟨rfl, hb⟩; refine ⟨_, rfl, ?_⟩; replace a0 := Z_ (bB_ a0.out hb); replace HB := Z_ (lP_ HB.out hb); (try clear hb)) | ((with_reducible refine gD_ 3 rfl ?_); refine bx_ #[.bool false, .bool false, .bool false] 108 ?_; intro a6 hg w14 hbox hb; have a7 := Z_ hbox; have a5 := Z_ ((by rw [hg]; exact (below_size HB.out) : w.heap.size ≤ a6)); replace HB := Z_ (lP_ HB.out hb); have a2 := Z_ ((by rw [hg]; exact Nat.ne_of_lt (blk_lt a0.out) : a4 ≠ a6)); replace a0 := Z_ (bB_ a0.out hb); have a3 := Z_ a2.out.symm; clear hb hbox hg; have ad := a3.out; have ae := a2.out; obtain ⟨_, _, _, _, _, _⟩ := bc3 a7.out; obtain ⟨_, _, _, _, _, _, _, _⟩ := bc4 a0.out) | ((with_reducible refine gD_ 21 rfl ?_); refine Kd.R_lit (Kd.int .i64) _ 2 ?hg (N := 21) ?hd (xs := ([a0_1, a0_2] : List Int)) (inner := [.int .i64 a0_1, .int .i64 a0_2]) (ok := fun _ => True) (okp := fun _ => True) ?hr ?hp (fun _ hk => hk) trivial (Below.refl _ _) (Nat.le_refl _) (by simp) ?_; (case hd => rfl); (case hg => rfl); (case hr => first | (go_simp; done) | (go_simp; rfl)); (case hp => exact (Reps.one (show Kd.M (Kd.int .i64) _ _ _ a0_1 [.int .i64 a0_1] from rfl) (Reps.one (show Kd.M (Kd.int .i64) _ _ _ a0_2 [.int .i64 a0_2] from rfl) (Reps.none _ _)))); intro v311 w18 ho19 hb hg_ hnew_; clear hg_ hnew_; (first | rw [← a8.out] at ho19 | (simp only [Int.reduceToNat] at ho19; rw [← a8.out] at ho19)); have aa := Z_ (Kd.R_lower ho19 (below_size (by repeat (first | (with_reducible first | exact HB.out | refine lS1_ ?_ a1.out | refine lS1_ ?_ a5.out) | exact HB.out)))); replace HB := Z_ (lP_ (by repeat (first | (with_reducible first | exact HB.out | refine lS1_ ?_ a1.out | refine lS1_ ?_ a5.out) | exact HB.out)) hb); clear hb ho19))
 go_ret
 exact ⟨_, Er_, by (with_reducible repeat first | apply rA_ | apply rN_ | apply rD_); exact aa.out, Lb_⟩
theorem impl_in_eq (a b c : Int) : impl_in.f a b c = some (decide (b ≤ a ∧ a ≤ c)) := by
  unfold impl_in.f; split
  · congr 1; simp; omega
  · congr 1; simp; omega
set_option maxHeartbeats 4000000 in
set_option maxRecDepth 100000 in
theorem impl_isPlace.callsF (A0 : Option Addr) (n c0 : Nat) (x : Int) (hn : n ≤ 9223372036854775807) (w : World) :
    Calls Try.prog 32 #[.slice A0 n c0, .int .i64 x] w fun e w' => e = .returned (.bool (decide (0 ≤ x ∧ x ≤ (n : Int) - 1))) ∧ Below w.heap.size w w' := by
  have HI := Z_ (impl_in_eq x 0 ((n : Int) - 1))
  obtain ⟨r, hr⟩ : ∃ r, r = decide (0 ≤ x ∧ x ≤ (n : Int) - 1) := ⟨_, rfl⟩
  rw [← hr] at HI ⊢
  clear hr
  have e1 : wrap64 ((n : Int) - 1) = (n : Int) - 1 := by unfold wrap64; omega
  go_enter Try.func32, Try.ntmps32
  go_wp2_with (go_at_call 31; refine (impl_in.calls _ _ _ _ _ HI.out).mono ?_; rintro e w' ⟨rfl, ⟨nd, rfl⟩⟩)
  go_ret
  exact ⟨rfl, lN_ (Below.refl _ _) _⟩
set_option maxHeartbeats 4000000 in
set_option maxRecDepth 100000 in
theorem impl_fault_1.calls (A0 : Option Addr) (n c0 B : Nat) (x : Int) (hn : n ≤ 9223372036854775807) (W : World) (hc : W.cell? ⟨B, 0, none⟩ = some (.slice A0 n c0)) :
    Calls Try.prog 65 (#[.int .i64 x] ++ #[.pointer (some ⟨B, 0, none⟩)]) W fun e w' => e = .returned (.bool (!decide (0 ≤ x ∧ x ≤ (n : Int) - 1))) ∧ Below W.heap.size W w' := by
 have hC := fun W' => impl_isPlace.callsF A0 n c0 x hn W'
 generalize decide (0 ≤ x ∧ x ≤ (n : Int) - 1) = r at hC ⊢
 go_enter Try.func65, Try.ntmps65
 go_wp2_with (go_at_call 32; refine (hC _).mono ?_; rintro e w' ⟨rfl, hb⟩)
 go_ret
 exact ⟨rfl, hb⟩
set_option maxHeartbeats 4000000 in
set_option maxRecDepth 100000 in
theorem impl_fault_2.calls (A0 : Option Addr) (l : List (S76)) (c0 B : Nat) (x : Int) (W : World) (hc : W.cell? ⟨B, 0, none⟩ = some (.slice A0 l.length c0)) (hr : Kd.C k76 W A0 l.length l) (h0 : 0 ≤ x) (h1 : x < (l.length : Int)) :
    Calls Try.prog 66 (#[.int .i64 x] ++ #[.pointer (some ⟨B, 0, none⟩)]) W fun e w' => e = .returned (.bool ((rd_T76 l x).f0 != 2)) ∧ Below W.heap.size W w' := by
 obtain ⟨ad, e, hx0, _⟩ := at_T76 hr x h0 h1
 clear hr
 subst e
 generalize (rd_T76 l x).f0 = y at hx0 ⊢
 obtain ⟨i, rfl⟩ := Int.eq_ofNat_of_zero_le h0
 rw [Int.toNat_natCast] at hx0
 have hlt : i < l.length := by omega
 go_enter Try.func66, Try.ntmps66
 go_wp2
 go_ret
 exact ⟨rfl, Below.refl _ _⟩
def notIn (l : List S76) (x : Int) : Bool := !decide (0 ≤ x ∧ x ≤ (l.length : Int) - 1)
def notFresh (l : List S76) (x : Int) : Bool := (rd_T76 l x).f0 != 2
def tfault (a0 a1 a2 a3 : Int) (l : List S76) : Int :=
  if 1 ≤ a0 ∧ a0 ≤ 7 then
    (if a0 = 1 ∨ a0 = 2 then (if a1 = 0 ∧ a2 = 0 then (if 0 ≤ a3 ∧ a3 ≤ 9999 then 0 else 3) else 1)
    else if a0 = 6 then (if a2 = 0 ∧ a3 = 0 then (if ([a1] : List Int).any (notIn l) = true then 3 else (if ([a1] : List Int).any (notFresh l) = true then 1 else 0)) else 1)
    else (if a3 = 0 then (if ([a1, a2] : List Int).any (notIn l) = true then 3 else (if a0 = 7 then (if ([a1, a2] : List Int).any (notFresh l) = true ∨ a1 > a2 then 1 else 0) else 0)) else 1))
  else 5
def impl_Term_fault.f (a0_0 a0_1 a0_2 a0_3 : Int) (l1 : List S76) : Option Int := some (tfault a0_0 a0_1 a0_2 a0_3 l1)
theorem gF_ {P : Program} {f : FuncId} {x : Value} {a b : Array Value} {w : World} {Q : Ending → World → Prop} (g : Fn) (h : Calls P f #[x, .func g a b] w Q) : Calls P f #[x, .func g a b] w Q := h
theorem tc4_ {w : World} {g : Nat} {t : TypeId} {c0 c1 c2 c3 : Value} (h : w.heap[g]? = some (.cells #[c0, c1, c2, c3] t (0, 0))) : w.cell? ⟨g, 0, none⟩ = some c0 ∧ w.cell? ⟨g, 1, none⟩ = some c1 ∧ w.cell? ⟨g, 2, none⟩ = some c2 ∧ w.cell? ⟨g, 3, none⟩ = some c3 := ⟨(blk_cell h 0).trans rfl, (blk_cell h 1).trans rfl, (blk_cell h 2).trans rfl, (blk_cell h 3).trans rfl⟩
theorem fault_in (l1 : List S76) (ps : List Int) (hp : ps.any (notIn l1) = false) : ∀ x ∈ ps, 0 ≤ x ∧ x < (l1.length : Int) := by
  intro x hx
  have := List.any_eq_false.1 hp x hx
  simp [notIn] at this
  omega
theorem eqT_ {a b : Int} (h : a = b) : (a == b) = true ∧ (a != b) = false ∧ decide (a = b) = true := by simp [h]
theorem eqF_ {a b : Int} (h : ¬ a = b) : (a == b) = false ∧ (a != b) = true ∧ decide (a = b) = false := by simp [h]
set_option maxHeartbeats 8000000 in
set_option maxRecDepth 100000 in
theorem impl_Term_fault.calls (a0_0 a0_1 a0_2 a0_3 : Int) (A1 : Option Addr) (c1 : Nat) (l1 : List S76) (r : Int) (w : World) (hr1 : Kd.C k76 w A1 l1.length l1) (hc1 : l1.length ≤ c1) (h : impl_Term_fault.f a0_0 a0_1 a0_2 a0_3 l1 = some r) :
    Calls Try.prog 46 #[.agg #[.int .i64 a0_0, .int .i64 a0_1, .int .i64 a0_2, .int .i64 a0_3], .slice A1 l1.length c1] w fun e w' => e = .returned (.int .i64 r) ∧ Below w.heap.size w w' := by
 have hmf : ∀ (fn : Fn) (first cap : Array Value) (w : World), (Instr.makeFunc fn first cap).run Try.prog w = .ok (.func fn first cap) w := fun _ _ _ _ => rfl
 have HB := Z_ (Below.refl w.heap.size w)
 have HR := Z_ hr1
 have HL := Z_ hr1.2.1
 clear hr1 hc1
 replace h : tfault a0_0 a0_1 a0_2 a0_3 l1 = r := Option.some.inj h
 unfold tfault at h
 refine if hop : 1 ≤ a0_0 ∧ a0_0 ≤ 7 then (if hn : a0_0 = 1 ∨ a0_0 = 2 then (if ha : a0_1 = 0 then (if hb : a0_2 = 0 then (if hr : 0 ≤ a0_3 ∧ a0_3 ≤ 9999 then ?_ else ?_) else ?_) else ?_) else if k6 : a0_0 = 6 then (if hb : a0_2 = 0 then (if h3 : a0_3 = 0 then (if hp : ([a0_1] : List Int).any (notIn l1) = true then ?_ else if hq : ([a0_1] : List Int).any (notFresh l1) = true then ?_ else ?_) else ?_) else ?_) else if h3 : a0_3 = 0 then (if hp : ([a0_1, a0_2] : List Int).any (notIn l1) = true then ?_ else if k7 : a0_0 = 7 then (if hq : ([a0_1, a0_2] : List Int).any (notFresh l1) = true then ?_ else if hg : a0_1 > a0_2 then ?_ else ?_) else ?_) else ?_) else ?_
 obtain rfl : 0 = r := by rw [if_pos hop, if_pos hn, if_pos ⟨ha, hb⟩, if_pos hr] at h; exact h
 clear h
 have HI := Z_ ((impl_in_eq a0_0 1 7).trans (congrArg some (decide_eq_true hop)))
 have HN := Z_ (show impl_namesOf.f 1 a0_0 = some (false, false, true) by rcases hn with rfl | rfl <;> simp [impl_namesOf.f, impl_namesOf.j0])
 have HP := Z_ (show impl_Term_parts.f 1 a0_0 a0_1 a0_2 a0_3 = some ([] : List Int) by unfold impl_Term_parts.f; rw [HN.out]; rfl)
 have HI2 := Z_ ((impl_in_eq a0_3 0 9999).trans (congrArg some (decide_eq_true (by omega))))
 have k6 : ¬ a0_0 = 6 := by omega
 have k7 : ¬ a0_0 = 7 := by omega
 obtain ⟨_, _, _⟩ := eqT_ ha
 obtain ⟨_, _, _⟩ := eqT_ hb
 obtain ⟨_, _, _⟩ := eqF_ k6
 obtain ⟨_, _, _⟩ := eqF_ k7
 have HANY := Z_ (show ([] : List Int).any (notIn l1) = false from rfl)
 clear ha hb hn hop hr
 rotate_left
 obtain rfl : 3 = r := by rw [if_pos hop, if_pos hn, if_pos ⟨ha, hb⟩, if_neg hr] at h; exact h
 clear h
 have HI := Z_ ((impl_in_eq a0_0 1 7).trans (congrArg some (decide_eq_true hop)))
 have HN := Z_ (show impl_namesOf.f 1 a0_0 = some (false, false, true) by rcases hn with rfl | rfl <;> simp [impl_namesOf.f, impl_namesOf.j0])
 have HI2 := Z_ ((impl_in_eq a0_3 0 9999).trans (congrArg some (decide_eq_false (by omega))))
 obtain ⟨_, _, _⟩ := eqT_ ha
 obtain ⟨_, _, _⟩ := eqT_ hb
 clear ha hb hn hop hr
 rotate_left
 obtain rfl : 1 = r := by rw [if_pos hop, if_pos hn, if_neg (fun h => hb h.2)] at h; exact h
 clear h
 have HI := Z_ ((impl_in_eq a0_0 1 7).trans (congrArg some (decide_eq_true hop)))
 have HN := Z_ (show impl_namesOf.f 1 a0_0 = some (false, false, true) by rcases hn with rfl | rfl <;> simp [impl_namesOf.f, impl_namesOf.j0])
 obtain ⟨_, _, _⟩ := eqT_ ha
 obtain ⟨_, _, _⟩ := eqF_ hb
 clear hb hn hop
 rotate_left
 obtain rfl : 1 = r := by rw [if_pos hop, if_pos hn, if_neg (fun h => ha h.1)] at h; exact h
 clear h
 have HI := Z_ ((impl_in_eq a0_0 1 7).trans (congrArg some (decide_eq_true hop)))
 have HN := Z_ (show impl_namesOf.f 1 a0_0 = some (false, false, true) by rcases hn with rfl | rfl <;> simp [impl_namesOf.f, impl_namesOf.j0])
 obtain ⟨_, _, _⟩ := eqF_ ha
 clear ha hn hop
 rotate_left
 obtain rfl : 3 = r := by rw [if_pos hop, if_neg hn, if_pos k6, if_pos ⟨hb, h3⟩, if_pos hp] at h; exact h
 clear h
 have HI := Z_ ((impl_in_eq a0_0 1 7).trans (congrArg some (decide_eq_true hop)))
 have HN := Z_ (show impl_namesOf.f 1 a0_0 = some (true, false, false) by rw [k6]; simp [impl_namesOf.f, impl_namesOf.j0])
 have HP := Z_ (show impl_Term_parts.f 1 a0_0 a0_1 a0_2 a0_3 = some ([a0_1] : List Int) by unfold impl_Term_parts.f; rw [HN.out]; rfl)
 have HI2 := Z_ ((impl_in_eq a0_3 0 9999).trans (congrArg some (decide_eq_true (by omega))))
 obtain ⟨_, _, _⟩ := eqT_ hb
 obtain ⟨_, _, _⟩ := eqT_ h3
 obtain ⟨_, _, _⟩ := eqT_ k6
 have HANY := Z_ hp
 clear h3 hb hn hop hp k6
 rotate_left
 obtain rfl : 1 = r := by rw [if_pos hop, if_neg hn, if_pos k6, if_pos ⟨hb, h3⟩, if_neg hp, if_pos hq] at h; exact h
 clear h
 have HI := Z_ ((impl_in_eq a0_0 1 7).trans (congrArg some (decide_eq_true hop)))
 have HN := Z_ (show impl_namesOf.f 1 a0_0 = some (true, false, false) by rw [k6]; simp [impl_namesOf.f, impl_namesOf.j0])
 have HP := Z_ (show impl_Term_parts.f 1 a0_0 a0_1 a0_2 a0_3 = some ([a0_1] : List Int) by unfold impl_Term_parts.f; rw [HN.out]; rfl)
 have HI2 := Z_ ((impl_in_eq a0_3 0 9999).trans (congrArg some (decide_eq_true (by omega))))
 obtain ⟨_, _, _⟩ := eqT_ hb
 obtain ⟨_, _, _⟩ := eqT_ h3
 obtain ⟨_, _, _⟩ := eqT_ k6
 have HANY := Z_ (Bool.eq_false_iff.mpr hp)
 have HIN := Z_ (fault_in l1 _ HANY.out)
 have HANY2 := Z_ hq
 clear h3 hb hn hop hp hq k6
 rotate_left
 obtain rfl : 0 = r := by rw [if_pos hop, if_neg hn, if_pos k6, if_pos ⟨hb, h3⟩, if_neg hp, if_neg hq] at h; exact h
 clear h
 have HI := Z_ ((impl_in_eq a0_0 1 7).trans (congrArg some (decide_eq_true hop)))
 have HN := Z_ (show impl_namesOf.f 1 a0_0 = some (true, false, false) by rw [k6]; simp [impl_namesOf.f, impl_namesOf.j0])
 have HP := Z_ (show impl_Term_parts.f 1 a0_0 a0_1 a0_2 a0_3 = some ([a0_1] : List Int) by unfold impl_Term_parts.f; rw [HN.out]; rfl)
 have HI2 := Z_ ((impl_in_eq a0_3 0 9999).trans (congrArg some (decide_eq_true (by omega))))
 obtain ⟨_, _, _⟩ := eqT_ hb
 obtain ⟨_, _, _⟩ := eqT_ h3
 obtain ⟨_, _, _⟩ := eqT_ k6
 have k7 : ¬ a0_0 = 7 := by omega
 obtain ⟨_, _, _⟩ := eqF_ k7
 have HANY := Z_ (Bool.eq_false_iff.mpr hp)
 have HIN := Z_ (fault_in l1 _ HANY.out)
 have HANY2 := Z_ (Bool.eq_false_iff.mpr hq)
 clear h3 hb hn hop hp hq k6
 rotate_left
 obtain rfl : 1 = r := by rw [if_pos hop, if_neg hn, if_pos k6, if_neg (fun h => h3 h.2)] at h; exact h
 clear h
 have HI := Z_ ((impl_in_eq a0_0 1 7).trans (congrArg some (decide_eq_true hop)))
 have HN := Z_ (show impl_namesOf.f 1 a0_0 = some (true, false, false) by rw [k6]; simp [impl_namesOf.f, impl_namesOf.j0])
 obtain ⟨_, _, _⟩ := eqT_ hb
 obtain ⟨_, _, _⟩ := eqF_ h3
 clear h3 hn hop k6
 rotate_left
 obtain rfl : 1 = r := by rw [if_pos hop, if_neg hn, if_pos k6, if_neg (fun h => hb h.1)] at h; exact h
 clear h
 have HI := Z_ ((impl_in_eq a0_0 1 7).trans (congrArg some (decide_eq_true hop)))
 have HN := Z_ (show impl_namesOf.f 1 a0_0 = some (true, false, false) by rw [k6]; simp [impl_namesOf.f, impl_namesOf.j0])
 obtain ⟨_, _, _⟩ := eqF_ hb
 clear hb hn hop k6
 rotate_left
 obtain rfl : 3 = r := by rw [if_pos hop, if_neg hn, if_neg k6, if_pos h3, if_pos hp] at h; exact h
 clear h
 have HI := Z_ ((impl_in_eq a0_0 1 7).trans (congrArg some (decide_eq_true hop)))
 have HN := Z_ (show impl_namesOf.f 1 a0_0 = some (true, true, false) by have h1 : ¬ a0_0 = 1 := fun e => hn (.inl e); have h2 : (a0_0 == 2) = false := (by simpa using (fun e => hn (.inr e) : ¬ a0_0 = 2)); simp [impl_namesOf.f, impl_namesOf.j0, h1, h2, k6])
 have HP := Z_ (show impl_Term_parts.f 1 a0_0 a0_1 a0_2 a0_3 = some ([a0_1, a0_2] : List Int) by unfold impl_Term_parts.f; rw [HN.out]; rfl)
 have HI2 := Z_ ((impl_in_eq a0_3 0 9999).trans (congrArg some (decide_eq_true (by omega))))
 obtain ⟨_, _, _⟩ := eqT_ h3
 have HANY := Z_ hp
 clear h3 hn hop hp k6
 rotate_left
 obtain rfl : 1 = r := by rw [if_pos hop, if_neg hn, if_neg k6, if_pos h3, if_neg hp, if_pos k7, if_pos (.inl hq)] at h; exact h
 clear h
 have HI := Z_ ((impl_in_eq a0_0 1 7).trans (congrArg some (decide_eq_true hop)))
 have HN := Z_ (show impl_namesOf.f 1 a0_0 = some (true, true, false) by have h1 : ¬ a0_0 = 1 := fun e => hn (.inl e); have h2 : (a0_0 == 2) = false := (by simpa using (fun e => hn (.inr e) : ¬ a0_0 = 2)); simp [impl_namesOf.f, impl_namesOf.j0, h1, h2, k6])
 have HP := Z_ (show impl_Term_parts.f 1 a0_0 a0_1 a0_2 a0_3 = some ([a0_1, a0_2] : List Int) by unfold impl_Term_parts.f; rw [HN.out]; rfl)
 have HI2 := Z_ ((impl_in_eq a0_3 0 9999).trans (congrArg some (decide_eq_true (by omega))))
 obtain ⟨_, _, _⟩ := eqT_ h3
 obtain ⟨_, _, _⟩ := eqF_ k6
 obtain ⟨_, _, _⟩ := eqT_ k7
 have HANY := Z_ (Bool.eq_false_iff.mpr hp)
 have HIN := Z_ (fault_in l1 _ HANY.out)
 have HANY2 := Z_ hq
 clear h3 hn hop hp hq k6 k7
 rotate_left
 obtain rfl : 1 = r := by rw [if_pos hop, if_neg hn, if_neg k6, if_pos h3, if_neg hp, if_pos k7, if_pos (.inr hg)] at h; exact h
 clear h
 have HI := Z_ ((impl_in_eq a0_0 1 7).trans (congrArg some (decide_eq_true hop)))
 have HN := Z_ (show impl_namesOf.f 1 a0_0 = some (true, true, false) by have h1 : ¬ a0_0 = 1 := fun e => hn (.inl e); have h2 : (a0_0 == 2) = false := (by simpa using (fun e => hn (.inr e) : ¬ a0_0 = 2)); simp [impl_namesOf.f, impl_namesOf.j0, h1, h2, k6])
 have HP := Z_ (show impl_Term_parts.f 1 a0_0 a0_1 a0_2 a0_3 = some ([a0_1, a0_2] : List Int) by unfold impl_Term_parts.f; rw [HN.out]; rfl)
 have HI2 := Z_ ((impl_in_eq a0_3 0 9999).trans (congrArg some (decide_eq_true (by omega))))
 obtain ⟨_, _, _⟩ := eqT_ h3
 obtain ⟨_, _, _⟩ := eqF_ k6
 obtain ⟨_, _, _⟩ := eqT_ k7
 have HANY := Z_ (Bool.eq_false_iff.mpr hp)
 have HIN := Z_ (fault_in l1 _ HANY.out)
 have HANY2 := Z_ (Bool.eq_false_iff.mpr hq)
 have hg0 : decide (a0_1 > a0_2) = true := decide_eq_true hg
 have hg1 : decide (a0_2 < a0_1) = true := hg0
 clear h3 hg hn hop hp k6 k7
 rotate_left
 obtain rfl : 0 = r := by rw [if_pos hop, if_neg hn, if_neg k6, if_pos h3, if_neg hp, if_pos k7, if_neg (fun h => h.elim hq hg)] at h; exact h
 clear h
 have HI := Z_ ((impl_in_eq a0_0 1 7).trans (congrArg some (decide_eq_true hop)))
 have HN := Z_ (show impl_namesOf.f 1 a0_0 = some (true, true, false) by have h1 : ¬ a0_0 = 1 := fun e => hn (.inl e); have h2 : (a0_0 == 2) = false := (by simpa using (fun e => hn (.inr e) : ¬ a0_0 = 2)); simp [impl_namesOf.f, impl_namesOf.j0, h1, h2, k6])
 have HP := Z_ (show impl_Term_parts.f 1 a0_0 a0_1 a0_2 a0_3 = some ([a0_1, a0_2] : List Int) by unfold impl_Term_parts.f; rw [HN.out]; rfl)
 have HI2 := Z_ ((impl_in_eq a0_3 0 9999).trans (congrArg some (decide_eq_true (by omega))))
 obtain ⟨_, _, _⟩ := eqT_ h3
 obtain ⟨_, _, _⟩ := eqF_ k6
 obtain ⟨_, _, _⟩ := eqT_ k7
 have HANY := Z_ (Bool.eq_false_iff.mpr hp)
 have HIN := Z_ (fault_in l1 _ HANY.out)
 have HANY2 := Z_ (Bool.eq_false_iff.mpr hq)
 have hg0 : decide (a0_1 > a0_2) = false := decide_eq_false hg
 have hg1 : decide (a0_2 < a0_1) = false := hg0
 clear h3 hg hn hop hp hq k6 k7
 rotate_left
 obtain rfl : 0 = r := by rw [if_pos hop, if_neg hn, if_neg k6, if_pos h3, if_neg hp, if_neg k7] at h; exact h
 clear h
 have HI := Z_ ((impl_in_eq a0_0 1 7).trans (congrArg some (decide_eq_true hop)))
 have HN := Z_ (show impl_namesOf.f 1 a0_0 = some (true, true, false) by have h1 : ¬ a0_0 = 1 := fun e => hn (.inl e); have h2 : (a0_0 == 2) = false := (by simpa using (fun e => hn (.inr e) : ¬ a0_0 = 2)); simp [impl_namesOf.f, impl_namesOf.j0, h1, h2, k6])
 have HP := Z_ (show impl_Term_parts.f 1 a0_0 a0_1 a0_2 a0_3 = some ([a0_1, a0_2] : List Int) by unfold impl_Term_parts.f; rw [HN.out]; rfl)
 have HI2 := Z_ ((impl_in_eq a0_3 0 9999).trans (congrArg some (decide_eq_true (by omega))))
 obtain ⟨_, _, _⟩ := eqT_ h3
 obtain ⟨_, _, _⟩ := eqF_ k6
 obtain ⟨_, _, _⟩ := eqF_ k7
 have HANY := Z_ (Bool.eq_false_iff.mpr hp)
 clear h3 hn hop hp k6 k7
 rotate_left
 obtain rfl : 1 = r := by rw [if_pos hop, if_neg hn, if_neg k6, if_neg h3] at h; exact h
 clear h
 have HI := Z_ ((impl_in_eq a0_0 1 7).trans (congrArg some (decide_eq_true hop)))
 have HN := Z_ (show impl_namesOf.f 1 a0_0 = some (true, true, false) by have h1 : ¬ a0_0 = 1 := fun e => hn (.inl e); have h2 : (a0_0 == 2) = false := (by simpa using (fun e => hn (.inr e) : ¬ a0_0 = 2)); simp [impl_namesOf.f, impl_namesOf.j0, h1, h2, k6])
 obtain ⟨_, _, _⟩ := eqF_ h3
 clear h3 hn hop k6
 rotate_left
 obtain rfl : 5 = r := by rw [if_neg hop] at h; exact h
 clear h
 have HI := Z_ ((impl_in_eq a0_0 1 7).trans (congrArg some (decide_eq_false hop)))
 clear hop
 rotate_left
 all_goals
   go_enter Try.func46, Try.ntmps46
   go_wp2_with (first | ((with_reducible refine gD_ 2 rfl ?_); refine bx_ #[.int .i64 a0_0, .int .i64 a0_1, .int .i64 a0_2, .int .i64 a0_3] 76 ?_; intro g2 hg w2 hbox hb; replace HB := Z_ (lP_ HB.out hb); have a0 := Z_ hbox; clear hb hbox hg) | ((with_reducible refine gD_ 3 rfl ?_); refine bx_ #[.slice A1 l1.length c1] 30 ?_; intro g3 hg w3 hbox hb; replace HB := Z_ (lP_ HB.out hb); replace a0 := Z_ (bB_ a0.out hb); have a1 := Z_ hbox; clear hb hbox hg; obtain ⟨_, _, _, _⟩ := tc4_ a0.out) | (go_at_call 31; (with_reducible refine (impl_in.calls a0_0 1 7 _ _ HI.out).mono ?_); rintro e w4 ⟨rfl, hd⟩; have hb := hd.below; clear hd; replace HB := Z_ (lP_ HB.out hb); replace a0 := Z_ (bB_ a0.out hb); replace a1 := Z_ (bB_ a1.out hb); clear hb; obtain ⟨_, _, _, _⟩ := tc4_ a0.out) | (go_at_call 62; (with_reducible refine (impl_namesOf.calls 1 a0_0 _ _ _ _ HN.out).mono ?_); rintro e w5 ⟨rfl, hb⟩; replace HB := Z_ (lP_ HB.out hb); replace a0 := Z_ (bB_ a0.out hb); replace a1 := Z_ (bB_ a1.out hb); clear hb) | ((with_reducible refine gD_ 5 rfl ?_); refine bx_ #[.bool false, .bool false, .bool false] 108 ?_; intro g5 hg w6 hbox hb; have a3 := Z_ (show w.heap.size ≤ g5 by rw [hg]; exact below_size HB.out); have NB25 := Z_ (show g2 ≠ g5 by rw [hg]; exact Nat.ne_of_lt (blk_lt a0.out)); have NB35 := Z_ (show g3 ≠ g5 by rw [hg]; exact Nat.ne_of_lt (blk_lt a1.out)); replace HB := Z_ (lP_ HB.out hb); replace a0 := Z_ (bB_ a0.out hb); replace a1 := Z_ (bB_ a1.out hb); clear hb; have a2 := Z_ hbox; clear hbox hg; have hnb_ := NB25.out; have hnc_ := NB25.out.symm; obtain ⟨_, _, _, _⟩ := tc4_ a0.out; have p0_ : w6.cell? ⟨g5, 0, none⟩ = some (.bool false) := (blk_cell a2.out 0).trans rfl; have p1_ : w6.cell? ⟨g5, 1, none⟩ = some (.bool false) := (blk_cell a2.out 1).trans rfl; have p2_ : w6.cell? ⟨g5, 2, none⟩ = some (.bool false) := (blk_cell a2.out 2).trans rfl; have f0_ := blk_frozen a2.out 0; have f1_ := blk_frozen a2.out 1; have f2_ := blk_frozen a2.out 2) | (go_at_call 31; (with_reducible refine (impl_in.calls a0_3 0 9999 _ _ HI2.out).mono ?_); rintro e w7 ⟨rfl, hd⟩; have hb := hd.below; clear hd; replace HB := Z_ (lP_ Lb_ hb); replace a0 := Z_ (bB_ (o := .cells #[.int .i64 a0_0, .int .i64 a0_1, .int .i64 a0_2, .int .i64 a0_3] 76 (0, 0)) (by repeat (first | exact a0.out | refine bF_ ?_ NB25.out _)) hb); replace a1 := Z_ (bB_ (o := .cells #[.slice A1 l1.length c1] 30 (0, 0)) (by repeat (first | exact a1.out | refine bF_ ?_ NB35.out _)) hb); clear hb; obtain ⟨_, _, _, _⟩ := tc4_ a0.out) | (go_at_call 64; (with_reducible refine (impl_Term_parts.calls 1 a0_0 a0_1 a0_2 a0_3 _ _ HP.out).mono ?_); rintro e w8 ⟨v8, rfl, ho, hb⟩; have HO := Z_ ho; clear ho; obtain ⟨Ao, co, eo⟩ := Kd.R_slice HO.out; subst eo; replace HB := Z_ (lP_ Lb_ hb); replace a0 := Z_ (bB_ (o := .cells #[.int .i64 a0_0, .int .i64 a0_1, .int .i64 a0_2, .int .i64 a0_3] 76 (0, 0)) (by repeat (first | exact a0.out | refine bF_ ?_ NB25.out _)) hb); replace a1 := Z_ (bB_ (o := .cells #[.slice A1 l1.length c1] 30 (0, 0)) (by repeat (first | exact a1.out | refine bF_ ?_ NB35.out _)) hb); clear hb; obtain ⟨_, _, _, _⟩ := tc4_ a0.out) | (go_at_call 63; (with_reducible refine gF_ (.func 65) ?_); refine (slices_ContainsFunc_int64_int64.calls 65 #[.pointer (some ⟨g3, 0, none⟩)] (notIn l1) Ao co _ _ (enters_of Try.func65 (by kernel_rfl) rfl) (fun W x _ hB => (impl_fault_1.calls A1 l1.length c1 g3 x HL.out W ((hB.cell (p := ⟨g3, 0, none⟩) (blk_lt a1.out)).trans ((blk_cell a1.out 0).trans rfl))).mono (fun _ _ h => ⟨h.1, lP_ hB h.2⟩)) (Kd.R_reads' HO.out).2.2 (by simp)).mono ?_; rintro e w9 ⟨he, hb⟩; rw [HANY.out] at he; subst he; replace HB := Z_ (lP_ Lb_ hb); replace a0 := Z_ (bB_ (o := .cells #[.int .i64 a0_0, .int .i64 a0_1, .int .i64 a0_2, .int .i64 a0_3] 76 (0, 0)) (by repeat (first | exact a0.out | refine bF_ ?_ NB25.out _)) hb); replace a1 := Z_ (bB_ (o := .cells #[.slice A1 l1.length c1] 30 (0, 0)) (by repeat (first | exact a1.out | refine bF_ ?_ NB35.out _)) hb); clear hb; obtain ⟨_, _, _, _⟩ := tc4_ a0.out) | (go_at_call 63; (with_reducible refine gF_ (.func 66) ?_); refine (slices_ContainsFunc_int64_int64.calls 66 #[.pointer (some ⟨g3, 0, none⟩)] (notFresh l1) Ao co _ _ (enters_of Try.func66 (by kernel_rfl) rfl) (fun W x hx hB => (impl_fault_2.calls A1 l1 c1 g3 x W ((hB.cell (p := ⟨g3, 0, none⟩) (blk_lt a1.out)).trans ((blk_cell a1.out 0).trans rfl)) (Kd.C_below HR.out (lP_ HB.out hB)) (HIN.out x hx).1 (HIN.out x hx).2).mono (fun _ _ h => ⟨h.1, lP_ hB h.2⟩)) (Kd.R_reads' HO.out).2.2 (by simp)).mono ?_; rintro e w10 ⟨he, hb⟩; rw [HANY2.out] at he; subst he; replace HB := Z_ (lP_ Lb_ hb); replace a0 := Z_ (bB_ (o := .cells #[.int .i64 a0_0, .int .i64 a0_1, .int .i64 a0_2, .int .i64 a0_3] 76 (0, 0)) (by repeat (first | exact a0.out | refine bF_ ?_ NB25.out _)) hb); replace a1 := Z_ (bB_ (o := .cells #[.slice A1 l1.length c1] 30 (0, 0)) (by repeat (first | exact a1.out | refine bF_ ?_ NB35.out _)) hb); clear hb; obtain ⟨_, _, _, _⟩ := tc4_ a0.out))
   go_ret
   exact ⟨rfl, Lb_⟩
end Go.Proofs.Ytbjnjjjhdjichaa.G
namespace Go.Proofs.Ytbjnjjjhdjichaa.G
open Go.RowKit Go.Proofs.YtbjnjjjhdjichaaW.PrintWords Go.Proofs.YtbjnjjjhdjichaaW.PrintLast Go.Proofs.YtbjnjjjhdjichaaW.PrintMore
attribute [local go_sem] max2_int min2_int max_two min_two max_three min_three max_four min_four   -- for this text's walks alone
set_option linter.unusedVariables false
set_option linter.unusedSimpArgs false
open Go.Maps (Keyed IsMap isMap_empty atKey_put_same atKey_put_other)
theorem term_laid : laidOutB Try.prog = true := by kernel_rfl
theorem term_row : 76 < Try.prog.types.size := of_decide_eq_true (by kernel_rfl)
theorem term_wide : (match Try.prog.underlying 76 with | some (.array _ _) | some (.struct _) => true | _ => false) = true := by rw [Try.underlying76]
set_option maxRecDepth 100000 in
theorem term_keyed : Keyed Try.prog 76 := Keyed.of_law (deep_law_laid term_laid (m := 2) (by omega) term_row (by kernel_rfl) term_wide)
def wf4 (x : S76) : Bool := (Lit.int .i64 x.f0).wf && (Lit.int .i64 x.f1).wf && (Lit.int .i64 x.f2).wf && (Lit.int .i64 x.f3).wf
theorem term_kt : Try.prog.keyType 76 = true := by kernel_rfl
theorem term_c39 : Try.prog.cellsOf 76 = 4 := by kernel_rfl
theorem term_c2 : Try.prog.cellsOf 2 = 1 := by kernel_rfl
theorem term_sz : ∃ m, Try.prog.types.size = m + 1 := ⟨Try.prog.types.size - 1, by have := term_row; omega⟩
theorem keyOf_term (x : S76) (h : wf4 x = true) : ∃ kl, keyOf Try.prog 76 (.agg #[.int .i64 x.f0, .int .i64 x.f1, .int .i64 x.f2, .int .i64 x.f3]) = some kl := by
  unfold wf4 at h
  simp only [Bool.and_eq_true] at h
  obtain ⟨⟨⟨h0, h1⟩, h2⟩, h3⟩ := h
  obtain ⟨m, hm⟩ := term_sz
  have hf : (Value.agg #[.int .i64 x.f0, .int .i64 x.f1, .int .i64 x.f2, .int .i64 x.f3]).formed Try.prog 76 = true := by
    simp [Value.formed, Try.underlying76, term_c39]
  unfold keyOf
  rw [Try.underlying76]
  simp only [term_kt, hf, Bool.and_self, if_true, hm]
  simp [Program.keyLits, Try.underlying76, Try.underlying2, term_c39, term_c2, Value.cells, h0, h1, h2, h3]
theorem plainElem_bool_inv {H : Type} {P : Program} {e : TypeId} (he : P.underlying e = some .bool) {v : Value} {z : DataW H × List MemPlace} (h : plainElem P e v = some z) : ∃ a, v = .bool a ∧ z = (.lit (.bool a), []) := by
  unfold plainElem at h
  rw [he] at h
  cases v <;> simp at h
  exact ⟨_, rfl, h.symm⟩
theorem wpList_lookup_own_bool {H : Type} {P : Program} (w : World) {ops : Array Oper} {rest : List Oper} {o : Oper} {a : Act} {Q : Exit → Act → World → Prop}
    (hg : o.guard = none) (m x : Operand) (t : TypeId) (hop : o.op = Op.lookup t m x false)
    (k e : TypeId) (K : Keyed P k) (ht : P.underlying t = some (.map k e)) (he : P.underlying e = some .bool) (hz : (zeroValue e).run P w = .ok (.bool false) w) (b n : Nat) (D : DataW H)
    (hm : a.eval m = .map (some b)) (hown : w.ownsMap P k (plainElem P e) b n D) (key : Value) (kl : Lit) (hx : a.eval x = key) (hkey : keyOf P k key = some kl)
    (hK : ∀ c : Bool, D.atKey kl (.lit (.bool false)) = .lit (.bool c) → wpList P ops Q rest (a.put o.dst (.bool c)) w) :
    wpList P ops Q (o :: rest) a w := by
  refine wpList_plain hg fun K' hK' => ?_
  obtain ⟨v, ps, hrun, hv⟩ := hown.lookup K ht hz (plainElem_bool he false) hkey
  obtain ⟨c, rfl, hc⟩ := plainElem_bool_inv he hv
  simp only [Prod.mk.injEq] at hc
  unfold Oper.wp
  simp [execOp, hop, hm, hx, hrun, Result.andThen]
  exact hK' _ _ (hK c hc.1)
theorem own_map_below {w w' : World} {P : Program} {k e : TypeId} {b n : Nat} {D : DataW Unit} (h : w.ownsMap P k (plainElem P e) b n D) (hb : Below w.heap.size w w') : w'.ownsMap P k (plainElem P e) b n D := h.kept (grown_of_below hb none) (by simp)
theorem own_map_set {w : World} {P : Program} {k e : TypeId} {b n : Nat} {D : DataW Unit} (h : w.ownsMap P k (plainElem P e) b n D) {g j : Nat} {u : Value} (hne : b ≠ g) : (w.setCell ⟨g, j, none⟩ u).ownsMap P k (plainElem P e) b n D := by
  obtain ⟨es, clock, hb, r⟩ := h
  exact ⟨es, clock, (Below.heap_setCell w ⟨g, j, none⟩ u b hne).trans hb, r⟩
def eq4 (y x : S76) : Bool := y.f0 == x.f0 && (y.f1 == x.f1 && (y.f2 == x.f2 && (y.f3 == x.f3)))
theorem eq4_iff {y x : S76} : eq4 y x = true ↔ y = x := by
  cases x; cases y; simp [eq4]
def tv (x : S76) : Value := .agg #[.int .i64 x.f0, .int .i64 x.f1, .int .i64 x.f2, .int .i64 x.f3]
theorem tv_inj {x y : S76} (h : tv x = tv y) : x = y := by
  unfold tv at h
  injection h with h
  have h := congrArg Array.toList h
  simp at h
  obtain ⟨h0, h1, h2, h3⟩ := h
  cases x; cases y
  simp_all
def Seen (D : DataW Unit) (pre : List S76) : Prop := ∀ (y : S76) (kl : Lit), keyOf Try.prog 76 (tv y) = some kl → D.atKey kl (.lit (.bool false)) = .lit (.bool (pre.any (eq4 y)))
theorem seen_nil : Seen (.map []) [] := fun y kl _ => rfl
theorem seen_put {D : DataW Unit} {pre : List S76} {x : S76} {kl : Lit} (h : Seen D pre) (hD : IsMap D) (hx : keyOf Try.prog 76 (tv x) = some kl) : Seen (D.put kl (.lit (.bool true))) (pre ++ [x]) := by
  intro y kl' hy
  rw [List.any_append]
  by_cases e : kl' = kl
  · subst e
    have : y = x := tv_inj (term_keyed.inj hy hx)
    subst this
    rw [atKey_put_same hD (term_keyed.key hx)]
    have : [y].any (eq4 y) = true := by simp [eq4]
    rw [this, Bool.or_true]
  · rw [atKey_put_other e, h y kl' hy]
    have : [x].any (eq4 y) = false := by
      simp only [List.any_cons, List.any_nil, Bool.or_false]
      cases hq : eq4 y x
      · rfl
      · exact absurd (by rw [eq4_iff.1 hq, hx] at hy; exact (Option.some.inj hy).symm) e
    rw [this, Bool.or_false]
def TFs : List S76 → List S76 → Int
  | _, [] => 0
  | pre, x :: r => if tfault x.f0 x.f1 x.f2 x.f3 pre = 0 then (if pre.any (eq4 x) = true then 7 else TFs (pre ++ [x]) r) else tfault x.f0 x.f1 x.f2 x.f3 pre
def impl_TermsFault.f (l0 : List S76) : Option Int := if l0.all wf4 = true then some (if 400 < l0.length then 2 else TFs [] l0) else none
theorem C_take39 {w W : World} {A : Option Addr} {l : List S76} (h : Kd.C k76 w A l.length l) (hb : Below w.heap.size w W) (k : Nat) : Kd.C k76 W A (l.take k).length (l.take k) := by
  obtain ⟨h1, h2, h3⟩ := Kd.C_below h hb
  refine ⟨rfl, by rw [List.length_take]; omega, fun hp => ?_⟩
  obtain ⟨ad, e, hh⟩ := h3 (by rw [List.length_take] at hp; omega)
  refine ⟨ad, e, fun j p hj => hh j p ?_⟩
  rw [List.getElem?_take] at hj
  split at hj
  · exact hj
  · cases hj
set_option maxHeartbeats 8000000 in
set_option maxRecDepth 100000 in
theorem impl_TermsFault.calls (A0 : Option Addr) (c0 : Nat) (l0 : List S76) (r : Int) (w : World) (hr0 : Kd.C k76 w A0 l0.length l0) (hc0 : l0.length ≤ c0) (h : impl_TermsFault.f l0 = some r) :
    Calls Try.prog 23 #[.slice A0 l0.length c0] w fun e w' => e = .returned (.int .i64 r) ∧ Below w.heap.size w w' := by
 unfold impl_TermsFault.f at h
 by_cases hwf : l0.all wf4 = true
 ·rw [if_pos hwf] at h
  obtain rfl := Option.some.inj h
  clear h
  have HW := Z_ hwf
  have HR := Z_ hr0
  have HC := Z_ hc0
  have HB := Z_ (Below.refl w.heap.size w)
  clear hr0 hc0 hwf
  by_cases hbig : 400 < l0.length
  ·rw [if_pos hbig]
   have hb0 : decide ((l0.length : Int) > 400) = true := decide_eq_true (by omega)
   have hb1 : decide ((400 : Int) < (l0.length : Int)) = true := decide_eq_true (by omega)
   go_enter Try.func23, Try.ntmps23
   go_wp2
   go_ret
   exact ⟨rfl, HB.out⟩
  ·rw [if_neg hbig]
   have hb0 : decide ((l0.length : Int) > 400) = false := decide_eq_false (by omega)
   have hb1 : decide ((400 : Int) < (l0.length : Int)) = false := decide_eq_false (by omega)
   have hl : l0.length ≤ 400 := by omega
   have hmm := @run_makeMap
   go_enter Try.func23, Try.ntmps23
   go_wp2_with fail
   have HO : Aside0 ((w.alloc (.map #[] 0)).ownsMap Try.prog 76 (plainElem (H := Unit) Try.prog 4) w.heap.size 0 (.map [])) := Z_ (World.ownsMap_made w _ _ _)
   have n0_ := Z_ (lA1_ (o := .map #[] 0) HB.out)
   clear HB
   have HB := n0_
   clear n0_
   obtain ⟨B, hB⟩ : ∃ B, B = w.heap.size := ⟨_, rfl⟩
   have GB : Aside0 (w.heap.size ≤ B) := ⟨by omega⟩
   rw [← hB] at HO ⊢
   clear hB
   go_loopg [13] l0.length (fun gg s13 wr => ∃ (kk : Nat) (D : DataW Unit), kk ≤ l0.length ∧ l0.length - kk ≤ gg ∧ s13 = .int .i64 kk ∧ Aside0 (TFs (l0.take kk) (l0.drop kk) = TFs [] l0) ∧ Aside0 (wr.ownsMap Try.prog 76 (plainElem Try.prog 4) B kk D) ∧ Aside0 (IsMap D) ∧ Aside0 (Seen D (l0.take kk)) ∧ Aside0 (Below w.heap.size w wr))
   case atStart => exact ⟨0, .map [], Nat.zero_le _, by omega, rfl, ⟨rfl⟩, HO, ⟨isMap_empty⟩, ⟨seen_nil⟩, HB⟩
   case round =>
    clear HO HB
    obtain ⟨kk, D, hkn, hgg, rfl, HT, HO, HD, HS, HB⟩ := hrel
    by_cases hlt : kk < l0.length
    ·have hltz : (kk : Int) < (l0.length : Int) := by omega
     have hltd : decide ((kk : Int) < (l0.length : Int)) = true := decide_eq_true hltz
     obtain ⟨ad, e, hx0, hx1, hx2, hx3⟩ := at_T76 (Kd.C_below HR.out HB.out) (kk : Int) (by omega) (by omega)
     rw [Int.toNat_natCast] at hx0 hx1 hx2 hx3
     subst e
     have hm : rd_T76 l0 (kk : Int) = l0[kk] := by simp [rd_T76, List.getD, List.getElem?_eq_getElem hlt]
     have htk : l0.take (kk + 1) = l0.take kk ++ [rd_T76 l0 (kk : Int)] := by rw [hm, List.take_succ_eq_append_getElem hlt]
     have hdr : l0.drop kk = rd_T76 l0 (kk : Int) :: l0.drop (kk + 1) := by rw [hm, List.drop_eq_getElem_cons hlt]
     have hxw : wf4 (rd_T76 l0 (kk : Int)) = true := by rw [hm]; exact List.all_eq_true.1 HW.out _ (List.getElem_mem hlt)
     have ht := HT.out
     rw [hdr] at ht
     simp only [TFs] at ht
     have HTK := Z_ htk
     clear hm htk hdr HT
     generalize rd_T76 l0 (kk : Int) = x at hx0 hx1 hx2 hx3 hxw ht HTK
     obtain ⟨kl, hkl⟩ := keyOf_term x hxw
     have HK := Z_ (show keyOf Try.prog 76 (tv x) = some kl from hkl)
     clear hkl hxw
     obtain ⟨c, hc⟩ : ∃ c, c = tfault x.f0 x.f1 x.f2 x.f3 (l0.take kk) := ⟨_, rfl⟩
     have HF := Z_ (show impl_Term_fault.f x.f0 x.f1 x.f2 x.f3 (l0.take kk) = some c by rw [hc]; rfl)
     rw [← hc] at ht
     clear hc
     have hkc : kk ≤ c0 := by have := HC.out; omega
     obtain ⟨y, hy⟩ : ∃ y, y = l0.take kk := ⟨_, rfl⟩
     have hyl : y.length = ((kk : Nat) : Int).toNat := by rw [hy, List.length_take]; omega
     have hCy := C_take39 HR.out (Below.refl _ w) kk
     rw [← hy] at HS HTK HF ht hCy
     have HCY := Z_ hCy
     have HY := Z_ hyl
     obtain ⟨i0, hi0, _, hsz0, _⟩ := info_parts info76
     have hcut := cut_to (P := Try.prog) 30 76 .i64 Try.underlying30 hi0 (some ad) l0.length c0 (kk : Int) (by omega) (by omega) HC.out
     rw [← hyl] at hcut
     clear hi0 hsz0 hCy
     have HYE := Z_ hy
     clear hy hyl
     go_wp2_with (first | ((with_reducible refine gD_ 5 rfl ?_); refine bx_ #[.int .i64 0, .int .i64 0, .int .i64 0, .int .i64 0] 76 ?_; intro g5 hg w3 hbox hb; have n0_ := Z_ (lP_ HB.out hb); have n1_ := Z_ hbox; have n2_ := Z_ (show w.heap.size ≤ g5 by rw [hg]; exact below_size HB.out); have n3_ := Z_ (show B ≠ g5 by rw [hg]; exact Nat.ne_of_lt HO.out.lt); have n4_ := Z_ (own_map_below HO.out hb); replace hx0 := (hb.cell (World.block_lt_of_cell? wr _ hx0)).trans hx0; replace hx1 := (hb.cell (World.block_lt_of_cell? wr _ hx1)).trans hx1; replace hx2 := (hb.cell (World.block_lt_of_cell? wr _ hx2)).trans hx2; replace hx3 := (hb.cell (World.block_lt_of_cell? wr _ hx3)).trans hx3; clear HB HO; have HB := n0_; have a0 := n1_; have a1 := n2_; have NE5 := n3_; have HO := n4_; clear n0_ n1_ n2_ n3_ n4_ hb hbox hg; have p0_ : w3.cell? ⟨g5, 0, none⟩ = some (.int .i64 0) := (blk_cell a0.out 0).trans rfl; have p1_ : w3.cell? ⟨g5, 1, none⟩ = some (.int .i64 0) := (blk_cell a0.out 1).trans rfl; have p2_ : w3.cell? ⟨g5, 2, none⟩ = some (.int .i64 0) := (blk_cell a0.out 2).trans rfl; have p3_ : w3.cell? ⟨g5, 3, none⟩ = some (.int .i64 0) := (blk_cell a0.out 3).trans rfl; have f0_ := blk_frozen a0.out 0; have f1_ := blk_frozen a0.out 1; have f2_ := blk_frozen a0.out 2; have f3_ := blk_frozen a0.out 3))
     have n0_ := Z_ (blk_put (blk_put (blk_put (blk_put a0.out 0 (.int .i64 x.f0) rfl) 1 (.int .i64 x.f1) rfl) 2 (.int .i64 x.f2) rfl) 3 (.int .i64 x.f3) rfl)
     have n1_ := Z_ (own_map_set (own_map_set (own_map_set (own_map_set HO.out NE5.out (j := 0) (u := .int .i64 x.f0)) NE5.out (j := 1) (u := .int .i64 x.f1)) NE5.out (j := 2) (u := .int .i64 x.f2)) NE5.out (j := 3) (u := .int .i64 x.f3))
     have n2_ := Z_ (lS1_ (j := 3) (v := .int .i64 x.f3) (lS1_ (j := 2) (v := .int .i64 x.f2) (lS1_ (j := 1) (v := .int .i64 x.f1) (lS1_ (j := 0) (v := .int .i64 x.f0) HB.out a1.out) a1.out) a1.out) a1.out)
     clear a0 HO HB hx0 hx1 hx2 hx3 p0_ p1_ p2_ p3_ f0_ f1_ f2_ f3_
     have a0 := n0_; have HO := n1_; have HB := n2_
     clear n0_ n1_ n2_
     generalize (w3.setCell ⟨g5, 0, none⟩ (.int .i64 x.f0) |>.setCell ⟨g5, 1, none⟩ (.int .i64 x.f1) |>.setCell ⟨g5, 2, none⟩ (.int .i64 x.f2) |>.setCell ⟨g5, 3, none⟩ (.int .i64 x.f3)) = w4 at a0 HO HB ⊢
     have n0_ := Z_ (bD_ a0.out)
     have n1_ := Z_ (lD_ HB.out)
     have n2_ := Z_ (World.ownsMap.drew HO.out)
     clear a0 HB HO
     have a0 := n0_; have HB := n1_; have HO := n2_
     clear n0_ n1_ n2_
     refine start_ (n := 6) (S := fun w' => w'.cell? ⟨g5, 0, none⟩ = some (.int .i64 x.f0) ∧ w'.cell? ⟨g5, 1, none⟩ = some (.int .i64 x.f1) ∧ w'.cell? ⟨g5, 2, none⟩ = some (.int .i64 x.f2) ∧ w'.cell? ⟨g5, 3, none⟩ = some (.int .i64 x.f3)) (ds := []) #[false, false, false, false, false, false] (by kernel_rfl) rfl rfl ⟨(blk_cell a0.out 0).trans rfl, (blk_cell a0.out 1).trans rfl, (blk_cell a0.out 2).trans rfl, (blk_cell a0.out 3).trans rfl⟩ (fun hHeld => ?_)
     generalize w4.drew = w5 at a0 HB HO hHeld ⊢
     refine take_ (i := 0) (N := some 18) (v := ?_) (a' := ?_) #[true, false, false, false, false, false] rfl rfl (by kernel_rfl) (fun _ _ _ h => h) (Or.inl ⟨by rfl, ?_⟩) hHeld ?_ ?_
     rotate_left
     ·rintro w' ⟨s0, s1, s2, s3⟩
      go_simp
      with_reducible rfl
     rotate_left
     ·simp only [Act.put, lA_, lZ_, lS_, i64_w, i32_w]
      rfl
     refine pure_ (i := 1) (N := some 19) (v := ?_) (a' := ?_) #[true, true, false, false, false, false] rfl rfl (by kernel_rfl) (fun _ _ _ h => h) (Or.inl ⟨by rfl, ?_⟩) ?_ ?_
     rotate_left
     ·intro w'
      go_simp
      with_reducible rfl
     rotate_left
     ·simp only [Act.put, lA_, lZ_, lS_, i64_w, i32_w]
      rfl
     refine pure_ (i := 2) (N := some 20) (v := ?_) (a' := ?_) #[true, true, true, false, false, false] rfl rfl (by kernel_rfl) (fun _ _ _ h => h) (Or.inl ⟨by rfl, ?_⟩) ?_ ?_
     rotate_left
     ·intro w'
      go_simp
      with_reducible rfl
     rotate_left
     ·simp only [Act.put, lA_, lZ_, lS_, i64_w, i32_w]
      rfl
     refine pure_ (i := 3) (N := some 21) (v := ?_) (a' := ?_) #[true, true, true, true, false, false] rfl rfl (by kernel_rfl) (fun _ _ _ h => h) (Or.inl ⟨by rfl, ?_⟩) ?_ ?_
     rotate_left
     ·intro w'
      go_simp
      with_reducible rfl
     rotate_left
     ·simp only [Act.put, lA_, lZ_, lS_, i64_w, i32_w]
      rfl
     refine one_ (i := 4) (N := some 22) #[true, true, true, true, true, false] rfl rfl (by kernel_rfl) (by decide) (fun K hK => ?_)
     refine goes_ Try.func46 (by kernel_rfl) rfl #[.agg #[.int .i64 x.f0, .int .i64 x.f1, .int .i64 x.f2, .int .i64 x.f3], .slice (some ad) y.length c0] (by rfl) rfl rfl (by (try simp only [List.map_toArray, List.map_cons, List.map_nil]); first | done | rfl) ?_
     with_reducible refine (impl_Term_fault.calls x.f0 x.f1 x.f2 x.f3 (some ad) c0 y c _ (Kd.C_below HCY.out HB.out) (by have := HY.out; omega) HF.out).mono ?_
     rintro e w6 ⟨rfl, hb⟩
     refine ⟨_, rfl, ?_⟩
     have n0_ := Z_ (bB_ a0.out hb)
     have n1_ := Z_ (lP_ HB.out hb)
     have n2_ := Z_ (own_map_below HO.out hb)
     clear a0 HB HO hb
     have a0 := n0_; have HB := n1_; have HO := n2_
     clear n0_ n1_ n2_
     refine hK.out _ _ ⟨(blk_cell a0.out 0).trans rfl, (blk_cell a0.out 1).trans rfl, (blk_cell a0.out 2).trans rfl, (blk_cell a0.out 3).trans rfl⟩ (fun hHeld => ?_)
     clear hK K
     refine norm_ (a' := ?_) ?_ ?_
     rotate_left
     ·show Act.put _ (some 22) _ = _
      simp only [Act.put, lA_, lZ_, lS_, i64_w, i32_w]
      rfl
     refine pure_ (i := 5) (N := some 6) (v := ?_) (a' := ?_) #[true, true, true, true, true, true] rfl rfl (by kernel_rfl) (fun _ _ _ h => h) (Or.inl ⟨by rfl, ?_⟩) ?_ ?_
     rotate_left
     ·intro w'
      go_simp
      with_reducible rfl
     rotate_left
     ·simp only [Act.put, lA_, lZ_, lS_, i64_w, i32_w]
      rfl
     refine done_ (by kernel_rfl) ?_
     have p0_ : w6.cell? ⟨g5, 0, none⟩ = some (.int .i64 x.f0) := (blk_cell a0.out 0).trans rfl; have p1_ : w6.cell? ⟨g5, 1, none⟩ = some (.int .i64 x.f1) := (blk_cell a0.out 1).trans rfl; have p2_ : w6.cell? ⟨g5, 2, none⟩ = some (.int .i64 x.f2) := (blk_cell a0.out 2).trans rfl; have p3_ : w6.cell? ⟨g5, 3, none⟩ = some (.int .i64 x.f3) := (blk_cell a0.out 3).trans rfl
     clear hcut
     by_cases hc0 : c = 0
     ·have hc1 : (c != 0) = false := by simpa using hc0
      have hc2 : (c == 0) = true := by simpa using hc0
      rw [if_pos hc0] at ht
      cases hq : y.any (eq4 x) with
      | true =>
       rw [hq, if_pos rfl] at ht
       go_wp2_with (first | (at_lookup; refine wpList_lookup_own_bool (H := Unit) _ rfl (.tmp 26) (.tmp 27) 89 rfl 76 4 term_keyed Try.underlying89 Try.underlying4 rfl B kk D rfl HO.out _ kl rfl HK.out ?_; intro c1 hat; have hc3 : c1 = y.any (eq4 x) := (by have := (HS.out x kl HK.out).symm.trans hat; injection this with this; injection this with this; exact this.symm); rw [hq] at hc3; subst hc3; clear hat))
       go_ret
       exact ⟨by rw [← ht]; rfl, HB.out⟩
      | false =>
       rw [hq, if_neg (by decide)] at ht
       go_wp2_with (first | (at_lookup; refine wpList_lookup_own_bool (H := Unit) _ rfl (.tmp 26) (.tmp 27) 89 rfl 76 4 term_keyed Try.underlying89 Try.underlying4 rfl B kk D rfl HO.out _ kl rfl HK.out ?_; intro c1 hat; have hc3 : c1 = y.any (eq4 x) := (by have := (HS.out x kl HK.out).symm.trans hat; injection this with this; injection this with this; exact this.symm); rw [hq] at hc3; subst hc3; clear hat) | (at_mapUpdate; refine wpList_mapUpdate_own (H := Unit) _ rfl (.tmp 29) (.tmp 30) (.const (.bool true)) 89 rfl 76 4 term_keyed Try.underlying89 (plainElem Try.prog 4) B kk D rfl HO.out (by show kk < 9223372036854775807; omega) _ _ kl rfl rfl HK.out (.lit (.bool true)) [] (plainElem_bool Try.underlying4 true) ?_; intro w7 ho7 hg7))
       go_roundg (l0.length - (kk + 1))
       case measure => omega
       case rel =>
        refine ⟨kk + 1, D.put kl (.lit (.bool true)), by omega, by omega, by go_num, ⟨by rw [HTK.out]; exact ht⟩, ⟨ho7⟩, ⟨HD.out.put _ _⟩, ⟨by rw [HTK.out]; exact seen_put HS.out HD.out HK.out⟩, ⟨pw_below_grown HB.out (some B) (below_size HB.out) hg7 (fun k hk => by injection hk with hk; rw [← hk]; exact GB.out)⟩⟩
     ·have hc1 : (c != 0) = true := by simpa using hc0
      have hc2 : (c == 0) = false := by simpa using hc0
      rw [if_neg hc0] at ht
      go_wp2_with fail
      go_ret
      exact ⟨by rw [ht]; rfl, HB.out⟩
    ·have hltd : decide ((kk : Int) < (l0.length : Int)) = false := decide_eq_false (by omega)
     obtain rfl : kk = l0.length := by omega
     have ht := HT.out
     rw [List.drop_length] at ht
     go_wp2_with fail
     go_ret
     exact ⟨by rw [← ht]; rfl, HB.out⟩
 ·rw [if_neg hwf] at h; cases h
end Go.Proofs.Ytbjnjjjhdjichaa.G
namespace Go.Proofs.Ytbjnjjjhdjichaa.G
open Go.RowKit Go.Proofs.YtbjnjjjhdjichaaW.PrintWords Go.Proofs.YtbjnjjjhdjichaaW.PrintLast Go.Proofs.YtbjnjjjhdjichaaW.PrintMore
attribute [local go_sem] max2_int min2_int max_two min_two max_three min_three max_four min_four   -- for this text's walks alone
set_option linter.unusedVariables false
set_option linter.unusedSimpArgs false
def impl_gatesOk.f (a0 : Int) : Option (Bool) := (impl_in.f a0 2 4).bind fun t316 => (some t316)
set_option maxHeartbeats 8000000 in
set_option maxRecDepth 100000 in
theorem impl_gatesOk.calls (a0 : Int) (r : Bool) (w : World) (h : impl_gatesOk.f a0 = some r) :
  Calls Try.prog 47 #[.int .i64 a0] w fun e w' => e = .returned (.bool r) ∧ Drawn0 w w' := by
 unfold impl_gatesOk.f at h
 have H := h
 clear h
 replace H := bS_ H
 obtain ⟨t316, A2, H⟩ := H
 obtain rfl := Option.some.inj H
 go_enter Try.func47, Try.ntmps47
 go_wp2_with (first | ((with_reducible refine gate_callee (f := 31) rfl ?_); refine goesA_ (some 4) rfl rfl Try.func31 (by kernel_rfl) rfl #[.int .i64 a0, .int .i64 2, .int .i64 4] rfl ?_; (with_reducible refine (impl_in.calls a0 2 4 t316 _ A2.out).mono ?_); rintro e w' ⟨rfl, ⟨nd, rfl⟩⟩; refine ⟨_, rfl, ?_⟩))
 go_ret
 exact ⟨by first | rfl | (simp; done) | (simp [*]; done), by repeat (first | exact Drawn0.refl _ | apply Drawn0.step)⟩
def impl_isName.f (a0 : Int) : Option (Bool) := (impl_in.f a0 0 9999).bind fun t318 => (some t318)
set_option maxHeartbeats 8000000 in
set_option maxRecDepth 100000 in
theorem impl_isName.calls (a0 : Int) (r : Bool) (w : World) (h : impl_isName.f a0 = some r) :
  Calls Try.prog 72 #[.int .i64 a0] w fun e w' => e = .returned (.bool r) ∧ Drawn0 w w' := by
 unfold impl_isName.f at h
 have H := h
 clear h
 replace H := bS_ H
 obtain ⟨t318, A2, H⟩ := H
 obtain rfl := Option.some.inj H
 go_enter Try.func72, Try.ntmps72
 go_wp2_with (first | ((with_reducible refine gate_callee (f := 31) rfl ?_); refine goesA_ (some 4) rfl rfl Try.func31 (by kernel_rfl) rfl #[.int .i64 a0, .int .i64 0, .int .i64 9999] rfl ?_; (with_reducible refine (impl_in.calls a0 0 9999 t318 _ A2.out).mono ?_); rintro e w' ⟨rfl, ⟨nd, rfl⟩⟩; refine ⟨_, rfl, ?_⟩))
 go_ret
 exact ⟨by first | rfl | (simp; done) | (simp [*]; done), by repeat (first | exact Drawn0.refl _ | apply Drawn0.step)⟩
def impl_Window_took.f (a0_0 a0_1 a1 : Int) : Option (Bool) := if 0 ≤ a1 then (some ((Go.bits .and .i64 (shr .i64 a0_1 a1) 1) == 1)) else (none)
set_option maxHeartbeats 8000000 in
set_option maxRecDepth 100000 in
theorem impl_Window_took.calls (a0_0 a0_1 a1 : Int) (r : Bool) (w : World) (h : impl_Window_took.f a0_0 a0_1 a1 = some r) :
  Calls Try.prog 80 #[.agg #[.int .i64 a0_0, .int .i64 a0_1], .int .i64 a1] w fun e w' => e = .returned (.bool r) ∧ Below w.heap.size w w' := by
 have hu81 := Try.underlying81
 have HB := Z_ (Below.refl w.heap.size w)
 unfold impl_Window_took.f at h
 have H := h
 clear h
 replace H := iN_ H
 obtain ⟨c3, H⟩ := H
 have c3b0 := eq_true c3
 have c3b1 : decide (0 ≤ a1) = true := decide_eq_true c3
 clear c3
 obtain ⟨ji4, hji4⟩ : ∃ j_ : Int, (shr .i64 a0_1 a1) = j_ := ⟨_, rfl⟩
 replace H : (some ((Go.bits .and .i64 (ji4) 1) == 1)) = some r := by first | (rw [hji4] at H; exact H) | (simp only [hji4] at H ⊢; exact H)
 have hji4_ : (a0_1 / 2 ^ min a1.toNat 64) = ji4 := hji4
 have hji4z : a1 ≤ 64 → (a0_1 / 2 ^ a1.toNat) = ji4 := shr_small hji4
 obtain rfl := Option.some.inj H
 go_enter Try.func80, Try.ntmps80
 go_wp2_with (first | ((with_reducible refine gD_ 2 rfl ?_); refine bx_ #[.int .i64 a0_0, .int .i64 a0_1] 81 ?_; intro gb319 hg w5 hbox hb; have BK319 := Z_ hbox; have GE319 := Z_ ((by rw [hg]; exact (below_size HB.out) : w.heap.size ≤ gb319)); replace HB := Z_ (lP_ HB.out hb); clear hb hbox hg; obtain ⟨_, _, _, _⟩ := bc2 BK319.out))
 go_ret
 exact ⟨by first | rfl | (simp [errW_none, errW_some] <;> rfl) | (simp only [← hji4]; first | rfl | (simp [errW_none, errW_some] <;> rfl)) | (simp [*, errW_none, errW_some] <;> rfl), Lb_⟩
mutual
def impl_WindowFault.j0 : Nat → Bool → Int → Int → Option (Int)
 | 0, _, _, _ => none
 | k + 1, x13, x321000, x321001 => if x13 = true then (some 3) else (if x321000 = 0 then (if x321001 = 0 then (if x321000 > 0 then ((impl_Window_took.f x321000 x321001 0).bind fun t323 => (impl_WindowFault.j1 k (!t323) x321000 x321001)) else (impl_WindowFault.j1 k false x321000 x321001)) else (impl_WindowFault.j1 k true x321000 x321001)) else (if x321000 > 0 then ((impl_Window_took.f x321000 x321001 0).bind fun t324 => (impl_WindowFault.j1 k (!t324) x321000 x321001)) else (impl_WindowFault.j1 k false x321000 x321001)))
def impl_WindowFault.j1 : Nat → Bool → Int → Int → Option (Int)
 | 0, _, _, _ => none
 | k + 1, x31, x321000, x321001 => if x31 = true then (some 1) else (impl_WindowFault.l0 k 0 x321000 x321001)
def impl_WindowFault.l0 : Nat → Int → Int → Int → Option (Int)
 | 0, _, _, _ => none
 | k + 1, x32, x321000, x321001 => if x32 < 32 then ((impl_Window_took.f x321000 x321001 x32).bind fun t325 => (if t325 = true then (if (wrap64 (x321000 - x32)) < 1 then (some 1) else (impl_WindowFault.l0 k (wrap64 (x32 + 1)) x321000 x321001)) else (impl_WindowFault.l0 k (wrap64 (x32 + 1)) x321000 x321001))) else (some 0)
end
def impl_WindowFault.f (k : Nat) (a0_0 a0_1 : Int) : Option (Int) := (impl_in.f a0_0 0 1099511627776).bind fun t321 => (if t321 = true then ((impl_in.f a0_1 0 4294967295).bind fun t322 => (impl_WindowFault.j0 k (!t322) a0_0 a0_1)) else (impl_WindowFault.j0 k true a0_0 a0_1))
set_option maxHeartbeats 8000000 in
set_option maxRecDepth 100000 in
theorem impl_WindowFault.calls (k : Nat) (a0_0 a0_1 r : Int) (w : World) (h : impl_WindowFault.f k a0_0 a0_1 = some r) :
  Calls Try.prog 73 #[.agg #[.int .i64 a0_0, .int .i64 a0_1]] w fun e w' => e = .returned (.int .i64 r) ∧ Below w.heap.size w w' := by
 have hu81 := Try.underlying81
 have HB := Z_ (Below.refl w.heap.size w)
 unfold impl_WindowFault.f at h
 have H := h
 clear h
 have a4 := Z_ H
 clear H
 go_enter Try.func73, Try.ntmps73
 go_upto_region 1 with (first | ((with_reducible refine gD_ 1 rfl ?_); refine bx_ #[.int .i64 a0_0, .int .i64 a0_1] 81 ?_; intro a2 hg w3 hbox hb; have a0 := Z_ hbox; have ad := Z_ ((by rw [hg]; exact (below_size Lb_) : w.heap.size ≤ a2)); have a1 := Z_ ((by rw [hg]; exact (below_size Lb_) : w.heap.size ≤ a2)); replace HB := Z_ (lP_ Lb_ hb); clear hb hbox hg))
 (try simp only [Act.put, lA_, lZ_, lS_])
 go_cut [13] (fun v13 wc => ∃ (kq : Nat) (x13_1 : Bool), v13 = .bool x13_1 ∧ Aside0 (impl_WindowFault.j0 kq x13_1 a0_0 a0_1 = some r) ∧ Aside0 (kq ≤ k) ∧ Aside0 (wc.heap[a2]? = some (.cells #[.int .i64 a0_0, .int .i64 a0_1] 81 (0, 0))) ∧ Aside0 (Below w.heap.size w wc))
 case first =>
  have H := a4.out
  clear a4
  replace H := bS_ H
  obtain ⟨t321, A4, H⟩ := H
  replace H := iB_ H
  obtain ⟨rfl, H⟩ | ⟨rfl, H⟩ := H
  replace H := bS_ H
  obtain ⟨t322, A6, H⟩ := H
  all_goals
   have H' := Z_ H
   clear H
   obtain ⟨_, _, _, _⟩ := bc2 a0.out
   go_wp2_with (first | ((with_reducible refine gate_callee (f := 31) rfl ?_); refine goesA_ (some 6) rfl rfl Try.func31 (by kernel_rfl) rfl #[.int .i64 a0_0, .int .i64 0, .int .i64 1099511627776] rfl ?_; (with_reducible refine (impl_in.calls a0_0 0 1099511627776 _ _ A4.out).mono ?_); rintro e w' ⟨rfl, ⟨nd, rfl⟩⟩; refine ⟨_, rfl, ?_⟩) | (go_at_call 31; (with_reducible refine (impl_in.calls a0_1 0 4294967295 t322 _ A6.out).mono ?_); rintro e w' ⟨rfl, ⟨nd, rfl⟩⟩))
   go_meet
   case rel => exact ⟨_, _, Sr_, H', Ol_, ⟨Bk_ a0⟩, ⟨Lb_⟩⟩
 case rest =>
  clear a4
  try clear p2
  try clear c3
  try clear c5
  try clear c7
  obtain ⟨kq, x13_1, rfl, HA, HJ1, a0, HB⟩ := hcut
  cases kq with
  | zero => exact absurd HA.out (by simp [impl_WindowFault.j0])
  | succ kj1 =>
   have H := HA.out
   clear HA
   simp only [impl_WindowFault.j0] at H
   replace H := iB_ H
   obtain ⟨rfl, H⟩ | ⟨rfl, H⟩ := H
   ·obtain rfl := Option.some.inj H
    go_wp2
    go_ret
    exact ⟨Er_, Lb_⟩
   have a3 := Z_ H
   clear H
   go_upto_region 3 with (fail)
   go_cut [31] (fun v31 wc => ∃ (kq : Nat) (x31_9 : Bool), v31 = .bool x31_9 ∧ Aside0 (impl_WindowFault.j1 kq x31_9 a0_0 a0_1 = some r) ∧ Aside0 (kq ≤ kj1) ∧ Aside0 (wc.heap[a2]? = some (.cells #[.int .i64 a0_0, .int .i64 a0_1] 81 (0, 0))) ∧ Aside0 (Below w.heap.size w wc))
   case first =>
    have H := a3.out
    clear a3
    replace H := iE_ H
    obtain ⟨c11b0, c11b1, H⟩ | ⟨c11b0, c11b1, H⟩ := H
    rotate_left
    focus
     (first | rw [c11b0] | (simp only [i64_w, i32_w]; rw [c11b0]) | skip)
     replace H := iD_ H
     obtain ⟨c19b0, H⟩ | ⟨c19b0, H⟩ := H
     rotate_left
     focus replace c19b0 : decide (0 < a0_0) = false := c19b0
     rotate_right
     replace c19b0 : decide (0 < a0_0) = true := c19b0
     replace H := bS_ H
     obtain ⟨t324, ac, H⟩ := H
    rotate_right
    (first | rw [c11b0] | (simp only [i64_w, i32_w]; rw [c11b0]) | skip)
    replace H := iE_ H
    obtain ⟨c12b0, c12b1, H⟩ | ⟨c12b0, c12b1, H⟩ := H
    replace H := iD_ H
    obtain ⟨c13b0, H⟩ | ⟨c13b0, H⟩ := H
    rotate_left
    focus replace c13b0 : decide (0 < a0_0) = false := c13b0
    rotate_right
    replace c13b0 : decide (0 < a0_0) = true := c13b0
    replace H := bS_ H
    obtain ⟨t323, ab, H⟩ := H
    all_goals
     have H' := Z_ H
     clear H
     obtain ⟨_, _, _, _⟩ := bc2 a0.out
     go_wp2_with (first | (go_at_call 80; (with_reducible refine (impl_Window_took.calls a0_0 a0_1 0 t323 _ ab.out).mono ?_); rintro e w16 ⟨rfl, hb⟩; replace a0 := Z_ (bB_ (g := a2) (o := .cells #[.int .i64 a0_0, .int .i64 a0_1] 81 (0, 0)) (Bk_ a0) hb); replace HB := Z_ (lP_ Lb_ hb); (try clear hb)) | (go_at_call 80; (with_reducible refine (impl_Window_took.calls a0_0 a0_1 0 t324 _ ac.out).mono ?_); rintro e w22 ⟨rfl, hb⟩; replace a0 := Z_ (bB_ (g := a2) (o := .cells #[.int .i64 a0_0, .int .i64 a0_1] 81 (0, 0)) (Bk_ a0) hb); replace HB := Z_ (lP_ Lb_ hb); (try clear hb)))
     go_meet
     case rel => exact ⟨_, _, Sr_, H', ⟨by have := HJ1.out; first | omega | exact Nat.le_refl _⟩, ⟨Bk_ a0⟩, ⟨Lb_⟩⟩
   case rest =>
    clear a3
    try clear c1
    try clear p2
    try clear c3
    try clear c5
    try clear c7
    try clear c9
    try clear c11
    try clear c11b0
    try clear c11b1
    try clear c12
    try clear c12b0
    try clear c12b1
    try clear c13
    try clear c13b0
    try clear c19
    try clear c19b0
    try clear p2
    obtain ⟨kq, x31_9, rfl, HA, HJ9, a0, HB⟩ := hcut
    cases kq with
    | zero => exact absurd HA.out (by simp [impl_WindowFault.j1])
    | succ kj9 =>
     have H := HA.out
     clear HA
     simp only [impl_WindowFault.j1] at H
     replace H := iB_ H
     obtain ⟨rfl, H⟩ | ⟨rfl, H⟩ := H
     ·obtain rfl := Option.some.inj H
      go_wp2
      go_ret
      exact ⟨Er_, Lb_⟩
     have H' := Z_ H
     clear H
     go_wp2
     go_loopg [32] kj9 (fun kq v32 w' => ∃ (x32_3 : Int), v32 = .int .i64 x32_3 ∧ Aside0 (impl_WindowFault.l0 kq x32_3 a0_0 a0_1 = some r) ∧ Aside0 (kq ≤ kj9) ∧ Aside0 (w'.heap[a2]? = some (.cells #[.int .i64 a0_0, .int .i64 a0_1] 81 (0, 0))) ∧ Aside0 (Below w.heap.size w w'))
     case atStart => exact ⟨(0), Sr_, H', ⟨Nat.le_refl _⟩, ⟨Bk_ a0⟩, ⟨Lb_⟩⟩
     case round =>
      clear H'
      try clear c1
      try clear c2
      try clear p2
      try clear c3
      try clear c5
      try clear c7
      try clear c9
      try clear c11
      try clear c11b0
      try clear c11b1
      try clear c12
      try clear c12b0
      try clear c12b1
      try clear c13
      try clear c13b0
      try clear c19
      try clear c19b0
      try clear c24
      try clear p2
      obtain ⟨x32_3, rfl, HA, HK3, a0, HB⟩ := hrel
      cases gk with
      | zero => exact absurd HA.out (by simp [impl_WindowFault.l0])
      | succ k3 =>
       have H := HA.out
       clear HA
       simp only [impl_WindowFault.l0] at H
       replace H := iD_ H
       obtain ⟨c25b0, H⟩ | ⟨c25b0, H⟩ := H
       rotate_left
       focus have g0_ := trivial
       rotate_right
       replace H := bS_ H
       obtain ⟨t325, a8, H⟩ := H
       replace H := iB_ H
       obtain ⟨rfl, H⟩ | ⟨rfl, H⟩ := H
       rotate_left
       focus have g1_ := trivial
       rotate_right
       replace H := iD_ H
       obtain ⟨c28b0, H⟩ | ⟨c28b0, H⟩ := H
       rotate_left
       focus have g1_ := trivial
       rotate_right
       have g0_ := trivial
       all_goals first
       | (clear g0_
          obtain rfl := Option.some.inj H
          try obtain ⟨_, _, _, _⟩ := bc2 a0.out
          go_wp2_with (first | ((with_reducible refine gate_callee (f := 80) rfl ?_); refine goesA_ (some 37) rfl rfl Try.func80 (by kernel_rfl) rfl #[.agg #[.int .i64 a0_0, .int .i64 a0_1], .int .i64 x32_3] rfl ?_; (with_reducible refine (impl_Window_took.calls a0_0 a0_1 x32_3 _ _ a8.out).mono ?_); rintro e w30 ⟨rfl, hb⟩; refine ⟨_, rfl, ?_⟩; replace a0 := Z_ (bB_ a0.out hb); replace HB := Z_ (lP_ HB.out hb); (try clear hb); obtain ⟨_, _, _, _⟩ := bc2 a0.out))
          go_ret
          exact ⟨Er_, Lb_⟩)
       | (clear g1_
          have H' := Z_ H
          clear H
          obtain ⟨_, _, _, _⟩ := bc2 a0.out
          go_wp2_with (first | ((with_reducible refine gate_callee (f := 80) rfl ?_); refine goesA_ (some 37) rfl rfl Try.func80 (by kernel_rfl) rfl #[.agg #[.int .i64 a0_0, .int .i64 a0_1], .int .i64 x32_3] rfl ?_; (with_reducible refine (impl_Window_took.calls a0_0 a0_1 x32_3 _ _ a8.out).mono ?_); rintro e w33 ⟨rfl, hb⟩; refine ⟨_, rfl, ?_⟩; replace a0 := Z_ (bB_ (g := a2) (o := .cells #[.int .i64 a0_0, .int .i64 a0_1] 81 (0, 0)) (Bk_ a0) hb); replace HB := Z_ (lP_ Lb_ hb); (try clear hb); obtain ⟨_, _, _, _⟩ := bc2 a0.out))
          go_roundg k3
          case measure => have := HJ1.out; have := HJ9.out; have := HK3.out; omega
          case rel => exact ⟨_, Sr_, H', ⟨by have := HJ1.out; have := HJ9.out; have := HK3.out; omega⟩, ⟨Bk_ a0⟩, ⟨Lb_⟩⟩)
end Go.Proofs.Ytbjnjjjhdjichaa.G
namespace Go.Proofs.Ytbjnjjjhdjichaa.G
open Go.RowKit Go.Proofs.YtbjnjjjhdjichaaW.PrintWords Go.Proofs.YtbjnjjjhdjichaaW.PrintLast Go.Proofs.YtbjnjjjhdjichaaW.PrintMore
attribute [local go_sem] max2_int min2_int max_two min_two max_three min_three max_four min_four   -- for this text's walks alone
set_option linter.unusedVariables false
set_option linter.unusedSimpArgs false
attribute [local go_sem high] eqA81
def IsS83 (w0 W : World) (g : Nat) (f0 f1 f2 f3 f4 f5 f6 f7 f8 f9 f10 f11 f12 f13 f14 f15 f16 f17 f18 f19 : Int) : Prop := W.heap[g]? = some (.cells #[.int .i64 f0, .int .i64 f1, .int .i64 f2, .int .i64 f3, .int .i64 f4, .int .i64 f5, .int .i64 f6, .int .i64 f7, .int .i64 f8, .int .i64 f9, .int .i64 f10, .int .i64 f11, .int .i64 f12, .int .i64 f13, .int .i64 f14, .int .i64 f15, .int .i64 f16, .int .i64 f17, .int .i64 f18, .int .i64 f19] 83 (0, 0)) ∧ w0.heap.size ≤ g
theorem IsS83.grown {w0 W : World} {g : Nat} {f0 : Int} {f1 : Int} {f2 : Int} {f3 : Int} {f4 : Int} {f5 : Int} {f6 : Int} {f7 : Int} {f8 : Int} {f9 : Int} {f10 : Int} {f11 : Int} {f12 : Int} {f13 : Int} {f14 : Int} {f15 : Int} {f16 : Int} {f17 : Int} {f18 : Int} {f19 : Int} {W1 : World} {row : Option Nat} (h : IsS83 w0 W g f0 f1 f2 f3 f4 f5 f6 f7 f8 f9 f10 f11 f12 f13 f14 f15 f16 f17 f18 f19) (hw : W.grownBy W1 row) (hne : some g ≠ row) : IsS83 w0 W1 g f0 f1 f2 f3 f4 f5 f6 f7 f8 f9 f10 f11 f12 f13 f14 f15 f16 f17 f18 f19 := by
 obtain ⟨hb, hg⟩ := h
 exact ⟨blk_grown hb hw hne, hg⟩
theorem IsS83.kept {w0 W : World} {g : Nat} {f0 : Int} {f1 : Int} {f2 : Int} {f3 : Int} {f4 : Int} {f5 : Int} {f6 : Int} {f7 : Int} {f8 : Int} {f9 : Int} {f10 : Int} {f11 : Int} {f12 : Int} {f13 : Int} {f14 : Int} {f15 : Int} {f16 : Int} {f17 : Int} {f18 : Int} {f19 : Int} {W1 : World} {S : Nat → Prop} (h : IsS83 w0 W g f0 f1 f2 f3 f4 f5 f6 f7 f8 f9 f10 f11 f12 f13 f14 f15 f16 f17 f18 f19) (hk : Kept W W1 S) (hne : ¬ S g) : IsS83 w0 W1 g f0 f1 f2 f3 f4 f5 f6 f7 f8 f9 f10 f11 f12 f13 f14 f15 f16 f17 f18 f19 := by
 obtain ⟨hb, hg⟩ := h
 exact ⟨blk_kept hb hk hne, hg⟩
theorem IsS83.below {w0 W : World} {g : Nat} {f0 : Int} {f1 : Int} {f2 : Int} {f3 : Int} {f4 : Int} {f5 : Int} {f6 : Int} {f7 : Int} {f8 : Int} {f9 : Int} {f10 : Int} {f11 : Int} {f12 : Int} {f13 : Int} {f14 : Int} {f15 : Int} {f16 : Int} {f17 : Int} {f18 : Int} {f19 : Int} {W1 : World} (h : IsS83 w0 W g f0 f1 f2 f3 f4 f5 f6 f7 f8 f9 f10 f11 f12 f13 f14 f15 f16 f17 f18 f19) (hw : Below W.heap.size W W1) : IsS83 w0 W1 g f0 f1 f2 f3 f4 f5 f6 f7 f8 f9 f10 f11 f12 f13 f14 f15 f16 f17 f18 f19 := h.grown (grown_of_below hw none) (by simp)
theorem IsS83.alloc {w0 W : World} {g : Nat} {f0 : Int} {f1 : Int} {f2 : Int} {f3 : Int} {f4 : Int} {f5 : Int} {f6 : Int} {f7 : Int} {f8 : Int} {f9 : Int} {f10 : Int} {f11 : Int} {f12 : Int} {f13 : Int} {f14 : Int} {f15 : Int} {f16 : Int} {f17 : Int} {f18 : Int} {f19 : Int} (h : IsS83 w0 W g f0 f1 f2 f3 f4 f5 f6 f7 f8 f9 f10 f11 f12 f13 f14 f15 f16 f17 f18 f19) (o : Obj) : IsS83 w0 (W.alloc o) g f0 f1 f2 f3 f4 f5 f6 f7 f8 f9 f10 f11 f12 f13 f14 f15 f16 f17 f18 f19 := h.below (lA1_ (Below.refl _ _) o)
theorem IsS83.drewN {w0 W : World} {g : Nat} {f0 : Int} {f1 : Int} {f2 : Int} {f3 : Int} {f4 : Int} {f5 : Int} {f6 : Int} {f7 : Int} {f8 : Int} {f9 : Int} {f10 : Int} {f11 : Int} {f12 : Int} {f13 : Int} {f14 : Int} {f15 : Int} {f16 : Int} {f17 : Int} {f18 : Int} {f19 : Int} (h : IsS83 w0 W g f0 f1 f2 f3 f4 f5 f6 f7 f8 f9 f10 f11 f12 f13 f14 f15 f16 f17 f18 f19) (m : Nat) : IsS83 w0 (W.drewN m) g f0 f1 f2 f3 f4 f5 f6 f7 f8 f9 f10 f11 f12 f13 f14 f15 f16 f17 f18 f19 := h
theorem IsS83.drew {w0 W : World} {g : Nat} {f0 : Int} {f1 : Int} {f2 : Int} {f3 : Int} {f4 : Int} {f5 : Int} {f6 : Int} {f7 : Int} {f8 : Int} {f9 : Int} {f10 : Int} {f11 : Int} {f12 : Int} {f13 : Int} {f14 : Int} {f15 : Int} {f16 : Int} {f17 : Int} {f18 : Int} {f19 : Int} (h : IsS83 w0 W g f0 f1 f2 f3 f4 f5 f6 f7 f8 f9 f10 f11 f12 f13 f14 f15 f16 f17 f18 f19) : IsS83 w0 W.drew g f0 f1 f2 f3 f4 f5 f6 f7 f8 f9 f10 f11 f12 f13 f14 f15 f16 f17 f18 f19 := h
theorem IsS83.at_ {w0 W : World} {g : Nat} {f0 : Int} {f1 : Int} {f2 : Int} {f3 : Int} {f4 : Int} {f5 : Int} {f6 : Int} {f7 : Int} {f8 : Int} {f9 : Int} {f10 : Int} {f11 : Int} {f12 : Int} {f13 : Int} {f14 : Int} {f15 : Int} {f16 : Int} {f17 : Int} {f18 : Int} {f19 : Int} {w' : World} {m : Nat} (hq : W.drewN m = w') (h : IsS83 w0 W g f0 f1 f2 f3 f4 f5 f6 f7 f8 f9 f10 f11 f12 f13 f14 f15 f16 f17 f18 f19) : IsS83 w0 w' g f0 f1 f2 f3 f4 f5 f6 f7 f8 f9 f10 f11 f12 f13 f14 f15 f16 f17 f18 f19 := by subst hq; exact IsS83.drewN h m
theorem IsS83.apart {w0 W : World} {g : Nat} {f0 : Int} {f1 : Int} {f2 : Int} {f3 : Int} {f4 : Int} {f5 : Int} {f6 : Int} {f7 : Int} {f8 : Int} {f9 : Int} {f10 : Int} {f11 : Int} {f12 : Int} {f13 : Int} {f14 : Int} {f15 : Int} {f16 : Int} {f17 : Int} {f18 : Int} {f19 : Int} {α : Type} {d : Kd α} {e : Nat} {base : Nat} {ok : Nat → Prop} {v : Value} {xs : List α} (h : IsS83 w0 W g f0 f1 f2 f3 f4 f5 f6 f7 f8 f9 f10 f11 f12 f13 f14 f15 f16 f17 f18 f19) (ho : d.R e W base ok v xs) (ht : ∀ q, q ∈ e :: d.E → q ≠ 83) : d.R e W base (fun k => ok k ∧ k ≠ g) v xs := by
 obtain ⟨hb, hg⟩ := h
 exact Kd.R_types ho hb ht
theorem IsS83.own_ne {w0 W : World} {g : Nat} {f0 : Int} {f1 : Int} {f2 : Int} {f3 : Int} {f4 : Int} {f5 : Int} {f6 : Int} {f7 : Int} {f8 : Int} {f9 : Int} {f10 : Int} {f11 : Int} {f12 : Int} {f13 : Int} {f14 : Int} {f15 : Int} {f16 : Int} {f17 : Int} {f18 : Int} {f19 : Int} {α : Type} {d : Kd α} {e : Nat} {base : Nat} {ok : Nat → Prop} {v : Value} {xs : List α} (h : IsS83 w0 W g f0 f1 f2 f3 f4 f5 f6 f7 f8 f9 f10 f11 f12 f13 f14 f15 f16 f17 f18 f19) (ho : d.R e W base ok v xs) (ht : e ≠ 83) : some g ≠ v.ownBlock := by
 obtain ⟨hb, hg⟩ := h
 exact Kd.R_ne ho hb ht
theorem IsS83.lt {w0 W : World} {g : Nat} {f0 : Int} {f1 : Int} {f2 : Int} {f3 : Int} {f4 : Int} {f5 : Int} {f6 : Int} {f7 : Int} {f8 : Int} {f9 : Int} {f10 : Int} {f11 : Int} {f12 : Int} {f13 : Int} {f14 : Int} {f15 : Int} {f16 : Int} {f17 : Int} {f18 : Int} {f19 : Int} (h : IsS83 w0 W g f0 f1 f2 f3 f4 f5 f6 f7 f8 f9 f10 f11 f12 f13 f14 f15 f16 f17 f18 f19) : g < W.heap.size := by
 obtain ⟨hb, hg⟩ := h
 exact blk_lt hb
theorem IsS83.ge {w0 W : World} {g : Nat} {f0 : Int} {f1 : Int} {f2 : Int} {f3 : Int} {f4 : Int} {f5 : Int} {f6 : Int} {f7 : Int} {f8 : Int} {f9 : Int} {f10 : Int} {f11 : Int} {f12 : Int} {f13 : Int} {f14 : Int} {f15 : Int} {f16 : Int} {f17 : Int} {f18 : Int} {f19 : Int} (h : IsS83 w0 W g f0 f1 f2 f3 f4 f5 f6 f7 f8 f9 f10 f11 f12 f13 f14 f15 f16 f17 f18 f19) : w0.heap.size ≤ g := by
 obtain ⟨hb, hg⟩ := h
 exact hg
theorem IsS83.set_0 {w0 W : World} {g : Nat} {f0 : Int} {f1 : Int} {f2 : Int} {f3 : Int} {f4 : Int} {f5 : Int} {f6 : Int} {f7 : Int} {f8 : Int} {f9 : Int} {f10 : Int} {f11 : Int} {f12 : Int} {f13 : Int} {f14 : Int} {f15 : Int} {f16 : Int} {f17 : Int} {f18 : Int} {f19 : Int} (h : IsS83 w0 W g f0 f1 f2 f3 f4 f5 f6 f7 f8 f9 f10 f11 f12 f13 f14 f15 f16 f17 f18 f19) (x : Int) : IsS83 w0 (W.setCell ⟨g, 0, none⟩ (.int .i64 x)) g x f1 f2 f3 f4 f5 f6 f7 f8 f9 f10 f11 f12 f13 f14 f15 f16 f17 f18 f19 := by
 obtain ⟨hb, hg⟩ := h
 exact ⟨by simpa using blk_set hb 0 (.int .i64 x), hg⟩
theorem IsS83.set_1 {w0 W : World} {g : Nat} {f0 : Int} {f1 : Int} {f2 : Int} {f3 : Int} {f4 : Int} {f5 : Int} {f6 : Int} {f7 : Int} {f8 : Int} {f9 : Int} {f10 : Int} {f11 : Int} {f12 : Int} {f13 : Int} {f14 : Int} {f15 : Int} {f16 : Int} {f17 : Int} {f18 : Int} {f19 : Int} (h : IsS83 w0 W g f0 f1 f2 f3 f4 f5 f6 f7 f8 f9 f10 f11 f12 f13 f14 f15 f16 f17 f18 f19) (x : Int) : IsS83 w0 (W.setCell ⟨g, 1, none⟩ (.int .i64 x)) g f0 x f2 f3 f4 f5 f6 f7 f8 f9 f10 f11 f12 f13 f14 f15 f16 f17 f18 f19 := by
 obtain ⟨hb, hg⟩ := h
 exact ⟨by simpa using blk_set hb 1 (.int .i64 x), hg⟩
theorem IsS83.set_2 {w0 W : World} {g : Nat} {f0 : Int} {f1 : Int} {f2 : Int} {f3 : Int} {f4 : Int} {f5 : Int} {f6 : Int} {f7 : Int} {f8 : Int} {f9 : Int} {f10 : Int} {f11 : Int} {f12 : Int} {f13 : Int} {f14 : Int} {f15 : Int} {f16 : Int} {f17 : Int} {f18 : Int} {f19 : Int} (h : IsS83 w0 W g f0 f1 f2 f3 f4 f5 f6 f7 f8 f9 f10 f11 f12 f13 f14 f15 f16 f17 f18 f19) (x : Int) : IsS83 w0 (W.setCell ⟨g, 2, none⟩ (.int .i64 x)) g f0 f1 x f3 f4 f5 f6 f7 f8 f9 f10 f11 f12 f13 f14 f15 f16 f17 f18 f19 := by
 obtain ⟨hb, hg⟩ := h
 exact ⟨by simpa using blk_set hb 2 (.int .i64 x), hg⟩
theorem IsS83.set_3 {w0 W : World} {g : Nat} {f0 : Int} {f1 : Int} {f2 : Int} {f3 : Int} {f4 : Int} {f5 : Int} {f6 : Int} {f7 : Int} {f8 : Int} {f9 : Int} {f10 : Int} {f11 : Int} {f12 : Int} {f13 : Int} {f14 : Int} {f15 : Int} {f16 : Int} {f17 : Int} {f18 : Int} {f19 : Int} (h : IsS83 w0 W g f0 f1 f2 f3 f4 f5 f6 f7 f8 f9 f10 f11 f12 f13 f14 f15 f16 f17 f18 f19) (x : Int) : IsS83 w0 (W.setCell ⟨g, 3, none⟩ (.int .i64 x)) g f0 f1 f2 x f4 f5 f6 f7 f8 f9 f10 f11 f12 f13 f14 f15 f16 f17 f18 f19 := by
 obtain ⟨hb, hg⟩ := h
 exact ⟨by simpa using blk_set hb 3 (.int .i64 x), hg⟩
theorem IsS83.set_4 {w0 W : World} {g : Nat} {f0 : Int} {f1 : Int} {f2 : Int} {f3 : Int} {f4 : Int} {f5 : Int} {f6 : Int} {f7 : Int} {f8 : Int} {f9 : Int} {f10 : Int} {f11 : Int} {f12 : Int} {f13 : Int} {f14 : Int} {f15 : Int} {f16 : Int} {f17 : Int} {f18 : Int} {f19 : Int} (h : IsS83 w0 W g f0 f1 f2 f3 f4 f5 f6 f7 f8 f9 f10 f11 f12 f13 f14 f15 f16 f17 f18 f19) (x : Int) : IsS83 w0 (W.setCell ⟨g, 4, none⟩ (.int .i64 x)) g f0 f1 f2 f3 x f5 f6 f7 f8 f9 f10 f11 f12 f13 f14 f15 f16 f17 f18 f19 := by
 obtain ⟨hb, hg⟩ := h
 exact ⟨by simpa using blk_set hb 4 (.int .i64 x), hg⟩
theorem IsS83.set_5 {w0 W : World} {g : Nat} {f0 : Int} {f1 : Int} {f2 : Int} {f3 : Int} {f4 : Int} {f5 : Int} {f6 : Int} {f7 : Int} {f8 : Int} {f9 : Int} {f10 : Int} {f11 : Int} {f12 : Int} {f13 : Int} {f14 : Int} {f15 : Int} {f16 : Int} {f17 : Int} {f18 : Int} {f19 : Int} (h : IsS83 w0 W g f0 f1 f2 f3 f4 f5 f6 f7 f8 f9 f10 f11 f12 f13 f14 f15 f16 f17 f18 f19) (x : Int) : IsS83 w0 (W.setCell ⟨g, 5, none⟩ (.int .i64 x)) g f0 f1 f2 f3 f4 x f6 f7 f8 f9 f10 f11 f12 f13 f14 f15 f16 f17 f18 f19 := by
 obtain ⟨hb, hg⟩ := h
 exact ⟨by simpa using blk_set hb 5 (.int .i64 x), hg⟩
theorem IsS83.set_6 {w0 W : World} {g : Nat} {f0 : Int} {f1 : Int} {f2 : Int} {f3 : Int} {f4 : Int} {f5 : Int} {f6 : Int} {f7 : Int} {f8 : Int} {f9 : Int} {f10 : Int} {f11 : Int} {f12 : Int} {f13 : Int} {f14 : Int} {f15 : Int} {f16 : Int} {f17 : Int} {f18 : Int} {f19 : Int} (h : IsS83 w0 W g f0 f1 f2 f3 f4 f5 f6 f7 f8 f9 f10 f11 f12 f13 f14 f15 f16 f17 f18 f19) (x : Int) : IsS83 w0 (W.setCell ⟨g, 6, none⟩ (.int .i64 x)) g f0 f1 f2 f3 f4 f5 x f7 f8 f9 f10 f11 f12 f13 f14 f15 f16 f17 f18 f19 := by
 obtain ⟨hb, hg⟩ := h
 exact ⟨by simpa using blk_set hb 6 (.int .i64 x), hg⟩
theorem IsS83.set_7 {w0 W : World} {g : Nat} {f0 : Int} {f1 : Int} {f2 : Int} {f3 : Int} {f4 : Int} {f5 : Int} {f6 : Int} {f7 : Int} {f8 : Int} {f9 : Int} {f10 : Int} {f11 : Int} {f12 : Int} {f13 : Int} {f14 : Int} {f15 : Int} {f16 : Int} {f17 : Int} {f18 : Int} {f19 : Int} (h : IsS83 w0 W g f0 f1 f2 f3 f4 f5 f6 f7 f8 f9 f10 f11 f12 f13 f14 f15 f16 f17 f18 f19) (x : Int) : IsS83 w0 (W.setCell ⟨g, 7, none⟩ (.int .i64 x)) g f0 f1 f2 f3 f4 f5 f6 x f8 f9 f10 f11 f12 f13 f14 f15 f16 f17 f18 f19 := by
 obtain ⟨hb, hg⟩ := h
 exact ⟨by simpa using blk_set hb 7 (.int .i64 x), hg⟩
theorem IsS83.set_8 {w0 W : World} {g : Nat} {f0 : Int} {f1 : Int} {f2 : Int} {f3 : Int} {f4 : Int} {f5 : Int} {f6 : Int} {f7 : Int} {f8 : Int} {f9 : Int} {f10 : Int} {f11 : Int} {f12 : Int} {f13 : Int} {f14 : Int} {f15 : Int} {f16 : Int} {f17 : Int} {f18 : Int} {f19 : Int} (h : IsS83 w0 W g f0 f1 f2 f3 f4 f5 f6 f7 f8 f9 f10 f11 f12 f13 f14 f15 f16 f17 f18 f19) (x : Int) : IsS83 w0 (W.setCell ⟨g, 8, none⟩ (.int .i64 x)) g f0 f1 f2 f3 f4 f5 f6 f7 x f9 f10 f11 f12 f13 f14 f15 f16 f17 f18 f19 := by
 obtain ⟨hb, hg⟩ := h
 exact ⟨by simpa using blk_set hb 8 (.int .i64 x), hg⟩
theorem IsS83.set_9 {w0 W : World} {g : Nat} {f0 : Int} {f1 : Int} {f2 : Int} {f3 : Int} {f4 : Int} {f5 : Int} {f6 : Int} {f7 : Int} {f8 : Int} {f9 : Int} {f10 : Int} {f11 : Int} {f12 : Int} {f13 : Int} {f14 : Int} {f15 : Int} {f16 : Int} {f17 : Int} {f18 : Int} {f19 : Int} (h : IsS83 w0 W g f0 f1 f2 f3 f4 f5 f6 f7 f8 f9 f10 f11 f12 f13 f14 f15 f16 f17 f18 f19) (x : Int) : IsS83 w0 (W.setCell ⟨g, 9, none⟩ (.int .i64 x)) g f0 f1 f2 f3 f4 f5 f6 f7 f8 x f10 f11 f12 f13 f14 f15 f16 f17 f18 f19 := by
 obtain ⟨hb, hg⟩ := h
 exact ⟨by simpa using blk_set hb 9 (.int .i64 x), hg⟩
theorem IsS83.set_10 {w0 W : World} {g : Nat} {f0 : Int} {f1 : Int} {f2 : Int} {f3 : Int} {f4 : Int} {f5 : Int} {f6 : Int} {f7 : Int} {f8 : Int} {f9 : Int} {f10 : Int} {f11 : Int} {f12 : Int} {f13 : Int} {f14 : Int} {f15 : Int} {f16 : Int} {f17 : Int} {f18 : Int} {f19 : Int} (h : IsS83 w0 W g f0 f1 f2 f3 f4 f5 f6 f7 f8 f9 f10 f11 f12 f13 f14 f15 f16 f17 f18 f19) (x : Int) : IsS83 w0 (W.setCell ⟨g, 10, none⟩ (.int .i64 x)) g f0 f1 f2 f3 f4 f5 f6 f7 f8 f9 x f11 f12 f13 f14 f15 f16 f17 f18 f19 := by
 obtain ⟨hb, hg⟩ := h
 exact ⟨by simpa using blk_set hb 10 (.int .i64 x), hg⟩
theorem IsS83.set_11 {w0 W : World} {g : Nat} {f0 : Int} {f1 : Int} {f2 : Int} {f3 : Int} {f4 : Int} {f5 : Int} {f6 : Int} {f7 : Int} {f8 : Int} {f9 : Int} {f10 : Int} {f11 : Int} {f12 : Int} {f13 : Int} {f14 : Int} {f15 : Int} {f16 : Int} {f17 : Int} {f18 : Int} {f19 : Int} (h : IsS83 w0 W g f0 f1 f2 f3 f4 f5 f6 f7 f8 f9 f10 f11 f12 f13 f14 f15 f16 f17 f18 f19) (x : Int) : IsS83 w0 (W.setCell ⟨g, 11, none⟩ (.int .i64 x)) g f0 f1 f2 f3 f4 f5 f6 f7 f8 f9 f10 x f12 f13 f14 f15 f16 f17 f18 f19 := by
 obtain ⟨hb, hg⟩ := h
 exact ⟨by simpa using blk_set hb 11 (.int .i64 x), hg⟩
theorem IsS83.set_12 {w0 W : World} {g : Nat} {f0 : Int} {f1 : Int} {f2 : Int} {f3 : Int} {f4 : Int} {f5 : Int} {f6 : Int} {f7 : Int} {f8 : Int} {f9 : Int} {f10 : Int} {f11 : Int} {f12 : Int} {f13 : Int} {f14 : Int} {f15 : Int} {f16 : Int} {f17 : Int} {f18 : Int} {f19 : Int} (h : IsS83 w0 W g f0 f1 f2 f3 f4 f5 f6 f7 f8 f9 f10 f11 f12 f13 f14 f15 f16 f17 f18 f19) (x : Int) : IsS83 w0 (W.setCell ⟨g, 12, none⟩ (.int .i64 x)) g f0 f1 f2 f3 f4 f5 f6 f7 f8 f9 f10 f11 x f13 f14 f15 f16 f17 f18 f19 := by
 obtain ⟨hb, hg⟩ := h
 exact ⟨by simpa using blk_set hb 12 (.int .i64 x), hg⟩
theorem IsS83.set_13 {w0 W : World} {g : Nat} {f0 : Int} {f1 : Int} {f2 : Int} {f3 : Int} {f4 : Int} {f5 : Int} {f6 : Int} {f7 : Int} {f8 : Int} {f9 : Int} {f10 : Int} {f11 : Int} {f12 : Int} {f13 : Int} {f14 : Int} {f15 : Int} {f16 : Int} {f17 : Int} {f18 : Int} {f19 : Int} (h : IsS83 w0 W g f0 f1 f2 f3 f4 f5 f6 f7 f8 f9 f10 f11 f12 f13 f14 f15 f16 f17 f18 f19) (x : Int) : IsS83 w0 (W.setCell ⟨g, 13, none⟩ (.int .i64 x)) g f0 f1 f2 f3 f4 f5 f6 f7 f8 f9 f10 f11 f12 x f14 f15 f16 f17 f18 f19 := by
 obtain ⟨hb, hg⟩ := h
 exact ⟨by simpa using blk_set hb 13 (.int .i64 x), hg⟩
theorem IsS83.set_14 {w0 W : World} {g : Nat} {f0 : Int} {f1 : Int} {f2 : Int} {f3 : Int} {f4 : Int} {f5 : Int} {f6 : Int} {f7 : Int} {f8 : Int} {f9 : Int} {f10 : Int} {f11 : Int} {f12 : Int} {f13 : Int} {f14 : Int} {f15 : Int} {f16 : Int} {f17 : Int} {f18 : Int} {f19 : Int} (h : IsS83 w0 W g f0 f1 f2 f3 f4 f5 f6 f7 f8 f9 f10 f11 f12 f13 f14 f15 f16 f17 f18 f19) (x : Int) : IsS83 w0 (W.setCell ⟨g, 14, none⟩ (.int .i64 x)) g f0 f1 f2 f3 f4 f5 f6 f7 f8 f9 f10 f11 f12 f13 x f15 f16 f17 f18 f19 := by
 obtain ⟨hb, hg⟩ := h
 exact ⟨by simpa using blk_set hb 14 (.int .i64 x), hg⟩
theorem IsS83.set_15 {w0 W : World} {g : Nat} {f0 : Int} {f1 : Int} {f2 : Int} {f3 : Int} {f4 : Int} {f5 : Int} {f6 : Int} {f7 : Int} {f8 : Int} {f9 : Int} {f10 : Int} {f11 : Int} {f12 : Int} {f13 : Int} {f14 : Int} {f15 : Int} {f16 : Int} {f17 : Int} {f18 : Int} {f19 : Int} (h : IsS83 w0 W g f0 f1 f2 f3 f4 f5 f6 f7 f8 f9 f10 f11 f12 f13 f14 f15 f16 f17 f18 f19) (x : Int) : IsS83 w0 (W.setCell ⟨g, 15, none⟩ (.int .i64 x)) g f0 f1 f2 f3 f4 f5 f6 f7 f8 f9 f10 f11 f12 f13 f14 x f16 f17 f18 f19 := by
 obtain ⟨hb, hg⟩ := h
 exact ⟨by simpa using blk_set hb 15 (.int .i64 x), hg⟩
theorem IsS83.set_16 {w0 W : World} {g : Nat} {f0 : Int} {f1 : Int} {f2 : Int} {f3 : Int} {f4 : Int} {f5 : Int} {f6 : Int} {f7 : Int} {f8 : Int} {f9 : Int} {f10 : Int} {f11 : Int} {f12 : Int} {f13 : Int} {f14 : Int} {f15 : Int} {f16 : Int} {f17 : Int} {f18 : Int} {f19 : Int} (h : IsS83 w0 W g f0 f1 f2 f3 f4 f5 f6 f7 f8 f9 f10 f11 f12 f13 f14 f15 f16 f17 f18 f19) (x : Int) : IsS83 w0 (W.setCell ⟨g, 16, none⟩ (.int .i64 x)) g f0 f1 f2 f3 f4 f5 f6 f7 f8 f9 f10 f11 f12 f13 f14 f15 x f17 f18 f19 := by
 obtain ⟨hb, hg⟩ := h
 exact ⟨by simpa using blk_set hb 16 (.int .i64 x), hg⟩
theorem IsS83.set_17 {w0 W : World} {g : Nat} {f0 : Int} {f1 : Int} {f2 : Int} {f3 : Int} {f4 : Int} {f5 : Int} {f6 : Int} {f7 : Int} {f8 : Int} {f9 : Int} {f10 : Int} {f11 : Int} {f12 : Int} {f13 : Int} {f14 : Int} {f15 : Int} {f16 : Int} {f17 : Int} {f18 : Int} {f19 : Int} (h : IsS83 w0 W g f0 f1 f2 f3 f4 f5 f6 f7 f8 f9 f10 f11 f12 f13 f14 f15 f16 f17 f18 f19) (x : Int) : IsS83 w0 (W.setCell ⟨g, 17, none⟩ (.int .i64 x)) g f0 f1 f2 f3 f4 f5 f6 f7 f8 f9 f10 f11 f12 f13 f14 f15 f16 x f18 f19 := by
 obtain ⟨hb, hg⟩ := h
 exact ⟨by simpa using blk_set hb 17 (.int .i64 x), hg⟩
theorem IsS83.set_18 {w0 W : World} {g : Nat} {f0 : Int} {f1 : Int} {f2 : Int} {f3 : Int} {f4 : Int} {f5 : Int} {f6 : Int} {f7 : Int} {f8 : Int} {f9 : Int} {f10 : Int} {f11 : Int} {f12 : Int} {f13 : Int} {f14 : Int} {f15 : Int} {f16 : Int} {f17 : Int} {f18 : Int} {f19 : Int} (h : IsS83 w0 W g f0 f1 f2 f3 f4 f5 f6 f7 f8 f9 f10 f11 f12 f13 f14 f15 f16 f17 f18 f19) (x : Int) : IsS83 w0 (W.setCell ⟨g, 18, none⟩ (.int .i64 x)) g f0 f1 f2 f3 f4 f5 f6 f7 f8 f9 f10 f11 f12 f13 f14 f15 f16 f17 x f19 := by
 obtain ⟨hb, hg⟩ := h
 exact ⟨by simpa using blk_set hb 18 (.int .i64 x), hg⟩
theorem IsS83.set_19 {w0 W : World} {g : Nat} {f0 : Int} {f1 : Int} {f2 : Int} {f3 : Int} {f4 : Int} {f5 : Int} {f6 : Int} {f7 : Int} {f8 : Int} {f9 : Int} {f10 : Int} {f11 : Int} {f12 : Int} {f13 : Int} {f14 : Int} {f15 : Int} {f16 : Int} {f17 : Int} {f18 : Int} {f19 : Int} (h : IsS83 w0 W g f0 f1 f2 f3 f4 f5 f6 f7 f8 f9 f10 f11 f12 f13 f14 f15 f16 f17 f18 f19) (x : Int) : IsS83 w0 (W.setCell ⟨g, 19, none⟩ (.int .i64 x)) g f0 f1 f2 f3 f4 f5 f6 f7 f8 f9 f10 f11 f12 f13 f14 f15 f16 f17 f18 x := by
 obtain ⟨hb, hg⟩ := h
 exact ⟨by simpa using blk_set hb 19 (.int .i64 x), hg⟩
theorem IsS83.new (w0 W : World) (f0 f1 f2 f3 f4 f5 f6 f7 f8 f9 f10 f11 f12 f13 f14 f15 f16 f17 f18 f19 : Int) (hB : Below w0.heap.size w0 W) : IsS83 w0 (W.alloc (.cells #[.int .i64 f0, .int .i64 f1, .int .i64 f2, .int .i64 f3, .int .i64 f4, .int .i64 f5, .int .i64 f6, .int .i64 f7, .int .i64 f8, .int .i64 f9, .int .i64 f10, .int .i64 f11, .int .i64 f12, .int .i64 f13, .int .i64 f14, .int .i64 f15, .int .i64 f16, .int .i64 f17, .int .i64 f18, .int .i64 f19] 83)) W.heap.size f0 f1 f2 f3 f4 f5 f6 f7 f8 f9 f10 f11 f12 f13 f14 f15 f16 f17 f18 f19 := ⟨by simpa using heap_alloc_new W _, hB.size⟩
mutual
def impl_Talk_formOk.j0 : Nat → Bool → Bool → Int → Int → Int → Int → Int → Int → Int → Int → Int → Int → Int → Int → Int → Int → Int → Int → Int → Int → Int → Int → Option (Bool × Int × Int × Int × Int × Int × Int × Int × Int × Int × Int × Int × Int × Int × Int × Int × Int × Int × Int × Int × Int)
 | 0, _, _, _, _, _, _, _, _, _, _, _, _, _, _, _, _, _, _, _, _, _, _ => none
 | k + 1, x3, x9, x1000, x1001, x1002, x1003, x1004, x1005, x1006, x1007, x1008, x1009, x1010, x1011, x1012, x1013, x1014, x1015, x1016, x1017, x1018, x1019 => if x9 = true then (some (false, x1000, x1001, x1002, x1003, x1004, x1005, x1006, x1007, x1008, x1009, x1010, x1011, x1012, x1013, x1014, x1015, x1016, x1017, x1018, x1019)) else (if x1000 = 0 then (if x1001 = 1 then (impl_Talk_formOk.j1 k x3 true x1000 x1001 x1002 x1003 x1004 x1005 x1006 x1007 x1008 x1009 x1010 x1011 x1012 x1013 x1014 x1015 x1016 x1017 x1018 x1019) else (impl_Talk_formOk.j1 k x3 x3 x1000 x1001 x1002 x1003 x1004 x1005 x1006 x1007 x1008 x1009 x1010 x1011 x1012 x1013 x1014 x1015 x1016 x1017 x1018 x1019)) else (impl_Talk_formOk.j1 k x3 false x1000 x1001 x1002 x1003 x1004 x1005 x1006 x1007 x1008 x1009 x1010 x1011 x1012 x1013 x1014 x1015 x1016 x1017 x1018 x1019))
def impl_Talk_formOk.j1 : Nat → Bool → Bool → Int → Int → Int → Int → Int → Int → Int → Int → Int → Int → Int → Int → Int → Int → Int → Int → Int → Int → Int → Int → Option (Bool × Int × Int × Int × Int × Int × Int × Int × Int × Int × Int × Int × Int × Int × Int × Int × Int × Int × Int × Int × Int)
 | 0, _, _, _, _, _, _, _, _, _, _, _, _, _, _, _, _, _, _, _, _, _, _ => none
 | k + 1, x3, x22, x1000, x1001, x1002, x1003, x1004, x1005, x1006, x1007, x1008, x1009, x1010, x1011, x1012, x1013, x1014, x1015, x1016, x1017, x1018, x1019 => if x22 = true then (some (false, x1000, x1001, x1002, x1003, x1004, x1005, x1006, x1007, x1008, x1009, x1010, x1011, x1012, x1013, x1014, x1015, x1016, x1017, x1018, x1019)) else (if x1000 = 0 then (if x3 = true then (some (true, x1000, x1001, x1002, x1003, x1004, x1005, x1006, x1007, x1008, x1009, x1010, x1011, x1012, x1013, x1014, x1015, x1016, x1017, x1018, x1019)) else (if x1017 = 0 then (some ((x1018 == 0 && (x1019 == 0)), x1000, x1001, x1002, x1003, x1004, x1005, x1006, x1007, x1008, x1009, x1010, x1011, x1012, x1013, x1014, x1015, x1016, x1017, x1018, x1019)) else (some (false, x1000, x1001, x1002, x1003, x1004, x1005, x1006, x1007, x1008, x1009, x1010, x1011, x1012, x1013, x1014, x1015, x1016, x1017, x1018, x1019)))) else (if x1001 = 2 then (if x3 = true then (some (true, x1000, x1001, x1002, x1003, x1004, x1005, x1006, x1007, x1008, x1009, x1010, x1011, x1012, x1013, x1014, x1015, x1016, x1017, x1018, x1019)) else (some (false, x1000, x1001, x1002, x1003, x1004, x1005, x1006, x1007, x1008, x1009, x1010, x1011, x1012, x1013, x1014, x1015, x1016, x1017, x1018, x1019))) else (if x3 = true then (some (true, x1000, x1001, x1002, x1003, x1004, x1005, x1006, x1007, x1008, x1009, x1010, x1011, x1012, x1013, x1014, x1015, x1016, x1017, x1018, x1019)) else (if x1017 = 0 then (some ((x1018 == 0 && (x1019 == 0)), x1000, x1001, x1002, x1003, x1004, x1005, x1006, x1007, x1008, x1009, x1010, x1011, x1012, x1013, x1014, x1015, x1016, x1017, x1018, x1019)) else (some (false, x1000, x1001, x1002, x1003, x1004, x1005, x1006, x1007, x1008, x1009, x1010, x1011, x1012, x1013, x1014, x1015, x1016, x1017, x1018, x1019))))))
end
def impl_Talk_formOk.f (k : Nat) (s0_0 s0_1 s0_2 s0_3 s0_4 s0_5 s0_6 s0_7 s0_8 s0_9 s0_10 s0_11 s0_12 s0_13 s0_14 s0_15 s0_16 s0_17 s0_18 s0_19 : Int) : Option (Bool × Int × Int × Int × Int × Int × Int × Int × Int × Int × Int × Int × Int × Int × Int × Int × Int × Int × Int × Int × Int) := if s0_1 = 2 then (impl_Talk_formOk.j0 k (s0_2 == 3) (s0_2 == 1) s0_0 s0_1 s0_2 s0_3 s0_4 s0_5 s0_6 s0_7 s0_8 s0_9 s0_10 s0_11 s0_12 s0_13 s0_14 s0_15 s0_16 s0_17 s0_18 s0_19) else (impl_Talk_formOk.j0 k (s0_2 == 3) false s0_0 s0_1 s0_2 s0_3 s0_4 s0_5 s0_6 s0_7 s0_8 s0_9 s0_10 s0_11 s0_12 s0_13 s0_14 s0_15 s0_16 s0_17 s0_18 s0_19)
set_option maxHeartbeats 8000000 in
set_option maxRecDepth 100000 in
theorem impl_Talk_formOk.calls (k g : Nat) (s0_0 s0_1 s0_2 s0_3 s0_4 s0_5 s0_6 s0_7 s0_8 s0_9 s0_10 s0_11 s0_12 s0_13 s0_14 s0_15 s0_16 s0_17 s0_18 s0_19 : Int) (r1 : Bool) (r2 r3 r4 r5 r6 r7 r8 r9 r10 r11 r12 r13 r14 r15 r16 r17 r18 r19 r20 r21 : Int) (w0 w : World) (hI : IsS83 w0 w g s0_0 s0_1 s0_2 s0_3 s0_4 s0_5 s0_6 s0_7 s0_8 s0_9 s0_10 s0_11 s0_12 s0_13 s0_14 s0_15 s0_16 s0_17 s0_18 s0_19) (hB : Below w0.heap.size w0 w) (h : impl_Talk_formOk.f k s0_0 s0_1 s0_2 s0_3 s0_4 s0_5 s0_6 s0_7 s0_8 s0_9 s0_10 s0_11 s0_12 s0_13 s0_14 s0_15 s0_16 s0_17 s0_18 s0_19 = some (r1, r2, r3, r4, r5, r6, r7, r8, r9, r10, r11, r12, r13, r14, r15, r16, r17, r18, r19, r20, r21)) :
  Calls Try.prog 74 #[.pointer (some ⟨g, 0, none⟩)] w fun e w' => e = .returned (.bool r1) ∧ IsS83 w0 w' g r2 r3 r4 r5 r6 r7 r8 r9 r10 r11 r12 r13 r14 r15 r16 r17 r18 r19 r20 r21 ∧ Below w0.heap.size w0 w' ∧ KeepBut w w' g none := by
 have hu81 := Try.underlying81
 have HI0 := Z_ hI
 have HK := Z_ (KeepBut.refl w g none)
 have HL := Z_ hB.size
 clear hI
 have HW0 := Z_ hB.size
 have HB := Z_ hB
 clear hB
 unfold impl_Talk_formOk.f at h
 have H := h
 clear h
 have a0 := Z_ H
 clear H
 obtain ⟨_, _, _, _, _, _, _, _, _, _, _, _, _, _, _, _, _, _, _, _, _, _, _, _, _, _, _, _, _, _, _, _, _, _, _, _, _, _, _, _⟩ := bc20 HI0.out.1
 go_enter Try.func74, Try.ntmps74
 go_upto_region 2 with (fail)
 go_cut [9] (fun v9 wc => ∃ (kq : Nat) (x9_1 : Bool), v9 = .bool x9_1 ∧ Aside0 (impl_Talk_formOk.j0 kq (s0_2 == 3) x9_1 s0_0 s0_1 s0_2 s0_3 s0_4 s0_5 s0_6 s0_7 s0_8 s0_9 s0_10 s0_11 s0_12 s0_13 s0_14 s0_15 s0_16 s0_17 s0_18 s0_19 = some (r1, r2, r3, r4, r5, r6, r7, r8, r9, r10, r11, r12, r13, r14, r15, r16, r17, r18, r19, r20, r21)) ∧ Aside0 (kq ≤ k) ∧ Aside0 (IsS83 w0 wc g s0_0 s0_1 s0_2 s0_3 s0_4 s0_5 s0_6 s0_7 s0_8 s0_9 s0_10 s0_11 s0_12 s0_13 s0_14 s0_15 s0_16 s0_17 s0_18 s0_19) ∧ Aside0 (KeepBut w wc g none) ∧ Aside0 (Below w0.heap.size w0 wc))
 case first =>
  have H := a0.out
  clear a0
  replace H := iE_ H
  obtain ⟨c4b0, c4b1, H⟩ | ⟨c4b0, c4b1, H⟩ := H
  rotate_left
  ·(first | rw [c4b0] | (simp only [i64_w, i32_w]; rw [c4b0]) | skip)
   have H' := Z_ H
   clear H
   obtain ⟨_, _, _, _, _, _, _, _, _, _, _, _, _, _, _, _, _, _, _, _, _, _, _, _, _, _, _, _, _, _, _, _, _, _, _, _, _, _, _, _⟩ := bc20 HI0.out.1
   go_wp2
   go_meet
   case rel => exact ⟨_, (false), Sr_, H', Ol_, ⟨by repeat (first | (with_reducible first | exact HI0.out | apply IsS83.alloc | apply IsS83.drewN | apply IsS83.drew | apply IsS83.set_0 | apply IsS83.set_1 | apply IsS83.set_2 | apply IsS83.set_3 | apply IsS83.set_4 | apply IsS83.set_5 | apply IsS83.set_6 | apply IsS83.set_7 | apply IsS83.set_8 | apply IsS83.set_9 | apply IsS83.set_10 | apply IsS83.set_11 | apply IsS83.set_12 | apply IsS83.set_13 | apply IsS83.set_14 | apply IsS83.set_15 | apply IsS83.set_16 | apply IsS83.set_17 | apply IsS83.set_18 | apply IsS83.set_19) | exact HI0.out)⟩, ⟨by repeat (first | (with_reducible first | exact HK.out | apply KeepBut.set_ | apply kN_ | apply kD_ | apply kA_) | exact HK.out)⟩, ⟨by repeat (first | (with_reducible first | exact HB.out | apply lA1_ | apply lN_ | apply lD_ | refine lS1_ ?_ (IsS83.ge HI0.out)) | exact HB.out)⟩⟩
  rotate_right
  (first | rw [c4b0] | (simp only [i64_w, i32_w]; rw [c4b0]) | skip)
  have H' := Z_ H
  clear H
  obtain ⟨_, _, _, _, _, _, _, _, _, _, _, _, _, _, _, _, _, _, _, _, _, _, _, _, _, _, _, _, _, _, _, _, _, _, _, _, _, _, _, _⟩ := bc20 HI0.out.1
  go_wp2
  go_meet
  case rel => exact ⟨_, ((s0_2 == 1)), Sr_, H', Ol_, ⟨by repeat (first | (with_reducible first | exact HI0.out | apply IsS83.alloc | apply IsS83.drewN | apply IsS83.drew | apply IsS83.set_0 | apply IsS83.set_1 | apply IsS83.set_2 | apply IsS83.set_3 | apply IsS83.set_4 | apply IsS83.set_5 | apply IsS83.set_6 | apply IsS83.set_7 | apply IsS83.set_8 | apply IsS83.set_9 | apply IsS83.set_10 | apply IsS83.set_11 | apply IsS83.set_12 | apply IsS83.set_13 | apply IsS83.set_14 | apply IsS83.set_15 | apply IsS83.set_16 | apply IsS83.set_17 | apply IsS83.set_18 | apply IsS83.set_19) | exact HI0.out)⟩, ⟨by repeat (first | (with_reducible first | exact HK.out | apply KeepBut.set_ | apply kN_ | apply kD_ | apply kA_) | exact HK.out)⟩, ⟨by repeat (first | (with_reducible first | exact HB.out | apply lA1_ | apply lN_ | apply lD_ | refine lS1_ ?_ (IsS83.ge HI0.out)) | exact HB.out)⟩⟩
 case rest =>
  clear a0
  try clear p2
  try clear c4
  try clear c4b0
  try clear c4b1
  obtain ⟨kq, x9_1, rfl, HA, HJ1, HI0, HK, HB⟩ := hcut
  cases kq with
  | zero => exact absurd HA.out (by simp [impl_Talk_formOk.j0])
  | succ kj1 =>
   have H := HA.out
   clear HA
   simp only [impl_Talk_formOk.j0] at H
   replace H := iB_ H
   obtain ⟨rfl, H⟩ | ⟨rfl, H⟩ := H
   ·simp only [Option.some.injEq, Prod.mk.injEq] at H
    obtain ⟨rfl, rfl, rfl, rfl, rfl, rfl, rfl, rfl, rfl, rfl, rfl, rfl, rfl, rfl, rfl, rfl, rfl, rfl, rfl, rfl, rfl⟩ := H
    go_wp2
    go_ret
    exact ⟨Er_, by repeat (first | (with_reducible first | exact HI0.out | apply IsS83.alloc | apply IsS83.drewN | apply IsS83.drew | apply IsS83.set_0 | apply IsS83.set_1 | apply IsS83.set_2 | apply IsS83.set_3 | apply IsS83.set_4 | apply IsS83.set_5 | apply IsS83.set_6 | apply IsS83.set_7 | apply IsS83.set_8 | apply IsS83.set_9 | apply IsS83.set_10 | apply IsS83.set_11 | apply IsS83.set_12 | apply IsS83.set_13 | apply IsS83.set_14 | apply IsS83.set_15 | apply IsS83.set_16 | apply IsS83.set_17 | apply IsS83.set_18 | apply IsS83.set_19) | exact HI0.out), by repeat (first | (with_reducible first | exact HB.out | apply lA1_ | apply lN_ | apply lD_ | refine lS1_ ?_ (IsS83.ge HI0.out)) | exact HB.out), by repeat (first | (with_reducible first | exact HK.out | apply KeepBut.set_ | apply kN_ | apply kD_ | apply kA_) | exact HK.out)⟩
   have a1 := Z_ H
   clear H
   go_upto_region 4 with (fail)
   go_cut [22] (fun v22 wc => ∃ (kq : Nat) (x22_7 : Bool), v22 = .bool x22_7 ∧ Aside0 (impl_Talk_formOk.j1 kq (s0_2 == 3) x22_7 s0_0 s0_1 s0_2 s0_3 s0_4 s0_5 s0_6 s0_7 s0_8 s0_9 s0_10 s0_11 s0_12 s0_13 s0_14 s0_15 s0_16 s0_17 s0_18 s0_19 = some (r1, r2, r3, r4, r5, r6, r7, r8, r9, r10, r11, r12, r13, r14, r15, r16, r17, r18, r19, r20, r21)) ∧ Aside0 (kq ≤ kj1) ∧ Aside0 (IsS83 w0 wc g s0_0 s0_1 s0_2 s0_3 s0_4 s0_5 s0_6 s0_7 s0_8 s0_9 s0_10 s0_11 s0_12 s0_13 s0_14 s0_15 s0_16 s0_17 s0_18 s0_19) ∧ Aside0 (KeepBut w wc g none) ∧ Aside0 (Below w0.heap.size w0 wc))
   case first =>
    have H := a1.out
    clear a1
    replace H := iE_ H
    obtain ⟨c9b0, c9b1, H⟩ | ⟨c9b0, c9b1, H⟩ := H
    rotate_left
    ·(first | rw [c9b0] | (simp only [i64_w, i32_w]; rw [c9b0]) | skip)
     have H' := Z_ H
     clear H
     obtain ⟨_, _, _, _, _, _, _, _, _, _, _, _, _, _, _, _, _, _, _, _, _, _, _, _, _, _, _, _, _, _, _, _, _, _, _, _, _, _, _, _⟩ := bc20 HI0.out.1
     go_wp2
     go_meet
     case rel => exact ⟨_, (false), Sr_, H', ⟨by have := HJ1.out; first | omega | exact Nat.le_refl _⟩, ⟨by repeat (first | (with_reducible first | exact HI0.out | apply IsS83.alloc | apply IsS83.drewN | apply IsS83.drew | apply IsS83.set_0 | apply IsS83.set_1 | apply IsS83.set_2 | apply IsS83.set_3 | apply IsS83.set_4 | apply IsS83.set_5 | apply IsS83.set_6 | apply IsS83.set_7 | apply IsS83.set_8 | apply IsS83.set_9 | apply IsS83.set_10 | apply IsS83.set_11 | apply IsS83.set_12 | apply IsS83.set_13 | apply IsS83.set_14 | apply IsS83.set_15 | apply IsS83.set_16 | apply IsS83.set_17 | apply IsS83.set_18 | apply IsS83.set_19) | exact HI0.out)⟩, ⟨by repeat (first | (with_reducible first | exact HK.out | apply KeepBut.set_ | apply kN_ | apply kD_ | apply kA_) | exact HK.out)⟩, ⟨by repeat (first | (with_reducible first | exact HB.out | apply lA1_ | apply lN_ | apply lD_ | refine lS1_ ?_ (IsS83.ge HI0.out)) | exact HB.out)⟩⟩
    rotate_right
    (first | rw [c9b0] | (simp only [i64_w, i32_w]; rw [c9b0]) | skip)
    replace H := iE_ H
    obtain ⟨c10b0, c10b1, H⟩ | ⟨c10b0, c10b1, H⟩ := H
    rotate_left
    ·have H' := Z_ H
     clear H
     obtain ⟨_, _, _, _, _, _, _, _, _, _, _, _, _, _, _, _, _, _, _, _, _, _, _, _, _, _, _, _, _, _, _, _, _, _, _, _, _, _, _, _⟩ := bc20 HI0.out.1
     go_wp2
     go_meet
     case rel => exact ⟨_, ((s0_2 == 3)), Sr_, H', ⟨by have := HJ1.out; first | omega | exact Nat.le_refl _⟩, ⟨by repeat (first | (with_reducible first | exact HI0.out | apply IsS83.alloc | apply IsS83.drewN | apply IsS83.drew | apply IsS83.set_0 | apply IsS83.set_1 | apply IsS83.set_2 | apply IsS83.set_3 | apply IsS83.set_4 | apply IsS83.set_5 | apply IsS83.set_6 | apply IsS83.set_7 | apply IsS83.set_8 | apply IsS83.set_9 | apply IsS83.set_10 | apply IsS83.set_11 | apply IsS83.set_12 | apply IsS83.set_13 | apply IsS83.set_14 | apply IsS83.set_15 | apply IsS83.set_16 | apply IsS83.set_17 | apply IsS83.set_18 | apply IsS83.set_19) | exact HI0.out)⟩, ⟨by repeat (first | (with_reducible first | exact HK.out | apply KeepBut.set_ | apply kN_ | apply kD_ | apply kA_) | exact HK.out)⟩, ⟨by repeat (first | (with_reducible first | exact HB.out | apply lA1_ | apply lN_ | apply lD_ | refine lS1_ ?_ (IsS83.ge HI0.out)) | exact HB.out)⟩⟩
    rotate_right
    have H' := Z_ H
    clear H
    obtain ⟨_, _, _, _, _, _, _, _, _, _, _, _, _, _, _, _, _, _, _, _, _, _, _, _, _, _, _, _, _, _, _, _, _, _, _, _, _, _, _, _⟩ := bc20 HI0.out.1
    go_wp2
    go_meet
    case rel => exact ⟨_, (true), Sr_, H', ⟨by have := HJ1.out; first | omega | exact Nat.le_refl _⟩, ⟨by repeat (first | (with_reducible first | exact HI0.out | apply IsS83.alloc | apply IsS83.drewN | apply IsS83.drew | apply IsS83.set_0 | apply IsS83.set_1 | apply IsS83.set_2 | apply IsS83.set_3 | apply IsS83.set_4 | apply IsS83.set_5 | apply IsS83.set_6 | apply IsS83.set_7 | apply IsS83.set_8 | apply IsS83.set_9 | apply IsS83.set_10 | apply IsS83.set_11 | apply IsS83.set_12 | apply IsS83.set_13 | apply IsS83.set_14 | apply IsS83.set_15 | apply IsS83.set_16 | apply IsS83.set_17 | apply IsS83.set_18 | apply IsS83.set_19) | exact HI0.out)⟩, ⟨by repeat (first | (with_reducible first | exact HK.out | apply KeepBut.set_ | apply kN_ | apply kD_ | apply kA_) | exact HK.out)⟩, ⟨by repeat (first | (with_reducible first | exact HB.out | apply lA1_ | apply lN_ | apply lD_ | refine lS1_ ?_ (IsS83.ge HI0.out)) | exact HB.out)⟩⟩
   case rest =>
    clear a1
    try clear c1
    try clear p2
    try clear c4
    try clear c4b0
    try clear c4b1
    try clear c7
    try clear c9
    try clear c9b0
    try clear c9b1
    try clear c10
    try clear c10b0
    try clear c10b1
    try clear p2
    obtain ⟨kq, x22_7, rfl, HA, HJ7, HI0, HK, HB⟩ := hcut
    cases kq with
    | zero => exact absurd HA.out (by simp [impl_Talk_formOk.j1])
    | succ kj7 =>
     have H := HA.out
     clear HA
     simp only [impl_Talk_formOk.j1] at H
     replace H := iB_ H
     obtain ⟨rfl, H⟩ | ⟨rfl, H⟩ := H
     ·simp only [Option.some.injEq, Prod.mk.injEq] at H
      obtain ⟨rfl, rfl, rfl, rfl, rfl, rfl, rfl, rfl, rfl, rfl, rfl, rfl, rfl, rfl, rfl, rfl, rfl, rfl, rfl, rfl, rfl⟩ := H
      go_wp2
      go_ret
      exact ⟨Er_, by repeat (first | (with_reducible first | exact HI0.out | apply IsS83.alloc | apply IsS83.drewN | apply IsS83.drew | apply IsS83.set_0 | apply IsS83.set_1 | apply IsS83.set_2 | apply IsS83.set_3 | apply IsS83.set_4 | apply IsS83.set_5 | apply IsS83.set_6 | apply IsS83.set_7 | apply IsS83.set_8 | apply IsS83.set_9 | apply IsS83.set_10 | apply IsS83.set_11 | apply IsS83.set_12 | apply IsS83.set_13 | apply IsS83.set_14 | apply IsS83.set_15 | apply IsS83.set_16 | apply IsS83.set_17 | apply IsS83.set_18 | apply IsS83.set_19) | exact HI0.out), by repeat (first | (with_reducible first | exact HB.out | apply lA1_ | apply lN_ | apply lD_ | refine lS1_ ?_ (IsS83.ge HI0.out)) | exact HB.out), by repeat (first | (with_reducible first | exact HK.out | apply KeepBut.set_ | apply kN_ | apply kD_ | apply kA_) | exact HK.out)⟩
     replace H := iE_ H
     obtain ⟨c15b0, c15b1, H⟩ | ⟨c15b0, c15b1, H⟩ := H
     ·replace H := iC_ H
      obtain ⟨c16, H⟩ | ⟨c16, H⟩ := H
      ·have c16b0 : (s0_2 == 3) = true := c16
       (try (have c16b1 : decide (s0_2 = 3) = true := by simpa using c16))
       (try (have c16b2 : (s0_2 == 3) = true := by simpa using c16))
       clear c16
       simp only [Option.some.injEq, Prod.mk.injEq] at H
       obtain ⟨rfl, rfl, rfl, rfl, rfl, rfl, rfl, rfl, rfl, rfl, rfl, rfl, rfl, rfl, rfl, rfl, rfl, rfl, rfl, rfl, rfl⟩ := H
       obtain ⟨_, _, _, _, _, _, _, _, _, _, _, _, _, _, _, _, _, _, _, _, _, _, _, _, _, _, _, _, _, _, _, _, _, _, _, _, _, _, _, _⟩ := bc20 HI0.out.1
       go_wp2
       go_ret
       exact ⟨Er_, by repeat (first | (with_reducible first | exact HI0.out | apply IsS83.alloc | apply IsS83.drewN | apply IsS83.drew | apply IsS83.set_0 | apply IsS83.set_1 | apply IsS83.set_2 | apply IsS83.set_3 | apply IsS83.set_4 | apply IsS83.set_5 | apply IsS83.set_6 | apply IsS83.set_7 | apply IsS83.set_8 | apply IsS83.set_9 | apply IsS83.set_10 | apply IsS83.set_11 | apply IsS83.set_12 | apply IsS83.set_13 | apply IsS83.set_14 | apply IsS83.set_15 | apply IsS83.set_16 | apply IsS83.set_17 | apply IsS83.set_18 | apply IsS83.set_19) | exact HI0.out), by repeat (first | (with_reducible first | exact HB.out | apply lA1_ | apply lN_ | apply lD_ | refine lS1_ ?_ (IsS83.ge HI0.out)) | exact HB.out), by repeat (first | (with_reducible first | exact HK.out | apply KeepBut.set_ | apply kN_ | apply kD_ | apply kA_) | exact HK.out)⟩
      have c16b0 : (s0_2 == 3) = false := by simpa using c16
      (try (have c16b1 : decide (s0_2 = 3) = false := by simpa using c16))
      (try (have c16b2 : (s0_2 == 3) = false := by simpa using c16))
      (try (have c16b3 : ¬ (s0_2 = 3) := by simpa using c16))
      clear c16
      replace H := iE_ H
      obtain ⟨c18b0, c18b1, H⟩ | ⟨c18b0, c18b1, H⟩ := H
      rotate_left
      ·simp only [Option.some.injEq, Prod.mk.injEq] at H
       obtain ⟨rfl, rfl, rfl, rfl, rfl, rfl, rfl, rfl, rfl, rfl, rfl, rfl, rfl, rfl, rfl, rfl, rfl, rfl, rfl, rfl, rfl⟩ := H
       obtain ⟨_, _, _, _, _, _, _, _, _, _, _, _, _, _, _, _, _, _, _, _, _, _, _, _, _, _, _, _, _, _, _, _, _, _, _, _, _, _, _, _⟩ := bc20 HI0.out.1
       go_wp2
       go_ret
       exact ⟨Er_, by repeat (first | (with_reducible first | exact HI0.out | apply IsS83.alloc | apply IsS83.drewN | apply IsS83.drew | apply IsS83.set_0 | apply IsS83.set_1 | apply IsS83.set_2 | apply IsS83.set_3 | apply IsS83.set_4 | apply IsS83.set_5 | apply IsS83.set_6 | apply IsS83.set_7 | apply IsS83.set_8 | apply IsS83.set_9 | apply IsS83.set_10 | apply IsS83.set_11 | apply IsS83.set_12 | apply IsS83.set_13 | apply IsS83.set_14 | apply IsS83.set_15 | apply IsS83.set_16 | apply IsS83.set_17 | apply IsS83.set_18 | apply IsS83.set_19) | exact HI0.out), by repeat (first | (with_reducible first | exact HB.out | apply lA1_ | apply lN_ | apply lD_ | refine lS1_ ?_ (IsS83.ge HI0.out)) | exact HB.out), by repeat (first | (with_reducible first | exact HK.out | apply KeepBut.set_ | apply kN_ | apply kD_ | apply kA_) | exact HK.out)⟩
      rotate_right
      simp only [Option.some.injEq, Prod.mk.injEq] at H
      obtain ⟨rfl, rfl, rfl, rfl, rfl, rfl, rfl, rfl, rfl, rfl, rfl, rfl, rfl, rfl, rfl, rfl, rfl, rfl, rfl, rfl, rfl⟩ := H
      obtain ⟨_, _, _, _, _, _, _, _, _, _, _, _, _, _, _, _, _, _, _, _, _, _, _, _, _, _, _, _, _, _, _, _, _, _, _, _, _, _, _, _⟩ := bc20 HI0.out.1
      go_wp2
      go_ret
      exact ⟨Er_, by repeat (first | (with_reducible first | exact HI0.out | apply IsS83.alloc | apply IsS83.drewN | apply IsS83.drew | apply IsS83.set_0 | apply IsS83.set_1 | apply IsS83.set_2 | apply IsS83.set_3 | apply IsS83.set_4 | apply IsS83.set_5 | apply IsS83.set_6 | apply IsS83.set_7 | apply IsS83.set_8 | apply IsS83.set_9 | apply IsS83.set_10 | apply IsS83.set_11 | apply IsS83.set_12 | apply IsS83.set_13 | apply IsS83.set_14 | apply IsS83.set_15 | apply IsS83.set_16 | apply IsS83.set_17 | apply IsS83.set_18 | apply IsS83.set_19) | exact HI0.out), by repeat (first | (with_reducible first | exact HB.out | apply lA1_ | apply lN_ | apply lD_ | refine lS1_ ?_ (IsS83.ge HI0.out)) | exact HB.out), by repeat (first | (with_reducible first | exact HK.out | apply KeepBut.set_ | apply kN_ | apply kD_ | apply kA_) | exact HK.out)⟩
     replace H := iE_ H
     obtain ⟨c21b0, c21b1, H⟩ | ⟨c21b0, c21b1, H⟩ := H
     ·replace H := iC_ H
      obtain ⟨c22, H⟩ | ⟨c22, H⟩ := H
      ·have c22b0 : (s0_2 == 3) = true := c22
       (try (have c22b1 : decide (s0_2 = 3) = true := by simpa using c22))
       (try (have c22b2 : (s0_2 == 3) = true := by simpa using c22))
       clear c22
       simp only [Option.some.injEq, Prod.mk.injEq] at H
       obtain ⟨rfl, rfl, rfl, rfl, rfl, rfl, rfl, rfl, rfl, rfl, rfl, rfl, rfl, rfl, rfl, rfl, rfl, rfl, rfl, rfl, rfl⟩ := H
       obtain ⟨_, _, _, _, _, _, _, _, _, _, _, _, _, _, _, _, _, _, _, _, _, _, _, _, _, _, _, _, _, _, _, _, _, _, _, _, _, _, _, _⟩ := bc20 HI0.out.1
       go_wp2
       go_ret
       exact ⟨Er_, by repeat (first | (with_reducible first | exact HI0.out | apply IsS83.alloc | apply IsS83.drewN | apply IsS83.drew | apply IsS83.set_0 | apply IsS83.set_1 | apply IsS83.set_2 | apply IsS83.set_3 | apply IsS83.set_4 | apply IsS83.set_5 | apply IsS83.set_6 | apply IsS83.set_7 | apply IsS83.set_8 | apply IsS83.set_9 | apply IsS83.set_10 | apply IsS83.set_11 | apply IsS83.set_12 | apply IsS83.set_13 | apply IsS83.set_14 | apply IsS83.set_15 | apply IsS83.set_16 | apply IsS83.set_17 | apply IsS83.set_18 | apply IsS83.set_19) | exact HI0.out), by repeat (first | (with_reducible first | exact HB.out | apply lA1_ | apply lN_ | apply lD_ | refine lS1_ ?_ (IsS83.ge HI0.out)) | exact HB.out), by repeat (first | (with_reducible first | exact HK.out | apply KeepBut.set_ | apply kN_ | apply kD_ | apply kA_) | exact HK.out)⟩
      have c22b0 : (s0_2 == 3) = false := by simpa using c22
      (try (have c22b1 : decide (s0_2 = 3) = false := by simpa using c22))
      (try (have c22b2 : (s0_2 == 3) = false := by simpa using c22))
      (try (have c22b3 : ¬ (s0_2 = 3) := by simpa using c22))
      clear c22
      simp only [Option.some.injEq, Prod.mk.injEq] at H
      obtain ⟨rfl, rfl, rfl, rfl, rfl, rfl, rfl, rfl, rfl, rfl, rfl, rfl, rfl, rfl, rfl, rfl, rfl, rfl, rfl, rfl, rfl⟩ := H
      obtain ⟨_, _, _, _, _, _, _, _, _, _, _, _, _, _, _, _, _, _, _, _, _, _, _, _, _, _, _, _, _, _, _, _, _, _, _, _, _, _, _, _⟩ := bc20 HI0.out.1
      go_wp2
      go_ret
      exact ⟨Er_, by repeat (first | (with_reducible first | exact HI0.out | apply IsS83.alloc | apply IsS83.drewN | apply IsS83.drew | apply IsS83.set_0 | apply IsS83.set_1 | apply IsS83.set_2 | apply IsS83.set_3 | apply IsS83.set_4 | apply IsS83.set_5 | apply IsS83.set_6 | apply IsS83.set_7 | apply IsS83.set_8 | apply IsS83.set_9 | apply IsS83.set_10 | apply IsS83.set_11 | apply IsS83.set_12 | apply IsS83.set_13 | apply IsS83.set_14 | apply IsS83.set_15 | apply IsS83.set_16 | apply IsS83.set_17 | apply IsS83.set_18 | apply IsS83.set_19) | exact HI0.out), by repeat (first | (with_reducible first | exact HB.out | apply lA1_ | apply lN_ | apply lD_ | refine lS1_ ?_ (IsS83.ge HI0.out)) | exact HB.out), by repeat (first | (with_reducible first | exact HK.out | apply KeepBut.set_ | apply kN_ | apply kD_ | apply kA_) | exact HK.out)⟩
     replace H := iC_ H
     obtain ⟨c25, H⟩ | ⟨c25, H⟩ := H
     ·have c25b0 : (s0_2 == 3) = true := c25
      (try (have c25b1 : decide (s0_2 = 3) = true := by simpa using c25))
      (try (have c25b2 : (s0_2 == 3) = true := by simpa using c25))
      clear c25
      simp only [Option.some.injEq, Prod.mk.injEq] at H
      obtain ⟨rfl, rfl, rfl, rfl, rfl, rfl, rfl, rfl, rfl, rfl, rfl, rfl, rfl, rfl, rfl, rfl, rfl, rfl, rfl, rfl, rfl⟩ := H
      obtain ⟨_, _, _, _, _, _, _, _, _, _, _, _, _, _, _, _, _, _, _, _, _, _, _, _, _, _, _, _, _, _, _, _, _, _, _, _, _, _, _, _⟩ := bc20 HI0.out.1
      go_wp2
      go_ret
      exact ⟨Er_, by repeat (first | (with_reducible first | exact HI0.out | apply IsS83.alloc | apply IsS83.drewN | apply IsS83.drew | apply IsS83.set_0 | apply IsS83.set_1 | apply IsS83.set_2 | apply IsS83.set_3 | apply IsS83.set_4 | apply IsS83.set_5 | apply IsS83.set_6 | apply IsS83.set_7 | apply IsS83.set_8 | apply IsS83.set_9 | apply IsS83.set_10 | apply IsS83.set_11 | apply IsS83.set_12 | apply IsS83.set_13 | apply IsS83.set_14 | apply IsS83.set_15 | apply IsS83.set_16 | apply IsS83.set_17 | apply IsS83.set_18 | apply IsS83.set_19) | exact HI0.out), by repeat (first | (with_reducible first | exact HB.out | apply lA1_ | apply lN_ | apply lD_ | refine lS1_ ?_ (IsS83.ge HI0.out)) | exact HB.out), by repeat (first | (with_reducible first | exact HK.out | apply KeepBut.set_ | apply kN_ | apply kD_ | apply kA_) | exact HK.out)⟩
     have c25b0 : (s0_2 == 3) = false := by simpa using c25
     (try (have c25b1 : decide (s0_2 = 3) = false := by simpa using c25))
     (try (have c25b2 : (s0_2 == 3) = false := by simpa using c25))
     (try (have c25b3 : ¬ (s0_2 = 3) := by simpa using c25))
     clear c25
     replace H := iE_ H
     obtain ⟨c27b0, c27b1, H⟩ | ⟨c27b0, c27b1, H⟩ := H
     rotate_left
     ·simp only [Option.some.injEq, Prod.mk.injEq] at H
      obtain ⟨rfl, rfl, rfl, rfl, rfl, rfl, rfl, rfl, rfl, rfl, rfl, rfl, rfl, rfl, rfl, rfl, rfl, rfl, rfl, rfl, rfl⟩ := H
      obtain ⟨_, _, _, _, _, _, _, _, _, _, _, _, _, _, _, _, _, _, _, _, _, _, _, _, _, _, _, _, _, _, _, _, _, _, _, _, _, _, _, _⟩ := bc20 HI0.out.1
      go_wp2
      go_ret
      exact ⟨Er_, by repeat (first | (with_reducible first | exact HI0.out | apply IsS83.alloc | apply IsS83.drewN | apply IsS83.drew | apply IsS83.set_0 | apply IsS83.set_1 | apply IsS83.set_2 | apply IsS83.set_3 | apply IsS83.set_4 | apply IsS83.set_5 | apply IsS83.set_6 | apply IsS83.set_7 | apply IsS83.set_8 | apply IsS83.set_9 | apply IsS83.set_10 | apply IsS83.set_11 | apply IsS83.set_12 | apply IsS83.set_13 | apply IsS83.set_14 | apply IsS83.set_15 | apply IsS83.set_16 | apply IsS83.set_17 | apply IsS83.set_18 | apply IsS83.set_19) | exact HI0.out), by repeat (first | (with_reducible first | exact HB.out | apply lA1_ | apply lN_ | apply lD_ | refine lS1_ ?_ (IsS83.ge HI0.out)) | exact HB.out), by repeat (first | (with_reducible first | exact HK.out | apply KeepBut.set_ | apply kN_ | apply kD_ | apply kA_) | exact HK.out)⟩
     rotate_right
     simp only [Option.some.injEq, Prod.mk.injEq] at H
     obtain ⟨rfl, rfl, rfl, rfl, rfl, rfl, rfl, rfl, rfl, rfl, rfl, rfl, rfl, rfl, rfl, rfl, rfl, rfl, rfl, rfl, rfl⟩ := H
     obtain ⟨_, _, _, _, _, _, _, _, _, _, _, _, _, _, _, _, _, _, _, _, _, _, _, _, _, _, _, _, _, _, _, _, _, _, _, _, _, _, _, _⟩ := bc20 HI0.out.1
     go_wp2
     go_ret
     exact ⟨Er_, by repeat (first | (with_reducible first | exact HI0.out | apply IsS83.alloc | apply IsS83.drewN | apply IsS83.drew | apply IsS83.set_0 | apply IsS83.set_1 | apply IsS83.set_2 | apply IsS83.set_3 | apply IsS83.set_4 | apply IsS83.set_5 | apply IsS83.set_6 | apply IsS83.set_7 | apply IsS83.set_8 | apply IsS83.set_9 | apply IsS83.set_10 | apply IsS83.set_11 | apply IsS83.set_12 | apply IsS83.set_13 | apply IsS83.set_14 | apply IsS83.set_15 | apply IsS83.set_16 | apply IsS83.set_17 | apply IsS83.set_18 | apply IsS83.set_19) | exact HI0.out), by repeat (first | (with_reducible first | exact HB.out | apply lA1_ | apply lN_ | apply lD_ | refine lS1_ ?_ (IsS83.ge HI0.out)) | exact HB.out), by repeat (first | (with_reducible first | exact HK.out | apply KeepBut.set_ | apply kN_ | apply kD_ | apply kA_) | exact HK.out)⟩
end Go.Proofs.Ytbjnjjjhdjichaa.G
