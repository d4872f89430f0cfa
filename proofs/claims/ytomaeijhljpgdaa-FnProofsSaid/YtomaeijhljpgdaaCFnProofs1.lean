/- Part 3 of the proof of FnProofs: what the functions on its road do, and the plain laws. -/
import Derived.Test.YtomaeijhljpgdaaCSm2
import Derived.SizedLaws
import Derived.ChangeSlices
import Derived.RangeFuncNested
import Derived.RangeFuncBound
import Derived.RangeFuncCalls
import Derived.RangeFuncLeaves
import Derived.RangeFuncWrites
import Derived.RangeFuncBox
import Derived.Shelf.Abstract
import Derived.OwnWalkIn
import Derived.TacticsInMore
import Derived.LoopNIn
import Derived.LoopIn
namespace Go.Proofs.Ytomaeijhljpgdaa.G
open Go.RowKit Go.Proofs.YtomaeijhljpgdaaW.PrintWords Go.Proofs.YtomaeijhljpgdaaW.PrintLast Go.Proofs.YtomaeijhljpgdaaW.PrintMore
attribute [local go_sem] max2_int min2_int max_two min_two max_three min_three max_four min_four   -- for this text's walks alone
set_option linter.unusedVariables false
set_option linter.unusedSimpArgs false
def laws_lwBig.f (l0 : List Int) : Option (Bool) := some (decide ((l0.length : Int) > 1048576))
set_option maxHeartbeats 8000000 in
set_option maxRecDepth 100000 in
theorem laws_lwBig.calls (A0 : Option Addr) (c0 : Nat) (l0 : List Int) (r : Bool) (w : World) (hr0 : Kd.C (Kd.int .u8) w A0 l0.length l0) (hc0 : l0.length ≤ c0) (h : laws_lwBig.f l0 = some r) :
  Calls Try.prog 10 #[.slice A0 l0.length c0] w fun e w' => e = .returned (.bool r) ∧ Drawn0 w w' := by
 have HR0 := Aside0.mk hr0
 have HC0 := Aside0.mk hc0
 clear hr0 hc0
 have H : (some (decide ((l0.length : Int) > 1048576))) = some r := h
 clear h
 obtain rfl := Option.some.inj H
 go_enter Try.func10, Try.ntmps10
 go_wp2
 go_ret
 exact ⟨by first | rfl | (simp; done) | (simp [*]; done), by repeat (first | exact Drawn0.refl _ | apply Drawn0.step)⟩
end Go.Proofs.Ytomaeijhljpgdaa.G
namespace Go.Proofs.Ytomaeijhljpgdaa.G
open Go.RowKit Go.Proofs.YtomaeijhljpgdaaW.PrintWords Go.Proofs.YtomaeijhljpgdaaW.PrintLast Go.Proofs.YtomaeijhljpgdaaW.PrintMore
attribute [local go_sem] max2_int min2_int max_two min_two max_three min_three max_four min_four   -- for this text's walks alone
set_option linter.unusedVariables false
set_option linter.unusedSimpArgs false
def spec_l5Copy.f (l0 : List (S26)) : Option ((List (S26))) := (some (([] : List (S26)) : List (S26))).bind fun y107 => (if y107.length + l0.length < 4398046511104 then (some (y107 ++ l0)) else (none))
set_option maxHeartbeats 8000000 in
set_option maxRecDepth 100000 in
theorem spec_l5Copy.calls (A0 : Option Addr) (c0 : Nat) (l0 : List (S26)) (r : List (S26)) (w : World) (hr0 : Kd.C k26 w A0 l0.length l0) (hc0 : l0.length ≤ c0) (h : spec_l5Copy.f l0 = some r) :
  Calls Try.prog 67 #[.slice A0 l0.length c0] w fun e w' => ∃ v0_ : Value, e = .returned (v0_) ∧ Kd.R k26 26 w' w.heap.size (fun _ => True) v0_ r ∧ Below w.heap.size w w' := by
 have HR0 := Aside0.mk hr0
 have HC0 := Aside0.mk hc0
 clear hr0 hc0
 have HB := Aside0.mk (Below.refl w.heap.size w)
 have H : ((some (([] : List (S26)) : List (S26))).bind fun y107 => (if y107.length + l0.length < 4398046511104 then (some (y107 ++ l0)) else (none))) = some r := h
 clear h
 obtain ⟨y107, hy107⟩ : ∃ y_ : List (S26), y_ = (([] : List (S26))) := ⟨_, rfl⟩
 replace H : (if y107.length + l0.length < 4398046511104 then (some (y107 ++ l0)) else (none)) = some r := by first | (rw [hy107]; with_reducible exact H) | (have H2_ := (Option.bind_some _ _).symm.trans H; rw [hy107]; with_reducible exact H2_) | (have H2_ := (Option.bind_some _ _).symm.trans H; with_reducible exact H2_) | with_reducible exact H | (rw [hy107]; exact H) | exact H
 have Ny107 := Aside0.mk hy107
 clear hy107
 by_cases c2 : y107.length + l0.length < 4398046511104
 ·rw [if_pos c2] at H
  have LMc2 := Aside0.mk c2
  clear c2
  obtain ⟨y110, hy110⟩ : ∃ y_ : List (S26), y_ = (y107 ++ l0) := ⟨_, rfl⟩
  replace H : (some y110) = some r := by first | (rw [hy110]; with_reducible exact H) | (have H2_ := (Option.bind_some _ _).symm.trans H; rw [hy110]; with_reducible exact H2_) | (have H2_ := (Option.bind_some _ _).symm.trans H; with_reducible exact H2_) | with_reducible exact H | (rw [hy110]; exact H) | exact H
  have Ny110 := Aside0.mk hy110
  clear hy110
  obtain rfl := Option.some.inj H
  go_enter Try.func67, Try.ntmps67
  go_wp2_with (first | ((with_reducible refine gate_dst (N := 3) rfl ?_); refine Kd.R_lit k26 _ 26 ?hg (N := 3) ?hd (xs := ([] : List (S26))) (inner := []) (ok := fun _ => True) (okp := fun _ => True) ?hr ?hp (fun _ hk => hk) trivial (Below.refl _ _) (Nat.le_refl _) (by simp) ?_; (case hd => rfl); (case hg => rfl); (case hr => first | (go_simp; done) | (go_simp; rfl)); (case hp => exact (Reps.none _ _)); intro v108 w3 ho4 hb hg_ hnew_; clear hg_ hnew_; (first | rw [← Ny107.out] at ho4 | (simp only [Int.reduceToNat] at ho4; rw [← Ny107.out] at ho4)); have n0_ := Aside0.mk (Kd.R_lower ho4 (below_size (by repeat (first | (with_reducible first | exact HB.out | apply below_alloc | apply pw_below_drewN | apply below_drew1) | exact HB.out)))); have n1_ := Aside0.mk (below_step (by repeat (first | (with_reducible first | exact HB.out | apply below_alloc | apply pw_below_drewN | apply below_drew1) | exact HB.out)) hb); clear HB; have HO109 := n0_; have HB := n1_; clear n0_ n1_; clear hb ho4) | ((with_reducible refine gate_builtin (b := .append) (xs := #[.tmp 3, .tmp 4]) rfl ?_); at_builtin; refine Kd.R_append_rows k26 (w0 := w) w.heap.size rfl (.tmp 3) (.tmp 4) 24 26 (.agg #[(.int .i64 0), (.int .i64 0), (.int .i64 0), (.int .i64 0)]) 32 rfl Try.underlying24 info26 rfl (by decide) (by omega) v108 y107 l0 _ _ _ (fun _ => True) (fun _ => False) rfl rfl ?aO ?aR (fun _ _ h => h) (fun _ h => h.elim) ?aF ?aB ?aS ?aL ?_; (case aR => repeat (first | exact (Kd.C_below HR0.out HB.out) | (with_reducible refine Kd.C_alloc ?_ _) | (with_reducible refine Kd.C_drewN ?_ _) | (with_reducible refine Kd.C_drew ?_))); (case aB => exact (by repeat (first | (with_reducible first | exact HB.out | apply below_alloc | apply pw_below_drewN | apply below_drew1) | exact HB.out))); (case aF => exact (fun _ _ => trivial)); (case aO => exact (by (with_reducible repeat (first | apply Kd.R_alloc | apply Kd.R_drewN | apply Kd.R_drew)); exact HO109.out)); (case aS => exact (below_size (by repeat (first | (with_reducible first | exact HB.out | apply below_alloc | apply pw_below_drewN | apply below_drew1) | exact HB.out)))); (case aL => have := LMc2.out; omega); intro v111 w5 ho hb hg hat; rw [← Ny110.out] at ho; have n0_ := Aside0.mk (hb); have n1_ := Aside0.mk (ho); clear HB; clear HO109; have HB := n0_; have HO112 := n1_; clear n0_ n1_; clear ho hb hg hat))
  go_ret
  exact ⟨_, by first | rfl | (simp [errW_none, errW_some] <;> rfl) | (simp [*, errW_none, errW_some] <;> rfl), by (with_reducible repeat (first | apply Kd.R_alloc | apply Kd.R_drewN | apply Kd.R_drew)); exact HO112.out, by repeat (first | (with_reducible first | exact HB.out | apply below_alloc | apply pw_below_drewN | apply below_drew1) | exact HB.out)⟩
 ·rw [if_neg c2] at H
  exact absurd H (by simp)
end Go.Proofs.Ytomaeijhljpgdaa.G
namespace Go.Proofs.Ytomaeijhljpgdaa.G
open Go.RowKit Go.Proofs.YtomaeijhljpgdaaW.PrintWords Go.Proofs.YtomaeijhljpgdaaW.PrintLast Go.Proofs.YtomaeijhljpgdaaW.PrintMore
attribute [local go_sem] max2_int min2_int max_two min_two max_three min_three max_four min_four   -- for this text's walks alone
set_option linter.unusedVariables false
set_option linter.unusedSimpArgs false
def impl_Term_90.f (l0 : List (S26)) : Option (List (S26)) := if l0.length * 32 ≤ 140737488355328 then some l0 else none
set_option maxHeartbeats 4000000 in
set_option maxRecDepth 100000 in
theorem impl_Term_90.calls (A0 : Option Addr) (c0 : Nat) (l0 : List (S26)) (r : List (S26)) (w : World) (hr0 : Kd.C k26 w A0 l0.length l0) (hc0 : l0.length ≤ c0) (h : impl_Term_90.f l0 = some r) :
    Calls Try.prog 90 #[.slice A0 l0.length c0] w fun e w' => ∃ v0_ : Value, e = .returned (v0_) ∧ Kd.R k26 26 w' w.heap.size (fun _ => True) v0_ r ∧ Below w.heap.size w w' := by
  unfold impl_Term_90.f at h
  by_cases hb : l0.length * 32 ≤ 140737488355328
  · rw [if_pos hb] at h
    obtain rfl := Option.some.inj h
    clear h
    have HL := Aside0.mk hb
    clear hb
    rcases A0 with _ | ad
    · obtain rfl : l0 = [] := by
        rcases Nat.eq_zero_or_pos l0.length with h0 | h0
        · exact List.eq_nil_of_length_eq_zero h0
        · obtain ⟨_, h, _⟩ := hr0.2.2 h0
          cases h
      have hq := fun (W : World) => Lib.run_eql_slice_nil (P := Try.prog) W 24 26 none 0 c0 0 0 Try.underlying24
      clear hr0
      go_enter Try.func90, Try.ntmps90
      go_wp2
      go_ret
      exact ⟨_, rfl, Kd.R_nil _ _ _ _ _, Below.refl _ _⟩
    · have HR := Aside0.mk hr0
      clear hr0
      have HB := Aside0.mk (Below.refl w.heap.size w)
      have hq := fun (W : World) => Lib.run_eql_slice_nil (P := Try.prog) W 24 26 (some ad) l0.length c0 0 0 Try.underlying24
      go_enter Try.func90, Try.ntmps90
      go_wp2_with (first | ((with_reducible refine gate_dst (N := 5) rfl ?_); refine Kd.R_lit k26 _ 26 ?hg (N := 5) ?hd (xs := ([] : List (S26))) (inner := []) (ok := fun _ => True) (okp := fun _ => True) ?hr ?hp (fun _ hk => hk) trivial (Below.refl _ _) (Nat.le_refl _) (by simp) ?_; (case hd => rfl); (case hg => rfl); (case hr => first | (go_simp; done) | (go_simp; rfl)); (case hp => exact (Reps.none _ _)); intro v103 w3 ho4 hb hg_ hnew_; clear hg_ hnew_; have n0_ := Aside0.mk (Kd.R_lower ho4 (below_size HB.out)); have n1_ := Aside0.mk (below_step HB.out hb); have n2_ := Aside0.mk (Kd.C_below HR.out (by first | exact hb | exact below_step HB.out hb)); clear HB HR; have HO104 := n0_; have HB := n1_; have HR := n2_; clear n0_ n1_ n2_; clear hb ho4) | ((with_reducible refine gate_builtin (b := .append) (xs := #[.tmp 5, .tmp 6]) rfl ?_); at_builtin; refine Kd.R_append_rows k26 (Rr := k26.K w3) (w0 := w) w.heap.size rfl (.tmp 5) (.tmp 6) 24 26 (.agg #[(.int .i64 0), (.int .i64 0), (.int .i64 0), (.int .i64 0)]) 32 rfl Try.underlying24 info26 rfl (by decide) (by omega) v103 [] l0 (some ad) l0.length c0 (fun _ => True) (fun _ => False) rfl rfl ?aO ?aR (fun _ cs_ h_ => by obtain rfl := k26_open h_; exact k26_mkM _ _ _ _) (fun _ hk => hk.elim) (fun _ _ => trivial) ?aB ?aS ?aL ?_; (case aO => exact HO104.out); (case aR => exact HR.out); (case aB => exact HB.out); (case aS => exact below_size HB.out); (case aL => have := HL.out; simp; omega); intro v106 w10 ho hb hg hat; have n0_ := Aside0.mk (hb); have n1_ := Aside0.mk (ho); clear HB HO104; have HB := n0_; have HO107 := n1_; clear n0_ n1_; clear ho hb hg hat))
      go_ret
      exact ⟨_, rfl, HO107.out, HB.out⟩
  · rw [if_neg hb] at h; cases h
end Go.Proofs.Ytomaeijhljpgdaa.G
namespace Go.Proofs.Ytomaeijhljpgdaa.G
open Go.RowKit Go.Proofs.YtomaeijhljpgdaaW.PrintWords Go.Proofs.YtomaeijhljpgdaaW.PrintLast Go.Proofs.YtomaeijhljpgdaaW.PrintMore
attribute [local go_sem] max2_int min2_int max_two min_two max_three min_three max_four min_four   -- for this text's walks alone
set_option linter.unusedVariables false
set_option linter.unusedSimpArgs false
def Sheet (W : World) (N S : Nat) (l : List S26) (full : Bool) : Prop := ∃ v, W.heap[S]? = some (.cells #[v, .bool full] 107 (0, 0)) ∧ N ≤ S ∧ k26.R 26 W N (fun k => k ≠ S) v l
theorem below_stepN {w W W' : World} {N : Nat} (h : Below N w W) (hN : N ≤ W.heap.size) (k : Below W.heap.size W W') : Below N w W' := h.trans (k.mono hN)
theorem R_not {W : World} {N S : Nat} {ok : Nat → Prop} {v : Value} {l : List S26} (h : k26.R 26 W N ok v l) (hs : ∀ k, v.ownBlock = some k → k ≠ S) : k26.R 26 W N (fun k => k ≠ S) v l := by
  obtain ⟨h0, inner, hown, hr⟩ := h
  exact ⟨hs, inner, hown, hr.imp_ (fun x cs hm => by obtain rfl := k26_openM hm; exact k26_mkM _ _ _ _)⟩
set_option maxHeartbeats 4000000 in
set_option maxRecDepth 100000 in
theorem impl_sheetOf.calls (A0 : Option Addr) (c0 : Nat) (l0 : List S26) (w : World) (hr0 : Kd.C k26 w A0 l0.length l0) (hc0 : l0.length ≤ c0) (hb : l0.length * 32 ≤ 140737488355328) :
    Calls Try.prog 54 #[.slice A0 l0.length c0] w fun e w' => ∃ S, e = .returned (.pointer (some ⟨S, 0, none⟩)) ∧ Sheet w' w.heap.size S l0 false ∧ Below w.heap.size w w' := by
  have HR := Aside0.mk hr0
  have HC := Aside0.mk hc0
  have HF := Aside0.mk (show impl_Term_90.f l0 = some l0 from if_pos hb)
  have HB := Aside0.mk (Below.refl w.heap.size w)
  clear hr0 hc0 hb
  go_enter Try.func54, Try.ntmps54
  go_wp2_with (first | (go_at_call 90; with_reducible refine (impl_Term_90.calls A0 c0 l0 l0 _ (Kd.C_below HR.out HB.out) HC.out HF.out).mono ?_; rintro e w2 ⟨v, rfl, ho, hb⟩; obtain ⟨A2, c2, rfl⟩ := Kd.R_slice ho; have HO := Aside0.mk (Kd.R_lower ho (below_size HB.out)); have n0_ := Aside0.mk (below_step HB.out hb); clear HB hb ho; have HB := n0_; clear n0_) | ((with_reducible refine gate_dst (N := 6) rfl ?_); refine box_event ?hg (N := 6) ?hd (cs := #[.slice A2 l0.length c2, .bool false]) (t := 107) ?hr ?_; (case hd => rfl); (case hg => rfl); (case hr => first | (go_simp; done) | (go_simp; rfl)); intro S hg w3 hbox hb; have HS : Aside0 (Sheet w3 w.heap.size S l0 false) := ⟨⟨.slice A2 l0.length c2, hbox, (by rw [hg]; exact below_size HB.out), R_not (Kd.R_below HO.out hb) (fun k hk => by obtain ⟨_, hi⟩ := Kd.R_own HO.out; have := own_lt hi k hk; omega)⟩⟩; have n0_ := Aside0.mk (below_step HB.out hb); clear HB hb hbox hg; have HB := n0_; clear n0_))
  go_ret
  exact ⟨S, rfl, HS.out, HB.out⟩
end Go.Proofs.Ytomaeijhljpgdaa.G
namespace Go.Proofs.Ytomaeijhljpgdaa.G
open Go.RowKit Go.Proofs.YtomaeijhljpgdaaW.PrintWords Go.Proofs.YtomaeijhljpgdaaW.PrintLast Go.Proofs.YtomaeijhljpgdaaW.PrintMore
attribute [local go_sem] max2_int min2_int max_two min_two max_three min_three max_four min_four   -- for this text's walks alone
set_option linter.unusedVariables false
set_option linter.unusedSimpArgs false
theorem eqA26 (d : Nat) (w : World) (x0 y0 : Int) (x1 y1 : Int) (x2 y2 : Int) (x3 y3 : Int) :
    (Op.equalIn (d + 2) 26 (.agg #[.int .i64 x0, .int .i64 x1, .int .i64 x2, .int .i64 x3]) (.agg #[.int .i64 y0, .int .i64 y1, .int .i64 y2, .int .i64 y3])).run Try.prog w = .ok (x0 == y0 && (x1 == y1 && (x2 == y2 && (x3 == y3)))) w := by
  refine eqA_of Try.underlying26 (by kernel_rfl) ?_
  refine eqf_cons (by rfl) (by go_simp; rfl) (by go_simp; rfl) (by go_simp) ?_
  refine eqf_cons (by rfl) (by go_simp; rfl) (by go_simp; rfl) (by go_simp) ?_
  refine eqf_cons (by rfl) (by go_simp; rfl) (by go_simp; rfl) (by go_simp) ?_
  exact eqf_last (by rfl) (by go_simp; rfl) (by go_simp; rfl) (by go_simp)
end Go.Proofs.Ytomaeijhljpgdaa.G
namespace Go.Proofs.Ytomaeijhljpgdaa.G
open Go.RowKit Go.Proofs.YtomaeijhljpgdaaW.PrintWords Go.Proofs.YtomaeijhljpgdaaW.PrintLast Go.Proofs.YtomaeijhljpgdaaW.PrintMore
attribute [local go_sem] max2_int min2_int max_two min_two max_three min_three max_four min_four   -- for this text's walks alone
set_option linter.unusedVariables false
set_option linter.unusedSimpArgs false
attribute [local go_sem high] eqA26
def impl_Term_91.l0 : Nat → List (S26) → Int → Int → Int → Int → Int → Int → Option (Int)
 | 0, _, _, _, _, _, _, _ => none
 | k + 1, x0, x7, x8, x279000, x279001, x279002, x279003 => if x8 < x7 then (if 0 ≤ x8 then (if x8 < (x0.length : Int) then (if (x279000 == ((rd_T26 x0 x8).f0) && (x279001 == ((rd_T26 x0 x8).f1) && (x279002 == ((rd_T26 x0 x8).f2) && (x279003 == ((rd_T26 x0 x8).f3))))) = true then (some x8) else (impl_Term_91.l0 k x0 x7 (wrap64 (x8 + 1)) x279000 x279001 x279002 x279003)) else (none)) else (none)) else (some (-1))
def impl_Term_91.f (k : Nat) (l0 : List (S26)) (a1_0 : Int) (a1_1 : Int) (a1_2 : Int) (a1_3 : Int) : Option (Int) := impl_Term_91.l0 k l0 (l0.length : Int) 0 a1_0 a1_1 a1_2 a1_3
set_option maxHeartbeats 8000000 in
set_option maxRecDepth 100000 in
theorem impl_Term_91.calls (k : Nat) (A0 : Option Addr) (c0 : Nat) (l0 : List (S26)) (a1_0 : Int) (a1_1 : Int) (a1_2 : Int) (a1_3 : Int) (r : Int) (w : World) (hr0 : Kd.C k26 w A0 l0.length l0) (hc0 : l0.length ≤ c0) (h : impl_Term_91.f k l0 a1_0 a1_1 a1_2 a1_3 = some r) :
  Calls Try.prog 91 #[.slice A0 l0.length c0, .agg #[.int .i64 a1_0, .int .i64 a1_1, .int .i64 a1_2, .int .i64 a1_3]] w fun e w' => e = .returned (.int .i64 r) ∧ Below w.heap.size w w' := by
 have hu26 := Try.underlying26
 have HR0 := Aside0.mk hr0
 have HC0 := Aside0.mk hc0
 clear hr0 hc0
 have HB := Aside0.mk (Below.refl w.heap.size w)
 have H : (impl_Term_91.l0 k l0 (l0.length : Int) 0 a1_0 a1_1 a1_2 a1_3) = some r := h
 clear h
 have H' := Aside0.mk H
 clear H
 go_enter Try.func91, Try.ntmps91
 go_wp2_with (first | ((with_reducible refine gate_dst (N := 3) rfl ?_); refine box_event ?hg (N := 3) ?hd (cs := #[.int .i64 a1_0, .int .i64 a1_1, .int .i64 a1_2, .int .i64 a1_3]) (t := 26) ?hr ?_; (case hd => rfl); (case hg => rfl); (case hr => first | (go_simp; done) | (go_simp; rfl)); intro gb278 hg w3 hbox hb; have n0_ := Aside0.mk (below_step (by repeat (first | (with_reducible first | exact HB.out | apply below_alloc | apply pw_below_drewN | apply below_drew1) | exact HB.out)) hb); have n1_ := Aside0.mk (hbox); have n2_ := Aside0.mk ((by rw [hg]; exact (below_size (by repeat (first | (with_reducible first | exact HB.out | apply below_alloc | apply pw_below_drewN | apply below_drew1) | exact HB.out))) : w.heap.size ≤ gb278)); have n3_ := Aside0.mk ((by rw [hg]; exact (below_size (by repeat (first | (with_reducible first | exact HB.out | apply below_alloc | apply pw_below_drewN | apply below_drew1) | exact HB.out))) : w.heap.size ≤ gb278)); clear HB; have HB := n0_; have BK278 := n1_; have GW278 := n2_; have GE278 := n3_; clear n0_ n1_ n2_ n3_; clear hb hbox hg))
 repeat (go_quiet (first | ((with_reducible refine gate_dst (N := 3) rfl ?_); refine box_event ?hg (N := 3) ?hd (cs := #[.int .i64 a1_0, .int .i64 a1_1, .int .i64 a1_2, .int .i64 a1_3]) (t := 26) ?hr ?_; (case hd => rfl); (case hg => rfl); (case hr => first | (go_simp; done) | (go_simp; rfl)); intro gb278 hg w3 hbox hb; have n0_ := Aside0.mk (below_step (by repeat (first | (with_reducible first | exact HB.out | apply below_alloc | apply pw_below_drewN | apply below_drew1) | exact HB.out)) hb); have n1_ := Aside0.mk (hbox); have n2_ := Aside0.mk ((by rw [hg]; exact (below_size (by repeat (first | (with_reducible first | exact HB.out | apply below_alloc | apply pw_below_drewN | apply below_drew1) | exact HB.out))) : w.heap.size ≤ gb278)); have n3_ := Aside0.mk ((by rw [hg]; exact (below_size (by repeat (first | (with_reducible first | exact HB.out | apply below_alloc | apply pw_below_drewN | apply below_drew1) | exact HB.out))) : w.heap.size ≤ gb278)); clear HB; have HB := n0_; have BK278 := n1_; have GW278 := n2_; have GE278 := n3_; clear n0_ n1_ n2_ n3_; clear hb hbox hg)); try go_wp2_with (first | ((with_reducible refine gate_dst (N := 3) rfl ?_); refine box_event ?hg (N := 3) ?hd (cs := #[.int .i64 a1_0, .int .i64 a1_1, .int .i64 a1_2, .int .i64 a1_3]) (t := 26) ?hr ?_; (case hd => rfl); (case hg => rfl); (case hr => first | (go_simp; done) | (go_simp; rfl)); intro gb278 hg w3 hbox hb; have n0_ := Aside0.mk (below_step (by repeat (first | (with_reducible first | exact HB.out | apply below_alloc | apply pw_below_drewN | apply below_drew1) | exact HB.out)) hb); have n1_ := Aside0.mk (hbox); have n2_ := Aside0.mk ((by rw [hg]; exact (below_size (by repeat (first | (with_reducible first | exact HB.out | apply below_alloc | apply pw_below_drewN | apply below_drew1) | exact HB.out))) : w.heap.size ≤ gb278)); have n3_ := Aside0.mk ((by rw [hg]; exact (below_size (by repeat (first | (with_reducible first | exact HB.out | apply below_alloc | apply pw_below_drewN | apply below_drew1) | exact HB.out))) : w.heap.size ≤ gb278)); clear HB; have HB := n0_; have BK278 := n1_; have GW278 := n2_; have GE278 := n3_; clear n0_ n1_ n2_ n3_; clear hb hbox hg)))
 go_loopg [8] k (fun kq v8 w' => ∃ (x8_1 : Int), v8 = .int .i64 x8_1 ∧ Aside0 (impl_Term_91.l0 kq l0 (l0.length : Int) x8_1 a1_0 a1_1 a1_2 a1_3 = some r) ∧ Aside0 (kq ≤ k) ∧ Aside0 (w'.heap[gb278]? = some (.cells #[.int .i64 a1_0, .int .i64 a1_1, .int .i64 a1_2, .int .i64 a1_3] 26 (0, 0))) ∧ Aside0 (Below w.heap.size w w'))
 case atStart => exact ⟨(0), (by first | rfl | (simp; done) | (simp [*]; done)), H', ⟨Nat.le_refl _⟩, ⟨by (with_reducible repeat (first | refine blk_drewN ?_ _ | refine blk_drew ?_ | refine blk_alloc ?_ _)); exact BK278.out⟩, ⟨by repeat (first | (with_reducible first | exact HB.out | apply below_alloc | apply pw_below_drewN | apply below_drew1 | refine below_set ?_ GE278.out) | exact HB.out)⟩⟩
 case round =>
  clear H'
  try clear p2
  obtain ⟨x8_1, rfl, HA, HK1, BK278, HB⟩ := hrel
  cases gk with
  | zero => exact absurd HA.out (by simp [impl_Term_91.l0])
  | succ k1 =>
   have H := HA.out
   clear HA
   simp only [impl_Term_91.l0] at H
   by_cases c4 : x8_1 < (l0.length : Int)
   ·rw [if_pos c4] at H
    have c4b0 : decide (x8_1 < (l0.length : Int)) = true := decide_eq_true c4
    clear c4
    by_cases c5 : 0 ≤ x8_1
    ·rw [if_pos c5] at H
     have c5b0 : decide (0 ≤ x8_1) = true := decide_eq_true c5
     clear c5
     by_cases c6 : x8_1 < (l0.length : Int)
     ·rw [if_pos c6] at H
      have c6b0 : decide (x8_1 < (l0.length : Int)) = true := decide_eq_true c6
      clear c6
      by_cases c7 : (a1_0 == ((rd_T26 l0 x8_1).f0) && (a1_1 == ((rd_T26 l0 x8_1).f1) && (a1_2 == ((rd_T26 l0 x8_1).f2) && (a1_3 == ((rd_T26 l0 x8_1).f3))))) = true
      ·rw [if_pos c7] at H
       have c7b0 : (a1_0 == ((rd_T26 l0 x8_1).f0) && (a1_1 == ((rd_T26 l0 x8_1).f1) && (a1_2 == ((rd_T26 l0 x8_1).f2) && (a1_3 == ((rd_T26 l0 x8_1).f3))))) = true := c7
       (try (have c7b1 : decide (a1_0 = ((rd_T26 l0 x8_1).f0) && (a1_1 == ((rd_T26 l0 x8_1).f1) && (a1_2 == ((rd_T26 l0 x8_1).f2) && (a1_3 == ((rd_T26 l0 x8_1).f3))))) = true := by simpa using c7))
       (try (have c7b2 : (a1_0 == ((rd_T26 l0 x8_1).f0) && (a1_1 == ((rd_T26 l0 x8_1).f1) && (a1_2 == ((rd_T26 l0 x8_1).f2) && (a1_3 == ((rd_T26 l0 x8_1).f3))))) = true := by simpa using c7))
       clear c7
       obtain rfl := Option.some.inj H
       have hcz8_0 : wr.cell? ⟨gb278, 0, none⟩ = some (.int .i64 a1_0) := (blk_cell BK278.out 0).trans rfl
       have hcz8_1 : wr.cell? ⟨gb278, 1, none⟩ = some (.int .i64 a1_1) := (blk_cell BK278.out 1).trans rfl
       have hcz8_2 : wr.cell? ⟨gb278, 2, none⟩ = some (.int .i64 a1_2) := (blk_cell BK278.out 2).trans rfl
       have hcz8_3 : wr.cell? ⟨gb278, 3, none⟩ = some (.int .i64 a1_3) := (blk_cell BK278.out 3).trans rfl
       have hfz8_0 := blk_frozen BK278.out 0
       have hfz8_1 := blk_frozen BK278.out 1
       have hfz8_2 := blk_frozen BK278.out 2
       have hfz8_3 := blk_frozen BK278.out 3
       have p279 : 0 ≤ (x8_1 : Int) := of_decide_eq_true (by first | (with_reducible assumption) | assumption)
       have q279 : x8_1 < (l0.length : Int) := of_decide_eq_true (by first | (with_reducible assumption) | assumption)
       obtain ⟨ad279, e279, hx279_0, hx279_1, hx279_2, hx279_3⟩ := at_T26 HR0.out x8_1 p279 q279
       cases e279
       replace hx279_0 := (HB.out.cell (World.block_lt_of_cell? w _ hx279_0)).trans hx279_0
       replace hx279_1 := (HB.out.cell (World.block_lt_of_cell? w _ hx279_1)).trans hx279_1
       replace hx279_2 := (HB.out.cell (World.block_lt_of_cell? w _ hx279_2)).trans hx279_2
       replace hx279_3 := (HB.out.cell (World.block_lt_of_cell? w _ hx279_3)).trans hx279_3
       replace p279 := eq_true p279
       replace q279 := eq_true q279
       go_wp2
       repeat (go_quiet (fail); try go_wp2)
       go_ret
       exact ⟨by first | rfl | (simp [errW_none, errW_some] <;> rfl) | (simp [*, errW_none, errW_some] <;> rfl), by repeat (first | (with_reducible first | exact HB.out | apply below_alloc | apply pw_below_drewN | apply below_drew1 | refine below_set ?_ GE278.out) | exact HB.out)⟩
      ·rw [if_neg c7] at H
       have c7b0 : (a1_0 == ((rd_T26 l0 x8_1).f0) && (a1_1 == ((rd_T26 l0 x8_1).f1) && (a1_2 == ((rd_T26 l0 x8_1).f2) && (a1_3 == ((rd_T26 l0 x8_1).f3))))) = false := by simpa using c7
       (try (have c7b1 : decide (a1_0 = ((rd_T26 l0 x8_1).f0) && (a1_1 == ((rd_T26 l0 x8_1).f1) && (a1_2 == ((rd_T26 l0 x8_1).f2) && (a1_3 == ((rd_T26 l0 x8_1).f3))))) = false := by simpa using c7))
       (try (have c7b2 : (a1_0 == ((rd_T26 l0 x8_1).f0) && (a1_1 == ((rd_T26 l0 x8_1).f1) && (a1_2 == ((rd_T26 l0 x8_1).f2) && (a1_3 == ((rd_T26 l0 x8_1).f3))))) = false := by simpa using c7))
       (try (have c7b3 : ¬ (a1_0 = ((rd_T26 l0 x8_1).f0) && (a1_1 == ((rd_T26 l0 x8_1).f1) && (a1_2 == ((rd_T26 l0 x8_1).f2) && (a1_3 == ((rd_T26 l0 x8_1).f3))))) := by simpa using c7))
       clear c7
       have H' := Aside0.mk H
       clear H
       have hcz9_0 : wr.cell? ⟨gb278, 0, none⟩ = some (.int .i64 a1_0) := (blk_cell BK278.out 0).trans rfl
       have hcz9_1 : wr.cell? ⟨gb278, 1, none⟩ = some (.int .i64 a1_1) := (blk_cell BK278.out 1).trans rfl
       have hcz9_2 : wr.cell? ⟨gb278, 2, none⟩ = some (.int .i64 a1_2) := (blk_cell BK278.out 2).trans rfl
       have hcz9_3 : wr.cell? ⟨gb278, 3, none⟩ = some (.int .i64 a1_3) := (blk_cell BK278.out 3).trans rfl
       have hfz9_0 := blk_frozen BK278.out 0
       have hfz9_1 := blk_frozen BK278.out 1
       have hfz9_2 := blk_frozen BK278.out 2
       have hfz9_3 := blk_frozen BK278.out 3
       have p279 : 0 ≤ (x8_1 : Int) := of_decide_eq_true (by first | (with_reducible assumption) | assumption)
       have q279 : x8_1 < (l0.length : Int) := of_decide_eq_true (by first | (with_reducible assumption) | assumption)
       obtain ⟨ad279, e279, hx279_0, hx279_1, hx279_2, hx279_3⟩ := at_T26 HR0.out x8_1 p279 q279
       cases e279
       replace hx279_0 := (HB.out.cell (World.block_lt_of_cell? w _ hx279_0)).trans hx279_0
       replace hx279_1 := (HB.out.cell (World.block_lt_of_cell? w _ hx279_1)).trans hx279_1
       replace hx279_2 := (HB.out.cell (World.block_lt_of_cell? w _ hx279_2)).trans hx279_2
       replace hx279_3 := (HB.out.cell (World.block_lt_of_cell? w _ hx279_3)).trans hx279_3
       replace p279 := eq_true p279
       replace q279 := eq_true q279
       go_wp2
       repeat (go_quiet (fail); try go_wp2)
       go_roundg k1
       case measure => have := HK1.out; omega
       case rel => exact ⟨(wrap64 (x8_1 + 1)), (by first | rfl | (simp; done) | (simp [*]; done)), H', ⟨by have := HK1.out; omega⟩, ⟨by (with_reducible repeat (first | refine blk_drewN ?_ _ | refine blk_drew ?_ | refine blk_alloc ?_ _)); exact BK278.out⟩, ⟨by repeat (first | (with_reducible first | exact HB.out | apply below_alloc | apply pw_below_drewN | apply below_drew1 | refine below_set ?_ GE278.out) | exact HB.out)⟩⟩
     ·rw [if_neg c6] at H
      exact absurd H (by simp)
    ·rw [if_neg c5] at H
     exact absurd H (by simp)
   ·rw [if_neg c4] at H
    have c4b0 : decide (x8_1 < (l0.length : Int)) = false := decide_eq_false c4
    clear c4
    obtain rfl := Option.some.inj H
    go_wp2
    repeat (go_quiet (fail); try go_wp2)
    go_ret
    exact ⟨by first | rfl | (simp [errW_none, errW_some] <;> rfl) | (simp [*, errW_none, errW_some] <;> rfl), by repeat (first | (with_reducible first | exact HB.out | apply below_alloc | apply pw_below_drewN | apply below_drew1 | refine below_set ?_ GE278.out) | exact HB.out)⟩
end Go.Proofs.Ytomaeijhljpgdaa.G
namespace Go.Proofs.Ytomaeijhljpgdaa.G
open Go.RowKit Go.Proofs.YtomaeijhljpgdaaW.PrintWords Go.Proofs.YtomaeijhljpgdaaW.PrintLast Go.Proofs.YtomaeijhljpgdaaW.PrintMore
attribute [local go_sem] max2_int min2_int max_two min_two max_three min_three max_four min_four   -- for this text's walks alone
set_option linter.unusedVariables false
set_option linter.unusedSimpArgs false
def putP (l : List S26) (full : Bool) (t : S26) (i : Int) : Int × List S26 × Bool := if 0 ≤ i then (i, l, full) else if 400 ≤ l.length then (0, l, true) else if full = true then (0, l, true) else ((l.length : Int), l ++ [t], false)
def SheetV (W : World) (N S : Nat) (v : Value) (l : List S26) (full : Bool) : Prop := W.heap[S]? = some (.cells #[v, .bool full] 107 (0, 0)) ∧ N ≤ S ∧ k26.R 26 W N (fun k => k ≠ S) v l
def KeepV (w W : World) (S : Nat) (v : Value) : Prop := ∀ b, b < w.heap.size → b ≠ S → v.ownBlock ≠ some b → W.heap[b]? = w.heap[b]?
theorem keepV_below {w W W' : World} {S : Nat} {v : Value} (h : KeepV w W S v) (hs : w.heap.size ≤ W.heap.size) (hb : Below W.heap.size W W') : KeepV w W' S v := fun b h1 h2 h3 => (hb.block b (Nat.lt_of_lt_of_le h1 hs)).trans (h b h1 h2 h3)
theorem keepV_drew {w W : World} {S : Nat} {v : Value} (h : KeepV w W S v) : KeepV w W.drew S v := h
theorem keepV_set {w W : World} {S : Nat} {v : Value} (h : KeepV w W S v) (j : Nat) (u : Value) : KeepV w (W.setCell ⟨S, j, none⟩ u) S v := fun b h1 h2 h3 => (Below.heap_setCell W ⟨S, j, none⟩ u b h2).trans (h b h1 h2 h3)
theorem keepV_grown {w W W' : World} {S : Nat} {v : Value} (h : KeepV w W S v) (hs : w.heap.size ≤ W.heap.size) (hg : W.grownBy W' v.ownBlock) : KeepV w W' S v := fun b h1 h2 h3 => (hg.block b (Nat.lt_of_lt_of_le h1 hs) (fun e => h3 e.symm)).trans (h b h1 h2 h3)
set_option maxHeartbeats 8000000 in
set_option maxRecDepth 100000 in
theorem impl_sheet_put.callsV (k : Nat) (S N : Nat) (v : Value) (l : List S26) (full : Bool) (t0 t1 t2 t3 i : Int) (w : World) (hS : SheetV w N S v l full) (hN : N ≤ w.heap.size) (hi : impl_Term_91.f k l t0 t1 t2 t3 = some i) :
    Calls Try.prog 56 #[.pointer (some ⟨S, 0, none⟩), .agg #[.int .i64 t0, .int .i64 t1, .int .i64 t2, .int .i64 t3]] w fun e w' => e = .returned (.int .i64 (putP l full ⟨t0, t1, t2, t3⟩ i).1) ∧ (∃ v', SheetV w' N S v' (putP l full ⟨t0, t1, t2, t3⟩ i).2.1 (putP l full ⟨t0, t1, t2, t3⟩ i).2.2 ∧ ∀ k, v'.ownBlock = some k → v.ownBlock = some k ∨ w.heap.size ≤ k) ∧ KeepV w w' S v ∧ Below N w w' := by
  obtain ⟨hb, hns, hr⟩ := hS
  obtain ⟨A, c, rfl⟩ := Kd.R_slice hr
  have BS := Aside0.mk hb
  have HNS := Aside0.mk hns
  have HO := Aside0.mk hr
  have HN := Aside0.mk hN
  have HI := Aside0.mk hi
  have HB := Aside0.mk (Below.refl N w)
  have HV : Aside0 (KeepV w w S (.slice A l.length c)) := Aside0.mk (fun _ _ _ _ => rfl)
  clear hb hns hr hN hi
  go_enter Try.func56, Try.ntmps56
  go_wp2_with (first | ((with_reducible refine gate_dst (N := 3) rfl ?_); refine box_event ?hg (N := 3) ?hd (cs := #[.int .i64 t0, .int .i64 t1, .int .i64 t2, .int .i64 t3]) (t := 26) ?hr ?_; (case hd => rfl); (case hg => rfl); (case hr => first | (go_simp; done) | (go_simp; rfl)); intro g3 hg w2 hbox hb; have n0_ := Aside0.mk (below_stepN HB.out (Nat.le_trans HN.out HB.out.size) hb); have n1_ := Aside0.mk hbox; have n2_ := Aside0.mk (blk_below BS.out hb); have n3_ := Aside0.mk (Kd.R_below HO.out hb); have n4_ := Aside0.mk (show S ≠ g3 by rw [hg]; exact Nat.ne_of_lt (blk_lt BS.out)); have n5_ := Aside0.mk (show N ≤ g3 by rw [hg]; exact Nat.le_trans HN.out HB.out.size); have n6_ := Aside0.mk (show ∀ k, (.slice A l.length c : Value).ownBlock = some k → k ≠ g3 from fun k hk => by obtain ⟨_, hi⟩ := Kd.R_own HO.out; rw [hg]; exact Nat.ne_of_lt (own_lt hi k hk)); have v0_ := Aside0.mk (keepV_below HV.out HB.out.size hb); clear HB BS HO HV; have HV := v0_; clear v0_; have HB := n0_; have B3 := n1_; have BS := n2_; have HO := n3_; have NE3 := n4_; have GE3 := n5_; have OW3 := n6_; clear n0_ n1_ n2_ n3_ n4_ n5_ n6_ hb hbox hg))
  have n0_ := Aside0.mk (blk_drew BS.out)
  have n1_ := Aside0.mk (blk_drew B3.out)
  have n2_ := Aside0.mk (HB.out.drew)
  have n3_ := Aside0.mk (Kd.R_drew HO.out)
  clear BS B3 HB HO
  have v0_ := Aside0.mk (keepV_drew HV.out)
  clear HV
  have HV := v0_
  clear v0_
  have BS := n0_; have B3 := n1_; have HB := n2_; have HO := n3_
  clear n0_ n1_ n2_ n3_
  refine start_ (n := 7) (S := fun w' => w'.cell? ⟨S, 0, none⟩ = some (.slice A l.length c) ∧ w'.cell? ⟨g3, 0, none⟩ = some (.int .i64 t0) ∧ w'.cell? ⟨g3, 1, none⟩ = some (.int .i64 t1) ∧ w'.cell? ⟨g3, 2, none⟩ = some (.int .i64 t2) ∧ w'.cell? ⟨g3, 3, none⟩ = some (.int .i64 t3)) (ds := []) #[false, false, false, false, false, false, false] (by kernel_rfl) rfl rfl ⟨(blk_cell BS.out 0).trans rfl, (blk_cell B3.out 0).trans rfl, (blk_cell B3.out 1).trans rfl, (blk_cell B3.out 2).trans rfl, (blk_cell B3.out 3).trans rfl⟩ (fun hHeld => ?_)
  generalize w2.drew = w3 at BS B3 HB HO HV hHeld ⊢
  refine pure_ (i := 0) (N := some 6) (v := ?_) (a' := ?_) #[true, false, false, false, false, false, false] rfl rfl (by kernel_rfl) (fun _ _ _ h => h) (Or.inl ⟨by rfl, ?_⟩) ?_ ?_
  rotate_left
  · intro w'
    go_simp
    with_reducible rfl
  rotate_left
  · simp only [Act.put, lA_, lZ_, lS_, i64_w, i32_w]
    rfl
  refine pure_ (i := 1) (N := some 7) (v := ?_) (a' := ?_) #[true, true, false, false, false, false, false] rfl rfl (by kernel_rfl) (fun _ _ _ h => h) (Or.inl ⟨by rfl, ?_⟩) ?_ ?_
  rotate_left
  · intro w'
    go_simp
    with_reducible rfl
  rotate_left
  · simp only [Act.put, lA_, lZ_, lS_, i64_w, i32_w]
    rfl
  refine pure_ (i := 2) (N := some 8) (v := ?_) (a' := ?_) #[true, true, true, false, false, false, false] rfl rfl (by kernel_rfl) (fun _ _ _ h => h) (Or.inl ⟨by rfl, ?_⟩) ?_ ?_
  rotate_left
  · intro w'
    go_simp
    with_reducible rfl
  rotate_left
  · simp only [Act.put, lA_, lZ_, lS_, i64_w, i32_w]
    rfl
  refine take_ (i := 3) (N := some 9) (v := ?_) (a' := ?_) #[true, true, true, true, false, false, false] rfl rfl (by kernel_rfl) (fun _ _ _ h => h) (Or.inl ⟨by rfl, ?_⟩) hHeld ?_ ?_
  rotate_left
  · rintro w' ⟨s0, s1, s2, s3, s4⟩
    go_simp
    with_reducible rfl
  rotate_left
  · simp only [Act.put, lA_, lZ_, lS_, i64_w, i32_w]
    rfl
  refine take_ (i := 4) (N := some 10) (v := ?_) (a' := ?_) #[true, true, true, true, true, false, false] rfl rfl (by kernel_rfl) (fun _ _ _ h => h) (Or.inl ⟨by rfl, ?_⟩) hHeld ?_ ?_
  rotate_left
  · rintro w' ⟨s0, s1, s2, s3, s4⟩
    go_simp
    with_reducible rfl
  rotate_left
  · simp only [Act.put, lA_, lZ_, lS_, i64_w, i32_w]
    rfl
  refine one_ (i := 5) (N := some 11) #[true, true, true, true, true, true, false] rfl rfl (by kernel_rfl) (by decide) (fun K hK => ?_)
  refine goes_ Try.func91 (by kernel_rfl) rfl #[.slice A l.length c, .agg #[.int .i64 t0, .int .i64 t1, .int .i64 t2, .int .i64 t3]] (by rfl) rfl rfl (by (try simp only [List.map_toArray, List.map_cons, List.map_nil]); first | done | rfl) ?_
  with_reducible refine (impl_Term_91.calls k A c l t0 t1 t2 t3 i _ (Kd.R_reads' HO.out).2.2 (Kd.R_reads' HO.out).2.1 HI.out).mono ?_
  rintro e w4 ⟨rfl, hb⟩
  refine ⟨_, rfl, ?_⟩
  have n0_ := Aside0.mk (blk_below BS.out hb)
  have n1_ := Aside0.mk (blk_below B3.out hb)
  have n2_ := Aside0.mk (below_stepN HB.out (Nat.le_trans HN.out HB.out.size) hb)
  have n3_ := Aside0.mk (Kd.R_below HO.out hb)
  have v0_ := Aside0.mk (keepV_below HV.out HB.out.size hb)
  clear BS B3 HB HO HV hb
  have HV := v0_
  clear v0_
  have BS := n0_; have B3 := n1_; have HB := n2_; have HO := n3_
  clear n0_ n1_ n2_ n3_
  refine hK.out _ _ ⟨(blk_cell BS.out 0).trans rfl, (blk_cell B3.out 0).trans rfl, (blk_cell B3.out 1).trans rfl, (blk_cell B3.out 2).trans rfl, (blk_cell B3.out 3).trans rfl⟩ (fun hHeld => ?_)
  clear hK K
  refine norm_ (a' := ?_) ?_ ?_
  rotate_left
  · show Act.put _ (some 11) _ = _
    simp only [Act.put, lA_, lZ_, lS_, i64_w, i32_w]
    rfl
  refine pure_ (i := 6) (N := some 5) (v := ?_) (a' := ?_) #[true, true, true, true, true, true, true] rfl rfl (by kernel_rfl) (fun _ _ _ h => h) (Or.inl ⟨by rfl, ?_⟩) ?_ ?_
  rotate_left
  · intro w'
    go_simp
    with_reducible rfl
  rotate_left
  · simp only [Act.put, lA_, lZ_, lS_, i64_w, i32_w]
    rfl
  refine done_ (by kernel_rfl) ?_
  by_cases h0 : 0 ≤ i
  · have h1 : decide (i ≥ 0) = true := decide_eq_true h0
    have h2 : decide (0 ≤ i) = true := decide_eq_true h0
    have HE := Aside0.mk (show putP l full (⟨t0, t1, t2, t3⟩ : S26) i = (i, l, full) by unfold putP; rw [if_pos h0])
    go_wp2
    go_ret
    rw [HE.out]
    exact ⟨rfl, ⟨_, ⟨BS.out, HNS.out, HO.out⟩, fun k hk => .inl hk⟩, HV.out, HB.out⟩
  · have h1 : decide (i ≥ 0) = false := decide_eq_false h0
    have h2 : decide (0 ≤ i) = false := decide_eq_false h0
    have p0_ : w4.cell? ⟨S, 0, none⟩ = some (.slice A l.length c) := (blk_cell BS.out 0).trans rfl; have p1_ : w4.cell? ⟨S, 1, none⟩ = some (.bool full) := (blk_cell BS.out 1).trans rfl
    have q1_ := blk_frozen BS.out 1
    by_cases h4 : 400 ≤ l.length
    · have h5 : decide ((l.length : Int) ≥ 400) = true := decide_eq_true (by omega)
      have h6 : decide ((400 : Int) ≤ (l.length : Int)) = true := decide_eq_true (by omega)
      have HE := Aside0.mk (show putP l full (⟨t0, t1, t2, t3⟩ : S26) i = (0, l, true) by unfold putP; rw [if_neg h0, if_pos h4])
      go_wp2
      go_ret
      rw [HE.out]
      exact ⟨rfl, ⟨_, ⟨blk_put BS.out 1 _ rfl, HNS.out, Kd.R_far HO.out (p := ⟨S, 1, none⟩) (fun k hk => hk) _⟩, fun k hk => .inl hk⟩, keepV_set HV.out 1 _, HB.out.setCell (p := ⟨S, 1, none⟩) HNS.out _⟩
    · have h5 : decide ((l.length : Int) ≥ 400) = false := decide_eq_false (by omega)
      have h6 : decide ((400 : Int) ≤ (l.length : Int)) = false := decide_eq_false (by omega)
      cases full with
      | true =>
        have HE := Aside0.mk (show putP l true (⟨t0, t1, t2, t3⟩ : S26) i = (0, l, true) by unfold putP; rw [if_neg h0, if_neg h4, if_pos rfl])
        go_wp2
        go_ret
        rw [HE.out]
        exact ⟨rfl, ⟨_, ⟨blk_put BS.out 1 _ rfl, HNS.out, Kd.R_far HO.out (p := ⟨S, 1, none⟩) (fun k hk => hk) _⟩, fun k hk => .inl hk⟩, keepV_set HV.out 1 _, HB.out.setCell (p := ⟨S, 1, none⟩) HNS.out _⟩
      | false =>
        have HE := Aside0.mk (show putP l false (⟨t0, t1, t2, t3⟩ : S26) i = ((l.length : Int), l ++ [(⟨t0, t1, t2, t3⟩ : S26)], false) by unfold putP; rw [if_neg h0, if_neg h4, if_neg (by decide)])
        have HLL := Aside0.mk (show l.length < 400 by omega)
        go_wp2_with fail
        clear p0_ p1_ q1_
        have n0_ := Aside0.mk (blk_drew BS.out)
        have n1_ := Aside0.mk (blk_drew B3.out)
        have n2_ := Aside0.mk (HB.out.drew)
        have n3_ := Aside0.mk (Kd.R_drew HO.out)
        clear BS B3 HB HO
        have v0_ := Aside0.mk (keepV_drew HV.out)
        clear HV
        have HV := v0_
        clear v0_
        have BS := n0_; have B3 := n1_; have HB := n2_; have HO := n3_
        clear n0_ n1_ n2_ n3_
        refine start_ (n := 11) (S := fun w' => w'.cell? ⟨S, 0, none⟩ = some (.slice A l.length c) ∧ w'.cell? ⟨g3, 0, none⟩ = some (.int .i64 t0) ∧ w'.cell? ⟨g3, 1, none⟩ = some (.int .i64 t1) ∧ w'.cell? ⟨g3, 2, none⟩ = some (.int .i64 t2) ∧ w'.cell? ⟨g3, 3, none⟩ = some (.int .i64 t3)) (ds := [10]) #[false, false, false, false, false, false, false, false, false, false, false] (by kernel_rfl) rfl rfl ⟨(blk_cell BS.out 0).trans rfl, (blk_cell B3.out 0).trans rfl, (blk_cell B3.out 1).trans rfl, (blk_cell B3.out 2).trans rfl, (blk_cell B3.out 3).trans rfl⟩ (fun hHeld => ?_)
        generalize w4.drew = w5 at BS B3 HB HO HV hHeld ⊢
        refine pure_ (i := 0) (N := some 30) (v := ?_) (a' := ?_) #[true, false, false, false, false, false, false, false, false, false, false] rfl rfl (by kernel_rfl) (fun _ _ _ h => h) (Or.inl ⟨by rfl, ?_⟩) ?_ ?_
        rotate_left
        · intro w'
          go_simp
          with_reducible rfl
        rotate_left
        · simp only [Act.put, lA_, lZ_, lS_, i64_w, i32_w]
          rfl
        refine pure_ (i := 1) (N := some 31) (v := ?_) (a' := ?_) #[true, true, false, false, false, false, false, false, false, false, false] rfl rfl (by kernel_rfl) (fun _ _ _ h => h) (Or.inl ⟨by rfl, ?_⟩) ?_ ?_
        rotate_left
        · intro w'
          go_simp
          with_reducible rfl
        rotate_left
        · simp only [Act.put, lA_, lZ_, lS_, i64_w, i32_w]
          rfl
        refine pure_ (i := 2) (N := some 32) (v := ?_) (a' := ?_) #[true, true, true, false, false, false, false, false, false, false, false] rfl rfl (by kernel_rfl) (fun _ _ _ h => h) (Or.inl ⟨by rfl, ?_⟩) ?_ ?_
        rotate_left
        · intro w'
          go_simp
          with_reducible rfl
        rotate_left
        · simp only [Act.put, lA_, lZ_, lS_, i64_w, i32_w]
          rfl
        refine pure_ (i := 3) (N := some 33) (v := ?_) (a' := ?_) #[true, true, true, true, false, false, false, false, false, false, false] rfl rfl (by kernel_rfl) (fun _ _ _ h => h) (Or.inl ⟨by rfl, ?_⟩) ?_ ?_
        rotate_left
        · intro w'
          go_simp
          with_reducible rfl
        rotate_left
        · simp only [Act.put, lA_, lZ_, lS_, i64_w, i32_w]
          rfl
        refine take_ (i := 4) (N := some 34) (v := ?_) (a' := ?_) #[true, true, true, true, true, false, false, false, false, false, false] rfl rfl (by kernel_rfl) (fun _ _ _ h => h) (Or.inl ⟨by rfl, ?_⟩) hHeld ?_ ?_
        rotate_left
        · rintro w' ⟨s0, s1, s2, s3, s4⟩
          go_simp
          with_reducible rfl
        rotate_left
        · simp only [Act.put, lA_, lZ_, lS_, i64_w, i32_w]
          rfl
        refine take_ (i := 5) (N := some 35) (v := ?_) (a' := ?_) #[true, true, true, true, true, true, false, false, false, false, false] rfl rfl (by kernel_rfl) (fun _ _ _ h => h) (Or.inl ⟨by rfl, ?_⟩) hHeld ?_ ?_
        rotate_left
        · rintro w' ⟨s0, s1, s2, s3, s4⟩
          go_simp
          with_reducible rfl
        rotate_left
        · simp only [Act.put, lA_, lZ_, lS_, i64_w, i32_w]
          rfl
        refine one_ (i := 6) (N := some 36) #[true, true, true, true, true, true, true, false, false, false, false] rfl rfl (by kernel_rfl) (by decide) (fun K hK => ?_)
        refine value_ (w1 := ?_) (v := ?_) (by rfl) rfl ?_ ?_
        rotate_left 2
        · go_simp
          constructor
          · rfl
          · rfl
        refine hK.out _ _ ⟨(blk_cell (blk_alloc BS.out _) 0).trans rfl, (blk_cell (blk_alloc B3.out _) 0).trans rfl, (blk_cell (blk_alloc B3.out _) 1).trans rfl, (blk_cell (blk_alloc B3.out _) 2).trans rfl, (blk_cell (blk_alloc B3.out _) 3).trans rfl⟩ (fun hHeld => ?_)
        clear hK K
        refine norm_ (a' := ?_) ?_ ?_
        rotate_left
        · show Act.put _ (some 36) _ = _
          simp only [Act.put, lA_, lZ_, lS_, i64_w, i32_w]
          rfl
        refine one_ (i := 7) (N := some 37) #[true, true, true, true, true, true, true, true, false, false, false] rfl rfl (by kernel_rfl) (by decide) (fun K hK => ?_)
        refine Kd.R_append_step k26 (w0 := w) N (by rfl) (.tmp 34) (.tmp 36) 24 26 (.agg #[(.int .i64 0), (.int .i64 0), (.int .i64 0), (.int .i64 0)]) 32 rfl Try.underlying24 info26 rfl (by decide) (by omega) (.slice A l.length c) l (⟨t0, t1, t2, t3⟩ : S26) [.int .i64 t0, .int .i64 t1, .int .i64 t2, .int .i64 t3] (fun k => k ≠ S) (fun _ => False) rfl rfl ?aP (fun _ hk => hk.elim) ?aF ?aO ?aB ?aS ?aL ?_
        (case aP => exact k26_mkM _ _ _ (⟨t0, t1, t2, t3⟩ : S26))
        (case aB => exact HB.out)
        (case aF => exact fun k hk => Nat.ne_of_gt (Nat.lt_of_lt_of_le (blk_lt BS.out) hk))
        (case aO => exact HO.out)
        (case aS => exact Nat.le_trans HN.out HB.out.size)
        (case aL => have := HLL.out; omega)
        intro v7 w6 ho hb hg hat
        have n0_ := Aside0.mk (blk_grown BS.out hg (fun e => (HO.out.1 S e.symm) rfl))
        have n1_ := Aside0.mk (blk_grown B3.out hg (fun e => OW3.out g3 e.symm rfl))
        have v0_ := Aside0.mk (keepV_grown HV.out HB.out.size hg)
        have HAT : Aside0 (∀ k, v7.ownBlock = some k → (.slice A l.length c : Value).ownBlock = some k ∨ w.heap.size ≤ k) := Aside0.mk (fun k hk => by
          rcases hat with e | ⟨b, e, hle⟩
          · exact .inl (e ▸ hk)
          · rw [e] at hk; injection hk with hk; rw [← hk]; exact .inr (Nat.le_trans HB.out.size hle))
        clear BS B3 HB HO HV
        have HV := v0_
        clear v0_
        have BS := n0_; have B3 := n1_; have HB := Aside0.mk hb; have HO := Aside0.mk ho
        clear n0_ n1_ ho hb hg hat
        obtain ⟨A7, c7, e7⟩ := Kd.R_slice HO.out
        rw [show (l ++ [(⟨t0, t1, t2, t3⟩ : S26)]).length = l.length + 1 by simp] at e7
        subst e7
        refine hK.out _ _ ⟨(blk_cell BS.out 0).trans rfl, (blk_cell B3.out 0).trans rfl, (blk_cell B3.out 1).trans rfl, (blk_cell B3.out 2).trans rfl, (blk_cell B3.out 3).trans rfl⟩ (fun hHeld => ?_)
        clear hK K
        refine norm_ (a' := ?_) ?_ ?_
        rotate_left
        · show Act.put _ (some 37) _ = _
          simp only [Act.put, lA_, lZ_, lS_, i64_w, i32_w]
          rfl
        refine pure_ (i := 8) (N := some 38) (v := ?_) (a' := ?_) #[true, true, true, true, true, true, true, true, true, false, false] rfl rfl (by kernel_rfl) (fun _ _ _ h => h) (Or.inl ⟨by rfl, ?_⟩) ?_ ?_
        rotate_left
        · intro w'
          go_simp
          with_reducible rfl
        rotate_left
        · simp only [Act.put, lA_, lZ_, lS_, i64_w, i32_w]
          rfl
        refine pure_ (i := 9) (N := some 39) (v := ?_) (a' := ?_) #[true, true, true, true, true, true, true, true, true, true, false] rfl rfl (by kernel_rfl) (fun _ _ _ h => h) (Or.inl ⟨by rfl, ?_⟩) ?_ ?_
        rotate_left
        · intro w'
          go_simp
          with_reducible rfl
        rotate_left
        · simp only [Act.put, lA_, lZ_, lS_, i64_w, i32_w]
          rfl
        refine last_ (i := 10) (N := none) #[true, true, true, true, true, true, true, true, true, true, true] rfl rfl (by kernel_rfl) (by decide) (fun K hK => ?_)
        have hs_ : w6.cell? ⟨S, 0, none⟩ = some (.slice A l.length c) := (blk_cell BS.out 0).trans rfl
        have hf_ := blk_frozen BS.out 0
        refine skip_ (w1 := ?_) (by rfl) rfl ?_ ?_
        rotate_left
        · go_simp
          rfl
        refine hK.out _ _ ?_
        clear hK K
        refine done_ (by kernel_rfl) ?_
        have n0_ : Aside0 ((w6.setCell ⟨S, 0, none⟩ (.slice A7 (l.length + 1) c7)).heap[S]? = some (.cells #[.slice A7 (l.length + 1) c7, .bool false] 107 (0, 0))) := Aside0.mk (blk_put BS.out 0 (.slice A7 (l.length + 1) c7) rfl)
        have n2_ := Aside0.mk (HB.out.setCell (p := ⟨S, 0, none⟩) HNS.out (.slice A7 (l.length + 1) c7))
        have n3_ := Aside0.mk (Kd.R_far HO.out (p := ⟨S, 0, none⟩) (fun k hk => hk) (.slice A7 (l.length + 1) c7))
        have v0_ := Aside0.mk (keepV_set HV.out 0 (.slice A7 (l.length + 1) c7))
        clear BS HB HO HV B3 hs_ hf_
        have HV := v0_
        clear v0_
        have BS := n0_; have HB := n2_; have HO := n3_
        clear n0_ n2_ n3_
        generalize w6.setCell ⟨S, 0, none⟩ (.slice A7 (l.length + 1) c7) = w7 at BS HB HO HV ⊢
        have p0_ : w7.cell? ⟨S, 0, none⟩ = some (.slice A7 (l.length + 1) c7) := (blk_cell BS.out 0).trans rfl
        go_wp2
        go_ret
        rw [HE.out]
        exact ⟨by simp, ⟨_, ⟨BS.out, HNS.out, HO.out⟩, HAT.out⟩, HV.out, HB.out⟩
end Go.Proofs.Ytomaeijhljpgdaa.G
namespace Go.Proofs.Ytomaeijhljpgdaa.G
open Go.RowKit Go.Proofs.YtomaeijhljpgdaaW.PrintWords Go.Proofs.YtomaeijhljpgdaaW.PrintLast Go.Proofs.YtomaeijhljpgdaaW.PrintMore
attribute [local go_sem] max2_int min2_int max_two min_two max_three min_three max_four min_four   -- for this text's walks alone
set_option linter.unusedVariables false
set_option linter.unusedSimpArgs false
section
open Go.Shelf
attribute [local go_sem] Oper.semAt_some
def backTo (zs : List Int) (k : Nat) : List (Int × Int) := (List.range k).map fun j => (((zs.length - 1 - j : Nat) : Int), zs[zs.length - 1 - j]?.getD 0)
theorem backTo_succ (zs : List Int) (k : Nat) : backTo zs (k + 1) = backTo zs k ++ [(((zs.length - 1 - k : Nat) : Int), zs[zs.length - 1 - k]?.getD 0)] := by simp [backTo, List.range_succ]
theorem backTo_length (zs : List Int) (k : Nat) : (backTo zs k).length = k := by simp [backTo]
theorem add_block_ (a : Addr) (j : Nat) : (a.add j).block = a.block := by unfold Addr.add; split <;> rfl
theorem cell_block_ {A B : World} {p : Addr} (h : B.heap[p.block]? = A.heap[p.block]?) : B.cell? p = A.cell? p := by simp only [World.cell?, h]
set_option maxRecDepth 100000 in
set_option maxHeartbeats 2000000 in
theorem backward1_in (n : Nat) (hn : 1 ≤ n) (l Bs cap : Nat) (ad : Addr) (zs : List Int) (hz : zs.length ≤ 9223372036854775807) (J Jx : List (Int × Int) → World → Prop)
    (hY : ∀ pre x W, J pre W → pre.length < zs.length → YieldAt Fence.wide (n - 1) Try.prog l #[.int .i64 x.1, .int .i64 x.2] W fun e W' =>
      (e = .returned (.bool true) ∧ J (pre ++ [x]) W' ∧ (W'.heap[Bs]? = W.heap[Bs]? ∧ W'.heap[ad.block]? = W.heap[ad.block]?)) ∨ (e = .returned (.bool false) ∧ Jx (pre ++ [x]) W'))
    (W : World) (hBs : W.cell? ⟨Bs, 0, none⟩ = some (.slice (some ad) zs.length cap)) (hc : ∀ j, j < zs.length → W.cell? (ad.add j) = some (.int .i64 (zs[j]?.getD 0))) (h0 : J [] W) :
    CallsIn Fence.wide n Try.prog 108 #[.func (.yield l) #[] #[], .pointer (some ⟨Bs, 0, none⟩)] W fun e W' => (∃ v, e = .returned v) ∧
      ((∃ ys, ys = backTo zs zs.length ∧ J ys W') ∨ (∃ pre, True ∧ Jx pre W')) := by
  refine callsIn_of_wp Try.func108 rfl trivial ?_ rfl
  simp only [Try.ntmps108, List.size_toArray, List.length_cons, List.length_nil, Nat.reduceAdd, Nat.reduceSub, Array.replicate_succ, Array.replicate_zero, List.push_toArray, List.append_toArray, List.nil_append, List.cons_append]
  gi_wp2
  gi_loopw [3] (fun i wr => ∃ k : Nat, k ≤ zs.length ∧ i = .int .i64 ((zs.length : Int) - 1 - k) ∧ J (backTo zs k) wr ∧ (wr.heap[Bs]? = W.heap[Bs]? ∧ wr.heap[ad.block]? = W.heap[ad.block]?))
    (fun i _ => (intOf i + 1).toNat)
  case atStart => exact ⟨0, Nat.zero_le _, by first | (simp; done) | (congr 1; unfold wrap64; omega), h0, rfl, rfl⟩
  case round =>
    obtain ⟨k, hk, rfl, hJs, hnx1, hnx2⟩ := hrel
    have hBr : wr.cell? ⟨Bs, 0, none⟩ = some (.slice (some ad) zs.length cap) := by rw [← hBs]; simp only [World.cell?, hnx1]
    by_cases hlt : k < zs.length
    · obtain ⟨fn, tmps, assign, body, hy, hR⟩ := hY _ (((zs.length - 1 - k : Nat) : Int), zs[zs.length - 1 - k]?.getD 0) wr hJs (by rw [backTo_length]; exact hlt)
      dsimp only at hy
      have hcx : wr.cell? (ad.add (zs.length - 1 - k)) = some (.int .i64 (zs[zs.length - 1 - k]?.getD 0)) := (cell_block_ (by rw [add_block_]; exact hnx2)).trans (hc _ (by omega))
      have hi : (zs.length : Int) - 1 - k = ((zs.length - 1 - k : Nat) : Int) := by omega
      rw [hi]
      have hge : decide (((zs.length - 1 - k : Nat) : Int) ≥ 0) = true := decide_eq_true (by omega)
      have hlt2 : ((zs.length - 1 - k : Nat) : Int) < (zs.length : Int) := by omega
      gi_wp2
      refine hR.mono ?_
      rintro e W3 (⟨rfl, hJ3, hk3, hk4⟩ | ⟨rfl, hJx3⟩)
      · gi_wp2
        go_roundw
        case rel => exact ⟨k + 1, by omega, by first | (congr 1; first | omega | (unfold wrap64; omega)) | (simp; omega), by rw [backTo_succ]; exact hJ3, hk3.trans hnx1, hk4.trans hnx2⟩
        case measure => first | (simp [intOf]; done) | (simp [intOf]; omega)
      · gi_wp2
        refine bodyPost_ret (results_none rfl _ _ _) rfl ?_
        exact ⟨⟨_, rfl⟩, .inr ⟨_, trivial, hJx3⟩⟩
    · obtain rfl : k = zs.length := by omega
      have hi : (zs.length : Int) - 1 - (zs.length : Int) = -1 := by omega
      rw [hi]
      gi_wp2
      go_end0
      exact ⟨⟨_, rfl⟩, .inl ⟨_, rfl, hJs⟩⟩
set_option maxHeartbeats 1000000 in
theorem backward_in (a : Option Addr) (len cap : Nat) (w : World) :
    Calls Try.prog 96 #[.slice a len cap] w fun e w' => e = .returned (.func (.func 108) #[] #[.pointer (some ⟨w.heap.size, 0, none⟩)]) ∧ w' = w.alloc (.cells #[.slice a len cap] 33) := by
  have hmf : ∀ (fn : Fn) (first cap : Array Value) (w : World), (Instr.makeFunc fn first cap).run Try.prog w = .ok (.func fn first cap) w := fun _ _ _ _ => rfl
  go_enter Try.func96, Try.ntmps96
  go_wp2
  go_ret
  exact ⟨rfl, rfl⟩
theorem backward_stops (n : Nat) (hn : 1 ≤ n) (Bs cap : Nat) (ad : Addr) (zs : List Int) (hz : zs.length ≤ 9223372036854775807) (w : World) (hBs : w.cell? ⟨Bs, 0, none⟩ = some (.slice (some ad) zs.length cap)) (hb : ad.block < w.heap.size) (hc : ∀ j, j < zs.length → w.cell? (ad.add j) = some (.int .i64 (zs[j]?.getD 0))) :
    SeqStopsK Fence.wide n Try.prog 108 #[.pointer (some ⟨Bs, 0, none⟩)] (fun x : Int × Int => #[Value.int .i64 x.1, Value.int .i64 x.2]) (fun A B => B.heap[Bs]? = A.heap[Bs]? ∧ B.heap[ad.block]? = A.heap[ad.block]?) (fun ys => ys = backTo zs zs.length) (fun _ => True) zs.length w := fun l J Jx W hW _ _ hY h0 => by
  have hBs' := (hW.cell (p := ⟨Bs, 0, none⟩) (World.block_lt_of_cell? w _ hBs)).trans hBs
  refine (backward1_in n hn l Bs cap ad zs hz J Jx hY W hBs' (fun j hj => (hW.cell (p := ad.add j) (by rw [add_block_]; exact hb)).trans (hc j hj)) h0).mono ?_
  rintro e W' ⟨he, ⟨ys, rfl, hj⟩ | ⟨pre, _, hj⟩⟩
  · exact ⟨he, .inl ⟨_, rfl, hj⟩⟩
  · exact ⟨he, .inr ⟨_, trivial, hj⟩⟩
end
end Go.Proofs.Ytomaeijhljpgdaa.G
namespace Go.Proofs.Ytomaeijhljpgdaa.G
open Go.RowKit Go.Proofs.YtomaeijhljpgdaaW.PrintWords Go.Proofs.YtomaeijhljpgdaaW.PrintLast Go.Proofs.YtomaeijhljpgdaaW.PrintMore
attribute [local go_sem] max2_int min2_int max_two min_two max_three min_three max_four min_four   -- for this text's walks alone
set_option linter.unusedVariables false
set_option linter.unusedSimpArgs false
def tix (l : List S26) (x : S26) (i : Nat) : Int :=
  match (l.drop i).findIdx? fun y => eq4 x y with
  | some j => ((i + j : Nat) : Int)
  | none => -1
theorem tix_l0 (l : List S26) (hl : l.length ≤ 400) (x : S26) (d : Nat) : ∀ (k i : Nat), i + d = l.length → d < k → impl_Term_91.l0 k l (l.length : Int) i x.f0 x.f1 x.f2 x.f3 = some (tix l x i) := by
  induction d with
  | zero =>
    intro k i hi hk
    obtain ⟨k, rfl⟩ : ∃ m, k = m + 1 := ⟨k - 1, by omega⟩
    simp only [impl_Term_91.l0]; rw [if_neg (by omega)]; unfold tix; rw [List.drop_of_length_le (by omega)]; rfl
  | succ d ih =>
    intro k i hi hk
    obtain ⟨k, rfl⟩ : ∃ m, k = m + 1 := ⟨k - 1, by omega⟩
    simp only [impl_Term_91.l0]
    have hw : wrap64 ((i : Int) + 1) = (i : Int) + 1 := by unfold wrap64; omega
    rw [if_pos (by omega), if_pos (by omega), if_pos (by omega), hw]
    have e := ih k (i + 1) (by omega) (by omega)
    have e' : impl_Term_91.l0 k l (l.length : Int) ((i : Int) + 1) x.f0 x.f1 x.f2 x.f3 = some (tix l x (i + 1)) := by simpa using e
    rw [e']
    have hd : l.drop i = rd_T26 l (i : Int) :: l.drop (i + 1) := by
      rw [List.drop_eq_getElem_cons (by omega)]
      simp [rd_T26, List.getD, List.getElem?_eq_getElem (show i < l.length by omega)]
    have sw : (x.f0 == (rd_T26 l i).f0 && (x.f1 == (rd_T26 l i).f1 && (x.f2 == (rd_T26 l i).f2 && (x.f3 == (rd_T26 l i).f3)))) = eq4 x (rd_T26 l i) := rfl
    rw [sw]
    unfold tix
    rw [hd, List.findIdx?_cons]
    cases h : eq4 x (rd_T26 l i)
    · simp only [Bool.false_eq_true, if_false]
      cases (l.drop (i + 1)).findIdx? fun y => eq4 x y with
      | none => rfl
      | some j => simp; omega
    · simp
theorem tix_f (l : List S26) (hl : l.length ≤ 400) (x : S26) : impl_Term_91.f 402 l x.f0 x.f1 x.f2 x.f3 = some (tix l x 0) := by
  have h := tix_l0 l hl x l.length 402 0 (by omega) (by omega)
  have h' : impl_Term_91.l0 402 l (l.length : Int) 0 x.f0 x.f1 x.f2 x.f3 = some (tix l x 0) := by simpa using h
  exact h'
def putT (l : List S26) (full : Bool) (t : S26) : Int × List S26 × Bool := putP l full t (tix l t 0)
theorem putT_len {l : List S26} {full : Bool} {t : S26} (hl : l.length ≤ 400) : (putT l full t).2.1.length ≤ 400 := by
  unfold putT putP
  split
  · exact hl
  · split
    · exact hl
    · split
      · exact hl
      · simp; omega
set_option maxHeartbeats 4000000 in
set_option maxRecDepth 100000 in
theorem impl_sheet_name.callsV (S N : Nat) (v : Value) (l : List S26) (full : Bool) (n : Int) (w : World) (hS : SheetV w N S v l full) (hN : N ≤ w.heap.size) (hl : l.length ≤ 400) :
    Calls Try.prog 95 #[.pointer (some ⟨S, 0, none⟩), .int .i64 n] w fun e w' => e = .returned (.int .i64 (putT l full ⟨1, 0, 0, n⟩).1) ∧ (∃ v', SheetV w' N S v' (putT l full ⟨1, 0, 0, n⟩).2.1 (putT l full ⟨1, 0, 0, n⟩).2.2 ∧ ∀ k, v'.ownBlock = some k → v.ownBlock = some k ∨ w.heap.size ≤ k) ∧ KeepV w w' S v ∧ Below N w w' := by
  have HC := Aside0.mk (impl_sheet_put.callsV 402 S N v l full 1 0 0 n _ w hS hN (tix_f l hl ⟨1, 0, 0, n⟩))
  unfold putT
  clear hS hN
  generalize putP l full ⟨1, 0, 0, n⟩ (tix l ⟨1, 0, 0, n⟩ 0) = r at HC ⊢
  go_enter Try.func95, Try.ntmps95
  go_wp2_with (go_at_call 56; refine HC.out.mono ?_; rintro e w' ⟨rfl, hs, hk, hb⟩)
  go_ret
  exact ⟨rfl, hs, hk, hb⟩
def StV (T : Nat) (W : World) (N S : Nat) (v x : Value) (l : List S26) : Prop := W.heap[S]? = some (.cells #[v, x] T (0, 0)) ∧ N ≤ S ∧ k26.R 26 W N (fun k => k ≠ S) v l
def KeepT (T N : Nat) (w W : World) : Prop := Kept w W (fun k => N ≤ k ∧ ∃ cs q, w.heap[k]? = some (.cells cs q (0, 0)) ∧ (q = T ∨ q = 26))
theorem KeepT.refl (T N : Nat) (w : World) : KeepT T N w w := Kept.refl w _
theorem KeepT.trans {T N : Nat} {a b c : World} (h : KeepT T N a b) (k : KeepT T N b c) : KeepT T N a c :=
  ⟨Nat.le_trans h.1 k.1, fun i hi hn => (k.2 i (Nat.lt_of_lt_of_le hi h.1) (fun ⟨h1, cs, q, e, hq⟩ => hn ⟨h1, cs, q, (h.2 i hi hn).symm.trans e, hq⟩)).trans (h.2 i hi hn)⟩
theorem KeepT.below {T N : Nat} {w W W' : World} (h : KeepT T N w W) (hb : Below W.heap.size W W') : KeepT T N w W' := Kept.below h hb
theorem KeepT.alloc {T N : Nat} {w W : World} (h : KeepT T N w W) (o : Obj) : KeepT T N w (W.alloc o) := h.below (below_alloc (Below.refl _ _) o)
theorem KeepT.set {T N : Nat} {w W : World} (h : KeepT T N w W) {p : Addr} (hp : w.heap.size ≤ p.block) (u : Value) : KeepT T N w (W.setCell p u) :=
  ⟨Nat.le_trans h.1 (by simp), fun i hi hn => (Below.heap_setCell W p u i (by omega)).trans (h.2 i hi hn)⟩
theorem blk_keepT {T N : Nat} {w W : World} {b q : Nat} {cs : Array Value} (hb : w.heap[b]? = some (.cells cs q (0, 0))) (h : KeepT T N w W) (h1 : q ≠ T) (h2 : q ≠ 26) : W.heap[b]? = some (.cells cs q (0, 0)) :=
  blk_kept hb h (fun ⟨_, cs', q', e, hq⟩ => by
    rw [hb] at e
    injection e with e
    injection e with _ e
    subst e
    exact hq.elim h1 h2)
def FarT (T N : Nat) (w : World) (A : Option Addr) (n : Nat) : Prop := 0 < n → ∀ ad, A = some ad → ad.block < N ∨ ∃ cs q, w.heap[ad.block]? = some (.cells cs q (0, 0)) ∧ q ≠ T ∧ q ≠ 26
theorem C_keepT {T N : Nat} {w W : World} {A : Option Addr} {xs : List Int} (h : Kd.C (Kd.int .i64) w A xs.length xs) (hk : KeepT T N w W) (hf : FarT T N w A xs.length) : Kd.C (Kd.int .i64) W A xs.length xs :=
  ⟨h.1, h.2.1, fun hn => by
    obtain ⟨ad, e, hc⟩ := h.2.2 hn
    refine ⟨ad, e, fun j p hj => ?_⟩
    obtain ⟨c, hs, hr, hcell⟩ := hc j p hj
    refine ⟨c, hs, hr, fun i u hu => (World.cell?_of_block (w := w) (hk.2 _ (World.block_lt_of_cell? w _ (hcell i u hu)) (fun ⟨h1, cs, q, h2, h3⟩ => ?_))).trans (hcell i u hu)⟩
    rw [add_block_] at h1 h2
    rcases hf hn ad e with hlt | ⟨cs', q', h4, h5, h6⟩
    · omega
    · rw [h4] at h2
      injection h2 with h2
      injection h2 with _ h2
      subst h2
      exact h3.elim h5 h6⟩
def SE (T N S : Nat) (w0 w : World) (l : List S26) (x : Value) : Prop := (∃ v, StV T w N S v x l) ∧ KeepT T N w0 w ∧ Below N w0 w
theorem StV.size {T N S : Nat} {w : World} {v x : Value} {l : List S26} (h : StV T w N S v x l) : N ≤ w.heap.size := Nat.le_trans h.2.1 (Nat.le_of_lt (blk_lt h.1))
theorem SE.start {T N S : Nat} {w : World} {v x : Value} {l : List S26} (h : StV T w N S v x l) : SE T N S w w l x := ⟨⟨v, h⟩, KeepT.refl _ _ _, Below.refl _ _⟩
theorem SE.below {T N S : Nat} {w0 w w' : World} {x : Value} {l : List S26} (h : SE T N S w0 w l x) (hb : Below w.heap.size w w') : SE T N S w0 w' l x := by
  obtain ⟨⟨v, hv⟩, hk, hB⟩ := h
  exact ⟨⟨v, blk_below hv.1 hb, hv.2.1, Kd.R_below hv.2.2 hb⟩, hk.below hb, hB.trans (hb.mono hv.size)⟩
theorem SE.alloc {T N S : Nat} {w0 w : World} {x : Value} {l : List S26} (h : SE T N S w0 w l x) (o : Obj) : SE T N S w0 (w.alloc o) l x := h.below (below_alloc (Below.refl _ _) o)
theorem SE.size {T N S : Nat} {w0 w : World} {x : Value} {l : List S26} (h : SE T N S w0 w l x) : N ≤ w.heap.size := by
  obtain ⟨⟨v, hv⟩, _⟩ := h
  exact hv.size
theorem SE.grown {T N S : Nat} {w0 w w1 : World} {x : Value} {l : List S26} {row : Option Nat} (h : SE T N S w0 w l x) (hg : w.grownBy w1 row) (h0 : N ≤ w0.heap.size) (hr : ∀ b, row = some b → w0.heap.size ≤ b ∧ ∃ cs q, w.heap[b]? = some (.cells cs q (0, 0)) ∧ q ≠ T ∧ q ≠ 26) : SE T N S w0 w1 l x := by
  have hs := h.size
  obtain ⟨⟨v, hv⟩, hk, hB⟩ := h
  refine ⟨⟨v, blk_grown hv.1 hg (fun e => ?_), hv.2.1, Kd.R_mono (Kd.R_grown (Kd.R_bound hv.2.2) hg (fun k hk e => ?_)) (fun _ hk => hk.1)⟩, ⟨Nat.le_trans hk.1 hg.size, fun i hi hn => (hg.block i (Nat.lt_of_lt_of_le hi hk.1) (fun e => by have := (hr i e.symm).1; omega)).trans (hk.2 i hi hn)⟩, hB.grown hg hs (fun k e => Nat.le_trans h0 (hr k e).1)⟩
  · obtain ⟨_, cs, q, h4, h5, h6⟩ := hr S e.symm
    rw [hv.1] at h4
    injection h4 with h4
    injection h4 with _ h4
    exact h5 h4.symm
  · obtain ⟨_, _, _, q2, hq2, cells, hc⟩ := hk
    obtain ⟨_, cs, q, h4, h5, h6⟩ := hr k e.symm
    rw [hc] at h4
    injection h4 with h4
    injection h4 with _ h4
    subst h4
    have hE : k26.E = [] := rfl
    rw [hE] at hq2
    exact h6 (by simpa using hq2)
theorem SE.from {T N S : Nat} {w0 w w' : World} {x x' : Value} {l l' : List S26} (h : SE T N S w0 w l x) (k : SE T N S w w' l' x') : SE T N S w0 w' l' x' := ⟨k.1, h.2.1.trans k.2.1, h.2.2.trans k.2.2⟩
theorem SE.call {T N S : Nat} {w0 w : World} {x x' : Value} {l l' : List S26} {P : Program} {f : FuncId} {args : Array Value} {r : Ending} (h : SE T N S w0 w l x) (hc : ∀ v, StV T w N S v x l → Calls P f args w fun e w' => e = r ∧ SE T N S w w' l' x') :
    Calls P f args w fun e w' => e = r ∧ SE T N S w0 w' l' x' ∧ KeepT T N w w' := by
  obtain ⟨⟨v, hv⟩, hr⟩ := id h
  exact (hc v hv).mono (fun e w' ⟨h1, h2⟩ => ⟨h1, h.from h2, h2.2.1⟩)
theorem se_of_V {N S : Nat} {w w' : World} {v : Value} {l l' : List S26} {x : Value} {full' : Bool} (hv : StV 107 w N S v x l) (h : (∃ v', SheetV w' N S v' l' full' ∧ ∀ k, v'.ownBlock = some k → v.ownBlock = some k ∨ w.heap.size ≤ k) ∧ KeepV w w' S v ∧ Below N w w') : SE 107 N S w w' l' (.bool full') := by
  obtain ⟨⟨v', h1, _⟩, h2, h3⟩ := h
  refine ⟨⟨v', h1⟩, ⟨h3.size, fun i hi hn => h2 i hi (fun e => ?_) (fun e => ?_)⟩, h3⟩
  · exact hn ⟨by rw [e]; exact hv.2.1, _, _, by rw [e]; exact hv.1, .inl rfl⟩
  · obtain ⟨_, ho⟩ := Kd.R_own hv.2.2
    obtain ⟨cells, hc⟩ := own_typed ho i e
    exact hn ⟨own_base ho i e, cells, _, hc, .inr rfl⟩
theorem impl_sheet_name.callsE {N S : Nat} {w0 w : World} {l : List S26} {full : Bool} (n : Int) (r : Int × List S26 × Bool) (h : SE 107 N S w0 w l (.bool full)) (hl : l.length ≤ 400) (hr : putT l full ⟨1, 0, 0, n⟩ = r) :
    Calls Try.prog 95 #[.pointer (some ⟨S, 0, none⟩), .int .i64 n] w fun e w' => e = .returned (.int .i64 r.1) ∧ SE 107 N S w0 w' r.2.1 (.bool r.2.2) ∧ KeepT 107 N w w' := by
  subst hr
  exact SE.call h (fun v hv => (impl_sheet_name.callsV S N v l full n w hv hv.size hl).mono (fun e w' ⟨h1, h2⟩ => ⟨h1, se_of_V hv h2⟩))
end Go.Proofs.Ytomaeijhljpgdaa.G
namespace Go.Proofs.Ytomaeijhljpgdaa.G
open Go.RowKit Go.Proofs.YtomaeijhljpgdaaW.PrintWords Go.Proofs.YtomaeijhljpgdaaW.PrintLast Go.Proofs.YtomaeijhljpgdaaW.PrintMore
attribute [local go_sem] max2_int min2_int max_two min_two max_three min_three max_four min_four   -- for this text's walks alone
set_option linter.unusedVariables false
set_option linter.unusedSimpArgs false
def spec_l1In.f (a0 : Int) (a1 : Int) (a2 : Int) : Option (Bool) := if a0 ≥ a1 then (some (decide (a0 ≤ a2))) else (some false)
set_option maxHeartbeats 8000000 in
set_option maxRecDepth 100000 in
theorem spec_l1In.calls (a0 : Int) (a1 : Int) (a2 : Int) (r : Bool) (w : World) (h : spec_l1In.f a0 a1 a2 = some r) :
  Calls Try.prog 98 #[.int .i64 a0, .int .i64 a1, .int .i64 a2] w fun e w' => e = .returned (.bool r) ∧ Drawn0 w w' := by
 have H : (if a0 ≥ a1 then (some (decide (a0 ≤ a2))) else (some false)) = some r := h
 clear h
 by_cases c4 : a0 ≥ a1
 ·rw [if_pos c4] at H
  have c4b0 : decide (a1 ≤ a0) = true := decide_eq_true c4
  clear c4
  obtain rfl := Option.some.inj H
  go_enter Try.func98, Try.ntmps98
  go_wp2
  go_ret
  exact ⟨by first | rfl | (simp; done) | (simp [*]; done), by repeat (first | exact Drawn0.refl _ | apply Drawn0.step)⟩
 ·rw [if_neg c4] at H
  have c4b0 : decide (a1 ≤ a0) = false := decide_eq_false c4
  clear c4
  obtain rfl := Option.some.inj H
  go_enter Try.func98, Try.ntmps98
  go_wp2
  go_ret
  exact ⟨by first | rfl | (simp; done) | (simp [*]; done), by repeat (first | exact Drawn0.refl _ | apply Drawn0.step)⟩
end Go.Proofs.Ytomaeijhljpgdaa.G
namespace Go.Proofs.Ytomaeijhljpgdaa.G
open Go.RowKit Go.Proofs.YtomaeijhljpgdaaW.PrintWords Go.Proofs.YtomaeijhljpgdaaW.PrintLast Go.Proofs.YtomaeijhljpgdaaW.PrintMore
attribute [local go_sem] max2_int min2_int max_two min_two max_three min_three max_four min_four   -- for this text's walks alone
set_option linter.unusedVariables false
set_option linter.unusedSimpArgs false
def spec_l9Word.f (a0 : Int) : Option (Bool) := (spec_l1In.f a0 0 9999).bind fun t458 => (some t458)
set_option maxHeartbeats 8000000 in
set_option maxRecDepth 100000 in
theorem spec_l9Word.calls (a0 : Int) (r : Bool) (w : World) (h : spec_l9Word.f a0 = some r) :
  Calls Try.prog 66 #[.int .i64 a0] w fun e w' => e = .returned (.bool r) ∧ Drawn0 w w' := by
 have H : ((spec_l1In.f a0 0 9999).bind fun t458 => (some t458)) = some r := h
 clear h
 replace H := Option.bind_eq_some_iff.mp H
 obtain ⟨t458, A20, H⟩ := H
 try dsimp only at H
 have A2 := Aside0.mk A20
 clear A20
 obtain rfl := Option.some.inj H
 go_enter Try.func66, Try.ntmps66
 go_wp2_with (first | ((with_reducible refine gate_callee (f := 98) rfl ?_); refine goesL_ (some 4) rfl rfl Try.func98 (by kernel_rfl) rfl #[.int .i64 a0, .int .i64 0, .int .i64 9999] rfl (by (try simp only [List.map_toArray, List.map_cons, List.map_nil]); first | done | rfl | (simp only [List.length_drop, List.length_take]; rfl)) ?_; (with_reducible refine (spec_l1In.calls a0 0 9999 t458 _ A2.out).mono ?_); rintro e w' ⟨rfl, ⟨nd, rfl⟩⟩; refine ⟨_, rfl, ?_⟩))
 go_ret
 exact ⟨by first | rfl | (simp; done) | (simp [*]; done), by repeat (first | exact Drawn0.refl _ | apply Drawn0.step)⟩
end Go.Proofs.Ytomaeijhljpgdaa.G
namespace Go.Proofs.Ytomaeijhljpgdaa.G
open Go.RowKit Go.Proofs.YtomaeijhljpgdaaW.PrintWords Go.Proofs.YtomaeijhljpgdaaW.PrintLast Go.Proofs.YtomaeijhljpgdaaW.PrintMore
attribute [local go_sem] max2_int min2_int max_two min_two max_three min_three max_four min_four   -- for this text's walks alone
set_option linter.unusedVariables false
set_option linter.unusedSimpArgs false
def spec_l5Kids.j0 : Nat → Int → Bool → Option (Int)
 | 0, _, _ => none
 | k + 1, x3, x4 => if x4 = true then (some 2) else (if x3 = 6 then (some 1) else (some 0))
def spec_l5Kids.f (k : Nat) (a0 : Int) : Option (Int) := if a0 = 3 then (spec_l5Kids.j0 k a0 (a0 == 3)) else (if a0 = 4 then (spec_l5Kids.j0 k a0 (a0 == 4)) else (if a0 = 5 then (spec_l5Kids.j0 k a0 (a0 == 5)) else (spec_l5Kids.j0 k a0 (a0 == 7))))
set_option maxHeartbeats 8000000 in
set_option maxRecDepth 100000 in
theorem spec_l5Kids.calls (k : Nat) (a0 : Int) (r : Int) (w : World) (h : spec_l5Kids.f k a0 = some r) :
  Calls Try.prog 50 #[.int .i64 a0] w fun e w' => e = .returned (.int .i64 r) ∧ Drawn0 w w' := by
 have H : (if a0 = 3 then (spec_l5Kids.j0 k a0 (a0 == 3)) else (if a0 = 4 then (spec_l5Kids.j0 k a0 (a0 == 4)) else (if a0 = 5 then (spec_l5Kids.j0 k a0 (a0 == 5)) else (spec_l5Kids.j0 k a0 (a0 == 7))))) = some r := h
 clear h
 have HC2 := Aside0.mk H
 clear H
 go_enter Try.func50, Try.ntmps50
 go_upto_if 4 with (fail)
 go_cut [4] (fun v4 wc => ∃ (kq : Nat) (x4_1 : Bool), v4 = .bool x4_1 ∧ Aside0 (spec_l5Kids.j0 kq a0 x4_1 = some r) ∧ Aside0 (kq ≤ k) ∧ Drawn0 w wc)
 case first =>
  have H := HC2.out
  clear HC2
  by_cases c3 : a0 = 3
  ·rw [if_pos c3] at H
   have c3b0 : (a0 == 3) = true := beq_iff_eq.mpr c3
   have c3b1 : (a0 != 3) = false := bne_eq_false_iff_eq.mpr c3
   clear c3
   (first | rw [c3b0] | (simp only [i64_w, i32_w]; rw [c3b0]) | skip)
   have H' := Aside0.mk H
   clear H
   go_wp2
   go_meet
   case rel => exact ⟨_, ((a0 == 3)), (by first | rfl | (simp; done) | (simp [*]; done)), H', ⟨by first | omega | exact Nat.le_refl _⟩, by repeat (first | exact Drawn0.refl _ | apply Drawn0.step)⟩
  ·rw [if_neg c3] at H
   have c3b0 : (a0 == 3) = false := beq_eq_false_iff_ne.mpr c3
   have c3b1 : (a0 != 3) = true := bne_iff_ne.mpr c3
   (first | rw [c3b0] | (simp only [i64_w, i32_w]; rw [c3b0]) | skip)
   by_cases c4 : a0 = 4
   ·rw [if_pos c4] at H
    have c4b0 : (a0 == 4) = true := beq_iff_eq.mpr c4
    have c4b1 : (a0 != 4) = false := bne_eq_false_iff_eq.mpr c4
    clear c4
    have H' := Aside0.mk H
    clear H
    go_wp2
    go_meet
    case rel => exact ⟨_, ((a0 == 4)), (by first | rfl | (simp; done) | (simp [*]; done)), H', ⟨by first | omega | exact Nat.le_refl _⟩, by repeat (first | exact Drawn0.refl _ | apply Drawn0.step)⟩
   ·rw [if_neg c4] at H
    have c4b0 : (a0 == 4) = false := beq_eq_false_iff_ne.mpr c4
    have c4b1 : (a0 != 4) = true := bne_iff_ne.mpr c4
    by_cases c5 : a0 = 5
    ·rw [if_pos c5] at H
     have c5b0 : (a0 == 5) = true := beq_iff_eq.mpr c5
     have c5b1 : (a0 != 5) = false := bne_eq_false_iff_eq.mpr c5
     clear c5
     have H' := Aside0.mk H
     clear H
     go_wp2
     go_meet
     case rel => exact ⟨_, ((a0 == 5)), (by first | rfl | (simp; done) | (simp [*]; done)), H', ⟨by first | omega | exact Nat.le_refl _⟩, by repeat (first | exact Drawn0.refl _ | apply Drawn0.step)⟩
    ·rw [if_neg c5] at H
     have c5b0 : (a0 == 5) = false := beq_eq_false_iff_ne.mpr c5
     have c5b1 : (a0 != 5) = true := bne_iff_ne.mpr c5
     have H' := Aside0.mk H
     clear H
     go_wp2
     go_meet
     case rel => exact ⟨_, ((a0 == 7)), (by first | rfl | (simp; done) | (simp [*]; done)), H', ⟨by first | omega | exact Nat.le_refl _⟩, by repeat (first | exact Drawn0.refl _ | apply Drawn0.step)⟩
 case rest =>
  clear HC2
  try clear p2
  try clear c3
  try clear c3b0
  try clear c3b1
  try clear c4
  try clear c4b0
  try clear c4b1
  try clear c5
  try clear c5b0
  try clear c5b1
  obtain ⟨kq, x4_1, rfl, HA, HJ1, ⟨mc1, rfl⟩⟩ := hcut
  cases kq with
  | zero => exact absurd HA.out (by simp [spec_l5Kids.j0])
  | succ kj1 =>
   have H := HA.out
   clear HA
   simp only [spec_l5Kids.j0] at H
   by_cases c6 : x4_1 = true
   ·subst c6
    rw [if_pos rfl] at H
    obtain rfl := Option.some.inj H
    go_wp2
    go_ret
    exact ⟨by first | rfl | (simp; done) | (simp [*]; done), by repeat (first | exact Drawn0.refl _ | apply Drawn0.step)⟩
   ·replace c6 := Bool.eq_false_iff.mpr c6
    subst c6
    rw [if_neg (show ¬ (false = true) by decide)] at H
    by_cases c7 : a0 = 6
    ·rw [if_pos c7] at H
     have c7b0 : (a0 == 6) = true := beq_iff_eq.mpr c7
     have c7b1 : (a0 != 6) = false := bne_eq_false_iff_eq.mpr c7
     clear c7
     obtain rfl := Option.some.inj H
     go_wp2
     go_ret
     exact ⟨by first | rfl | (simp; done) | (simp [*]; done), by repeat (first | exact Drawn0.refl _ | apply Drawn0.step)⟩
    ·rw [if_neg c7] at H
     have c7b0 : (a0 == 6) = false := beq_eq_false_iff_ne.mpr c7
     have c7b1 : (a0 != 6) = true := bne_iff_ne.mpr c7
     obtain rfl := Option.some.inj H
     go_wp2
     go_ret
     exact ⟨by first | rfl | (simp; done) | (simp [*]; done), by repeat (first | exact Drawn0.refl _ | apply Drawn0.step)⟩
end Go.Proofs.Ytomaeijhljpgdaa.G
namespace Go.Proofs.Ytomaeijhljpgdaa.G
open Go.RowKit Go.Proofs.YtomaeijhljpgdaaW.PrintWords Go.Proofs.YtomaeijhljpgdaaW.PrintLast Go.Proofs.YtomaeijhljpgdaaW.PrintMore
attribute [local go_sem] max2_int min2_int max_two min_two max_three min_three max_four min_four   -- for this text's walks alone
set_option linter.unusedVariables false
set_option linter.unusedSimpArgs false
mutual
def spec_l5Term.j0 : Nat → List (S26) → Int → Bool → Int → Int → Int → Int → Option (Int)
 | 0, _, _, _, _, _, _, _ => none
 | k + 1, x0, x5, x38, x114000, x114001, x114002, x114003 => if x38 = true then (some 1) else ((spec_l1In.f x114003 0 9999).bind fun t116 => (if t116 = true then (if x5 > 0 then ((spec_l1In.f x114001 0 (wrap64 ((x0.length : Int) - 1))).bind fun t117 => (if t117 = true then (if x5 > 1 then ((spec_l1In.f x114002 0 (wrap64 ((x0.length : Int) - 1))).bind fun t118 => (spec_l5Term.j1 k x0 x5 (!t118) x114000 x114001 x114002 x114003)) else (spec_l5Term.j1 k x0 x5 false x114000 x114001 x114002 x114003)) else (spec_l5Term.j1 k x0 x5 true x114000 x114001 x114002 x114003))) else (if x5 > 1 then ((spec_l1In.f x114002 0 (wrap64 ((x0.length : Int) - 1))).bind fun t119 => (spec_l5Term.j1 k x0 x5 (!t119) x114000 x114001 x114002 x114003)) else (spec_l5Term.j1 k x0 x5 false x114000 x114001 x114002 x114003))) else (spec_l5Term.j1 k x0 x5 true x114000 x114001 x114002 x114003)))
def spec_l5Term.j1 : Nat → List (S26) → Int → Bool → Int → Int → Int → Int → Option (Int)
 | 0, _, _, _, _, _, _, _ => none
 | k + 1, x0, x5, x68, x114000, x114001, x114002, x114003 => if x68 = true then (some 3) else (if x114000 = 6 then (spec_l5Term.j2 k x0 x5 true x114000 x114001 x114002 x114003) else (spec_l5Term.j2 k x0 x5 (x114000 == 7) x114000 x114001 x114002 x114003))
def spec_l5Term.j2 : Nat → List (S26) → Int → Bool → Int → Int → Int → Int → Option (Int)
 | 0, _, _, _, _, _, _, _ => none
 | k + 1, x0, x5, x76, x114000, x114001, x114002, x114003 => if x76 = true then (if 0 ≤ x114001 then (if x114001 < (x0.length : Int) then (if ((rd_T26 x0 x114001).f0) = 2 then (if x5 > 1 then (if 0 ≤ x114002 then (if x114002 < (x0.length : Int) then (if ((rd_T26 x0 x114002).f0) = 2 then (if x114001 > x114002 then (some 1) else (some 0)) else (some 1)) else (none)) else (none)) else (some 0)) else (some 1)) else (none)) else (none)) else (some 0)
end
def spec_l5Term.f (k : Nat) (l0 : List (S26)) (a1_0 : Int) (a1_1 : Int) (a1_2 : Int) (a1_3 : Int) : Option (Int) := (spec_l1In.f a1_0 1 7).bind fun t114 => (if t114 = true then ((spec_l5Kids.f k a1_0).bind fun t115 => (if t115 > 0 then (if a1_3 = 0 then (if t115 < 1 then (if a1_1 = 0 then (if t115 < 2 then (spec_l5Term.j0 k l0 t115 (a1_2 != 0) a1_0 a1_1 a1_2 a1_3) else (spec_l5Term.j0 k l0 t115 false a1_0 a1_1 a1_2 a1_3)) else (spec_l5Term.j0 k l0 t115 true a1_0 a1_1 a1_2 a1_3)) else (if t115 < 2 then (spec_l5Term.j0 k l0 t115 (a1_2 != 0) a1_0 a1_1 a1_2 a1_3) else (spec_l5Term.j0 k l0 t115 false a1_0 a1_1 a1_2 a1_3))) else (spec_l5Term.j0 k l0 t115 true a1_0 a1_1 a1_2 a1_3)) else (if t115 < 1 then (if a1_1 = 0 then (if t115 < 2 then (spec_l5Term.j0 k l0 t115 (a1_2 != 0) a1_0 a1_1 a1_2 a1_3) else (spec_l5Term.j0 k l0 t115 false a1_0 a1_1 a1_2 a1_3)) else (spec_l5Term.j0 k l0 t115 true a1_0 a1_1 a1_2 a1_3)) else (if t115 < 2 then (spec_l5Term.j0 k l0 t115 (a1_2 != 0) a1_0 a1_1 a1_2 a1_3) else (spec_l5Term.j0 k l0 t115 false a1_0 a1_1 a1_2 a1_3))))) else (some 5))
set_option maxHeartbeats 8000000 in
set_option maxRecDepth 100000 in
theorem spec_l5Term.calls (k : Nat) (A0 : Option Addr) (c0 : Nat) (l0 : List (S26)) (a1_0 : Int) (a1_1 : Int) (a1_2 : Int) (a1_3 : Int) (r : Int) (w : World) (hr0 : Kd.C k26 w A0 l0.length l0) (hc0 : l0.length ≤ c0) (h : spec_l5Term.f k l0 a1_0 a1_1 a1_2 a1_3 = some r) :
  Calls Try.prog 92 #[.slice A0 l0.length c0, .agg #[.int .i64 a1_0, .int .i64 a1_1, .int .i64 a1_2, .int .i64 a1_3]] w fun e w' => e = .returned (.int .i64 r) ∧ Below w.heap.size w w' := by
 have hu26 := Try.underlying26
 have HR0 := Aside0.mk hr0
 have HC0 := Aside0.mk hc0
 clear hr0 hc0
 have HB := Aside0.mk (Below.refl w.heap.size w)
 have H : ((spec_l1In.f a1_0 1 7).bind fun t114 => (if t114 = true then ((spec_l5Kids.f k a1_0).bind fun t115 => (if t115 > 0 then (if a1_3 = 0 then (if t115 < 1 then (if a1_1 = 0 then (if t115 < 2 then (spec_l5Term.j0 k l0 t115 (a1_2 != 0) a1_0 a1_1 a1_2 a1_3) else (spec_l5Term.j0 k l0 t115 false a1_0 a1_1 a1_2 a1_3)) else (spec_l5Term.j0 k l0 t115 true a1_0 a1_1 a1_2 a1_3)) else (if t115 < 2 then (spec_l5Term.j0 k l0 t115 (a1_2 != 0) a1_0 a1_1 a1_2 a1_3) else (spec_l5Term.j0 k l0 t115 false a1_0 a1_1 a1_2 a1_3))) else (spec_l5Term.j0 k l0 t115 true a1_0 a1_1 a1_2 a1_3)) else (if t115 < 1 then (if a1_1 = 0 then (if t115 < 2 then (spec_l5Term.j0 k l0 t115 (a1_2 != 0) a1_0 a1_1 a1_2 a1_3) else (spec_l5Term.j0 k l0 t115 false a1_0 a1_1 a1_2 a1_3)) else (spec_l5Term.j0 k l0 t115 true a1_0 a1_1 a1_2 a1_3)) else (if t115 < 2 then (spec_l5Term.j0 k l0 t115 (a1_2 != 0) a1_0 a1_1 a1_2 a1_3) else (spec_l5Term.j0 k l0 t115 false a1_0 a1_1 a1_2 a1_3))))) else (some 5))) = some r := h
 clear h
 replace H := Option.bind_eq_some_iff.mp H
 obtain ⟨t114, A30, H⟩ := H
 try dsimp only at H
 have A3 := Aside0.mk A30
 clear A30
 by_cases c4 : t114 = true
 ·subst c4
  rw [if_pos rfl] at H
  replace H := Option.bind_eq_some_iff.mp H
  obtain ⟨t115, A50, H⟩ := H
  try dsimp only at H
  have A5 := Aside0.mk A50
  clear A50
  have HC6 := Aside0.mk H
  clear H
  go_enter Try.func92, Try.ntmps92
  go_upto_region 4 with (first | ((with_reducible refine gate_dst (N := 3) rfl ?_); refine box_event ?hg (N := 3) ?hd (cs := #[.int .i64 a1_0, .int .i64 a1_1, .int .i64 a1_2, .int .i64 a1_3]) (t := 26) ?hr ?_; (case hd => rfl); (case hg => rfl); (case hr => first | (go_simp; done) | (go_simp; rfl)); intro gb113 hg w7 hbox hb; have n0_ := Aside0.mk (below_step (by repeat (first | (with_reducible first | exact HB.out | apply below_alloc | apply pw_below_drewN | apply below_drew1) | exact HB.out)) hb); have n1_ := Aside0.mk (hbox); have n2_ := Aside0.mk ((by rw [hg]; exact (below_size (by repeat (first | (with_reducible first | exact HB.out | apply below_alloc | apply pw_below_drewN | apply below_drew1) | exact HB.out))) : w.heap.size ≤ gb113)); have n3_ := Aside0.mk ((by rw [hg]; exact (below_size (by repeat (first | (with_reducible first | exact HB.out | apply below_alloc | apply pw_below_drewN | apply below_drew1) | exact HB.out))) : w.heap.size ≤ gb113)); clear HB; have HB := n0_; have BK113 := n1_; have GW113 := n2_; have GE113 := n3_; clear n0_ n1_ n2_ n3_; clear hb hbox hg; have hcz8_0 : w7.cell? ⟨gb113, 0, none⟩ = some (.int .i64 a1_0) := (blk_cell BK113.out 0).trans rfl; have hcz8_1 : w7.cell? ⟨gb113, 1, none⟩ = some (.int .i64 a1_1) := (blk_cell BK113.out 1).trans rfl; have hcz8_2 : w7.cell? ⟨gb113, 2, none⟩ = some (.int .i64 a1_2) := (blk_cell BK113.out 2).trans rfl; have hcz8_3 : w7.cell? ⟨gb113, 3, none⟩ = some (.int .i64 a1_3) := (blk_cell BK113.out 3).trans rfl; have hfz8_0 := blk_frozen BK113.out 0; have hfz8_1 := blk_frozen BK113.out 1; have hfz8_2 := blk_frozen BK113.out 2; have hfz8_3 := blk_frozen BK113.out 3) | ((with_reducible refine gate_callee (f := 98) rfl ?_); refine goesL_ (some 9) rfl rfl Try.func98 (by kernel_rfl) rfl #[.int .i64 a1_0, .int .i64 1, .int .i64 7] rfl (by (try simp only [List.map_toArray, List.map_cons, List.map_nil]); first | done | rfl | (simp only [List.length_drop, List.length_take]; rfl)) ?_; (with_reducible refine (spec_l1In.calls a1_0 1 7 true _ A3.out).mono ?_); rintro e w' ⟨rfl, ⟨nd, rfl⟩⟩; refine ⟨_, rfl, ?_⟩) | ((with_reducible refine gate_callee (f := 50) rfl ?_); refine goesL_ (some 13) rfl rfl Try.func50 (by kernel_rfl) rfl #[.int .i64 a1_0] rfl (by (try simp only [List.map_toArray, List.map_cons, List.map_nil]); first | done | rfl | (simp only [List.length_drop, List.length_take]; rfl)) ?_; (with_reducible refine (spec_l5Kids.calls k a1_0 t115 _ A5.out).mono ?_); rintro e w' ⟨rfl, ⟨nd, rfl⟩⟩; refine ⟨_, rfl, ?_⟩))
  (try simp only [Act.put, lA_, lZ_, lS_])
  go_cut [38] (fun v38 wc => ∃ (kq : Nat) (x38_5 : Bool), v38 = .bool x38_5 ∧ Aside0 (spec_l5Term.j0 kq l0 t115 x38_5 a1_0 a1_1 a1_2 a1_3 = some r) ∧ Aside0 (kq ≤ k) ∧ Aside0 (wc.heap[gb113]? = some (.cells #[.int .i64 a1_0, .int .i64 a1_1, .int .i64 a1_2, .int .i64 a1_3] 26 (0, 0))) ∧ Aside0 (Below w.heap.size w wc))
  case first =>
   have H := HC6.out
   clear HC6
   by_cases c9 : t115 > 0
   ·rw [if_pos c9] at H
    have c9b0 : decide (0 < t115) = true := decide_eq_true c9
    clear c9
    (first | rw [c9b0] | (simp only [i64_w, i32_w]; rw [c9b0]) | skip)
    by_cases c10 : a1_3 = 0
    ·rw [if_pos c10] at H
     have c10b0 : (a1_3 == 0) = true := beq_iff_eq.mpr c10
     have c10b1 : (a1_3 != 0) = false := bne_eq_false_iff_eq.mpr c10
     clear c10
     by_cases c11 : t115 < 1
     ·rw [if_pos c11] at H
      have c11b0 : decide (t115 < 1) = true := decide_eq_true c11
      clear c11
      by_cases c12 : a1_1 = 0
      ·rw [if_pos c12] at H
       have c12b0 : (a1_1 == 0) = true := beq_iff_eq.mpr c12
       have c12b1 : (a1_1 != 0) = false := bne_eq_false_iff_eq.mpr c12
       clear c12
       by_cases c13 : t115 < 2
       ·rw [if_pos c13] at H
        have c13b0 : decide (t115 < 2) = true := decide_eq_true c13
        clear c13
        have H' := Aside0.mk H
        clear H
        have hcz14_0 : w7.cell? ⟨gb113, 0, none⟩ = some (.int .i64 a1_0) := (blk_cell BK113.out 0).trans rfl
        have hcz14_1 : w7.cell? ⟨gb113, 1, none⟩ = some (.int .i64 a1_1) := (blk_cell BK113.out 1).trans rfl
        have hcz14_2 : w7.cell? ⟨gb113, 2, none⟩ = some (.int .i64 a1_2) := (blk_cell BK113.out 2).trans rfl
        have hcz14_3 : w7.cell? ⟨gb113, 3, none⟩ = some (.int .i64 a1_3) := (blk_cell BK113.out 3).trans rfl
        have hfz14_0 := blk_frozen BK113.out 0
        have hfz14_1 := blk_frozen BK113.out 1
        have hfz14_2 := blk_frozen BK113.out 2
        have hfz14_3 := blk_frozen BK113.out 3
        go_wp2
        go_meet
        case rel => exact ⟨_, ((a1_2 != 0)), (by first | rfl | (simp; done) | (simp [*]; done)), H', ⟨by first | omega | exact Nat.le_refl _⟩, ⟨by (with_reducible repeat (first | refine blk_drewN ?_ _ | refine blk_drew ?_ | refine blk_alloc ?_ _)); exact BK113.out⟩, ⟨by repeat (first | (with_reducible first | exact HB.out | apply below_alloc | apply pw_below_drewN | apply below_drew1 | refine below_set ?_ GE113.out) | exact HB.out)⟩⟩
       ·rw [if_neg c13] at H
        have c13b0 : decide (t115 < 2) = false := decide_eq_false c13
        clear c13
        have H' := Aside0.mk H
        clear H
        have hcz15_0 : w7.cell? ⟨gb113, 0, none⟩ = some (.int .i64 a1_0) := (blk_cell BK113.out 0).trans rfl
        have hcz15_1 : w7.cell? ⟨gb113, 1, none⟩ = some (.int .i64 a1_1) := (blk_cell BK113.out 1).trans rfl
        have hcz15_2 : w7.cell? ⟨gb113, 2, none⟩ = some (.int .i64 a1_2) := (blk_cell BK113.out 2).trans rfl
        have hcz15_3 : w7.cell? ⟨gb113, 3, none⟩ = some (.int .i64 a1_3) := (blk_cell BK113.out 3).trans rfl
        have hfz15_0 := blk_frozen BK113.out 0
        have hfz15_1 := blk_frozen BK113.out 1
        have hfz15_2 := blk_frozen BK113.out 2
        have hfz15_3 := blk_frozen BK113.out 3
        go_wp2
        go_meet
        case rel => exact ⟨_, (false), (by first | rfl | (simp; done) | (simp [*]; done)), H', ⟨by first | omega | exact Nat.le_refl _⟩, ⟨by (with_reducible repeat (first | refine blk_drewN ?_ _ | refine blk_drew ?_ | refine blk_alloc ?_ _)); exact BK113.out⟩, ⟨by repeat (first | (with_reducible first | exact HB.out | apply below_alloc | apply pw_below_drewN | apply below_drew1 | refine below_set ?_ GE113.out) | exact HB.out)⟩⟩
      ·rw [if_neg c12] at H
       have c12b0 : (a1_1 == 0) = false := beq_eq_false_iff_ne.mpr c12
       have c12b1 : (a1_1 != 0) = true := bne_iff_ne.mpr c12
       have H' := Aside0.mk H
       clear H
       have hcz16_0 : w7.cell? ⟨gb113, 0, none⟩ = some (.int .i64 a1_0) := (blk_cell BK113.out 0).trans rfl
       have hcz16_1 : w7.cell? ⟨gb113, 1, none⟩ = some (.int .i64 a1_1) := (blk_cell BK113.out 1).trans rfl
       have hcz16_2 : w7.cell? ⟨gb113, 2, none⟩ = some (.int .i64 a1_2) := (blk_cell BK113.out 2).trans rfl
       have hcz16_3 : w7.cell? ⟨gb113, 3, none⟩ = some (.int .i64 a1_3) := (blk_cell BK113.out 3).trans rfl
       have hfz16_0 := blk_frozen BK113.out 0
       have hfz16_1 := blk_frozen BK113.out 1
       have hfz16_2 := blk_frozen BK113.out 2
       have hfz16_3 := blk_frozen BK113.out 3
       go_wp2
       go_meet
       case rel => exact ⟨_, (true), (by first | rfl | (simp; done) | (simp [*]; done)), H', ⟨by first | omega | exact Nat.le_refl _⟩, ⟨by (with_reducible repeat (first | refine blk_drewN ?_ _ | refine blk_drew ?_ | refine blk_alloc ?_ _)); exact BK113.out⟩, ⟨by repeat (first | (with_reducible first | exact HB.out | apply below_alloc | apply pw_below_drewN | apply below_drew1 | refine below_set ?_ GE113.out) | exact HB.out)⟩⟩
     ·rw [if_neg c11] at H
      have c11b0 : decide (t115 < 1) = false := decide_eq_false c11
      clear c11
      by_cases c17 : t115 < 2
      ·rw [if_pos c17] at H
       have c17b0 : decide (t115 < 2) = true := decide_eq_true c17
       clear c17
       have H' := Aside0.mk H
       clear H
       have hcz18_0 : w7.cell? ⟨gb113, 0, none⟩ = some (.int .i64 a1_0) := (blk_cell BK113.out 0).trans rfl
       have hcz18_1 : w7.cell? ⟨gb113, 1, none⟩ = some (.int .i64 a1_1) := (blk_cell BK113.out 1).trans rfl
       have hcz18_2 : w7.cell? ⟨gb113, 2, none⟩ = some (.int .i64 a1_2) := (blk_cell BK113.out 2).trans rfl
       have hcz18_3 : w7.cell? ⟨gb113, 3, none⟩ = some (.int .i64 a1_3) := (blk_cell BK113.out 3).trans rfl
       have hfz18_0 := blk_frozen BK113.out 0
       have hfz18_1 := blk_frozen BK113.out 1
       have hfz18_2 := blk_frozen BK113.out 2
       have hfz18_3 := blk_frozen BK113.out 3
       go_wp2
       go_meet
       case rel => exact ⟨_, ((a1_2 != 0)), (by first | rfl | (simp; done) | (simp [*]; done)), H', ⟨by first | omega | exact Nat.le_refl _⟩, ⟨by (with_reducible repeat (first | refine blk_drewN ?_ _ | refine blk_drew ?_ | refine blk_alloc ?_ _)); exact BK113.out⟩, ⟨by repeat (first | (with_reducible first | exact HB.out | apply below_alloc | apply pw_below_drewN | apply below_drew1 | refine below_set ?_ GE113.out) | exact HB.out)⟩⟩
      ·rw [if_neg c17] at H
       have c17b0 : decide (t115 < 2) = false := decide_eq_false c17
       clear c17
       have H' := Aside0.mk H
       clear H
       have hcz19_0 : w7.cell? ⟨gb113, 0, none⟩ = some (.int .i64 a1_0) := (blk_cell BK113.out 0).trans rfl
       have hcz19_1 : w7.cell? ⟨gb113, 1, none⟩ = some (.int .i64 a1_1) := (blk_cell BK113.out 1).trans rfl
       have hcz19_2 : w7.cell? ⟨gb113, 2, none⟩ = some (.int .i64 a1_2) := (blk_cell BK113.out 2).trans rfl
       have hcz19_3 : w7.cell? ⟨gb113, 3, none⟩ = some (.int .i64 a1_3) := (blk_cell BK113.out 3).trans rfl
       have hfz19_0 := blk_frozen BK113.out 0
       have hfz19_1 := blk_frozen BK113.out 1
       have hfz19_2 := blk_frozen BK113.out 2
       have hfz19_3 := blk_frozen BK113.out 3
       go_wp2
       go_meet
       case rel => exact ⟨_, (false), (by first | rfl | (simp; done) | (simp [*]; done)), H', ⟨by first | omega | exact Nat.le_refl _⟩, ⟨by (with_reducible repeat (first | refine blk_drewN ?_ _ | refine blk_drew ?_ | refine blk_alloc ?_ _)); exact BK113.out⟩, ⟨by repeat (first | (with_reducible first | exact HB.out | apply below_alloc | apply pw_below_drewN | apply below_drew1 | refine below_set ?_ GE113.out) | exact HB.out)⟩⟩
    ·rw [if_neg c10] at H
     have c10b0 : (a1_3 == 0) = false := beq_eq_false_iff_ne.mpr c10
     have c10b1 : (a1_3 != 0) = true := bne_iff_ne.mpr c10
     have H' := Aside0.mk H
     clear H
     have hcz20_0 : w7.cell? ⟨gb113, 0, none⟩ = some (.int .i64 a1_0) := (blk_cell BK113.out 0).trans rfl
     have hcz20_1 : w7.cell? ⟨gb113, 1, none⟩ = some (.int .i64 a1_1) := (blk_cell BK113.out 1).trans rfl
     have hcz20_2 : w7.cell? ⟨gb113, 2, none⟩ = some (.int .i64 a1_2) := (blk_cell BK113.out 2).trans rfl
     have hcz20_3 : w7.cell? ⟨gb113, 3, none⟩ = some (.int .i64 a1_3) := (blk_cell BK113.out 3).trans rfl
     have hfz20_0 := blk_frozen BK113.out 0
     have hfz20_1 := blk_frozen BK113.out 1
     have hfz20_2 := blk_frozen BK113.out 2
     have hfz20_3 := blk_frozen BK113.out 3
     go_wp2
     go_meet
     case rel => exact ⟨_, (true), (by first | rfl | (simp; done) | (simp [*]; done)), H', ⟨by first | omega | exact Nat.le_refl _⟩, ⟨by (with_reducible repeat (first | refine blk_drewN ?_ _ | refine blk_drew ?_ | refine blk_alloc ?_ _)); exact BK113.out⟩, ⟨by repeat (first | (with_reducible first | exact HB.out | apply below_alloc | apply pw_below_drewN | apply below_drew1 | refine below_set ?_ GE113.out) | exact HB.out)⟩⟩
   ·rw [if_neg c9] at H
    have c9b0 : decide (0 < t115) = false := decide_eq_false c9
    clear c9
    (first | rw [c9b0] | (simp only [i64_w, i32_w]; rw [c9b0]) | skip)
    by_cases c21 : t115 < 1
    ·rw [if_pos c21] at H
     have c21b0 : decide (t115 < 1) = true := decide_eq_true c21
     clear c21
     by_cases c22 : a1_1 = 0
     ·rw [if_pos c22] at H
      have c22b0 : (a1_1 == 0) = true := beq_iff_eq.mpr c22
      have c22b1 : (a1_1 != 0) = false := bne_eq_false_iff_eq.mpr c22
      clear c22
      by_cases c23 : t115 < 2
      ·rw [if_pos c23] at H
       have c23b0 : decide (t115 < 2) = true := decide_eq_true c23
       clear c23
       have H' := Aside0.mk H
       clear H
       have hcz24_0 : w7.cell? ⟨gb113, 0, none⟩ = some (.int .i64 a1_0) := (blk_cell BK113.out 0).trans rfl
       have hcz24_1 : w7.cell? ⟨gb113, 1, none⟩ = some (.int .i64 a1_1) := (blk_cell BK113.out 1).trans rfl
       have hcz24_2 : w7.cell? ⟨gb113, 2, none⟩ = some (.int .i64 a1_2) := (blk_cell BK113.out 2).trans rfl
       have hcz24_3 : w7.cell? ⟨gb113, 3, none⟩ = some (.int .i64 a1_3) := (blk_cell BK113.out 3).trans rfl
       have hfz24_0 := blk_frozen BK113.out 0
       have hfz24_1 := blk_frozen BK113.out 1
       have hfz24_2 := blk_frozen BK113.out 2
       have hfz24_3 := blk_frozen BK113.out 3
       go_wp2
       go_meet
       case rel => exact ⟨_, ((a1_2 != 0)), (by first | rfl | (simp; done) | (simp [*]; done)), H', ⟨by first | omega | exact Nat.le_refl _⟩, ⟨by (with_reducible repeat (first | refine blk_drewN ?_ _ | refine blk_drew ?_ | refine blk_alloc ?_ _)); exact BK113.out⟩, ⟨by repeat (first | (with_reducible first | exact HB.out | apply below_alloc | apply pw_below_drewN | apply below_drew1 | refine below_set ?_ GE113.out) | exact HB.out)⟩⟩
      ·rw [if_neg c23] at H
       have c23b0 : decide (t115 < 2) = false := decide_eq_false c23
       clear c23
       have H' := Aside0.mk H
       clear H
       have hcz25_0 : w7.cell? ⟨gb113, 0, none⟩ = some (.int .i64 a1_0) := (blk_cell BK113.out 0).trans rfl
       have hcz25_1 : w7.cell? ⟨gb113, 1, none⟩ = some (.int .i64 a1_1) := (blk_cell BK113.out 1).trans rfl
       have hcz25_2 : w7.cell? ⟨gb113, 2, none⟩ = some (.int .i64 a1_2) := (blk_cell BK113.out 2).trans rfl
       have hcz25_3 : w7.cell? ⟨gb113, 3, none⟩ = some (.int .i64 a1_3) := (blk_cell BK113.out 3).trans rfl
       have hfz25_0 := blk_frozen BK113.out 0
       have hfz25_1 := blk_frozen BK113.out 1
       have hfz25_2 := blk_frozen BK113.out 2
       have hfz25_3 := blk_frozen BK113.out 3
       go_wp2
       go_meet
       case rel => exact ⟨_, (false), (by first | rfl | (simp; done) | (simp [*]; done)), H', ⟨by first | omega | exact Nat.le_refl _⟩, ⟨by (with_reducible repeat (first | refine blk_drewN ?_ _ | refine blk_drew ?_ | refine blk_alloc ?_ _)); exact BK113.out⟩, ⟨by repeat (first | (with_reducible first | exact HB.out | apply below_alloc | apply pw_below_drewN | apply below_drew1 | refine below_set ?_ GE113.out) | exact HB.out)⟩⟩
     ·rw [if_neg c22] at H
      have c22b0 : (a1_1 == 0) = false := beq_eq_false_iff_ne.mpr c22
      have c22b1 : (a1_1 != 0) = true := bne_iff_ne.mpr c22
      have H' := Aside0.mk H
      clear H
      have hcz26_0 : w7.cell? ⟨gb113, 0, none⟩ = some (.int .i64 a1_0) := (blk_cell BK113.out 0).trans rfl
      have hcz26_1 : w7.cell? ⟨gb113, 1, none⟩ = some (.int .i64 a1_1) := (blk_cell BK113.out 1).trans rfl
      have hcz26_2 : w7.cell? ⟨gb113, 2, none⟩ = some (.int .i64 a1_2) := (blk_cell BK113.out 2).trans rfl
      have hcz26_3 : w7.cell? ⟨gb113, 3, none⟩ = some (.int .i64 a1_3) := (blk_cell BK113.out 3).trans rfl
      have hfz26_0 := blk_frozen BK113.out 0
      have hfz26_1 := blk_frozen BK113.out 1
      have hfz26_2 := blk_frozen BK113.out 2
      have hfz26_3 := blk_frozen BK113.out 3
      go_wp2
      go_meet
      case rel => exact ⟨_, (true), (by first | rfl | (simp; done) | (simp [*]; done)), H', ⟨by first | omega | exact Nat.le_refl _⟩, ⟨by (with_reducible repeat (first | refine blk_drewN ?_ _ | refine blk_drew ?_ | refine blk_alloc ?_ _)); exact BK113.out⟩, ⟨by repeat (first | (with_reducible first | exact HB.out | apply below_alloc | apply pw_below_drewN | apply below_drew1 | refine below_set ?_ GE113.out) | exact HB.out)⟩⟩
    ·rw [if_neg c21] at H
     have c21b0 : decide (t115 < 1) = false := decide_eq_false c21
     clear c21
     by_cases c27 : t115 < 2
     ·rw [if_pos c27] at H
      have c27b0 : decide (t115 < 2) = true := decide_eq_true c27
      clear c27
      have H' := Aside0.mk H
      clear H
      have hcz28_0 : w7.cell? ⟨gb113, 0, none⟩ = some (.int .i64 a1_0) := (blk_cell BK113.out 0).trans rfl
      have hcz28_1 : w7.cell? ⟨gb113, 1, none⟩ = some (.int .i64 a1_1) := (blk_cell BK113.out 1).trans rfl
      have hcz28_2 : w7.cell? ⟨gb113, 2, none⟩ = some (.int .i64 a1_2) := (blk_cell BK113.out 2).trans rfl
      have hcz28_3 : w7.cell? ⟨gb113, 3, none⟩ = some (.int .i64 a1_3) := (blk_cell BK113.out 3).trans rfl
      have hfz28_0 := blk_frozen BK113.out 0
      have hfz28_1 := blk_frozen BK113.out 1
      have hfz28_2 := blk_frozen BK113.out 2
      have hfz28_3 := blk_frozen BK113.out 3
      go_wp2
      go_meet
      case rel => exact ⟨_, ((a1_2 != 0)), (by first | rfl | (simp; done) | (simp [*]; done)), H', ⟨by first | omega | exact Nat.le_refl _⟩, ⟨by (with_reducible repeat (first | refine blk_drewN ?_ _ | refine blk_drew ?_ | refine blk_alloc ?_ _)); exact BK113.out⟩, ⟨by repeat (first | (with_reducible first | exact HB.out | apply below_alloc | apply pw_below_drewN | apply below_drew1 | refine below_set ?_ GE113.out) | exact HB.out)⟩⟩
     ·rw [if_neg c27] at H
      have c27b0 : decide (t115 < 2) = false := decide_eq_false c27
      clear c27
      have H' := Aside0.mk H
      clear H
      go_wp2
      go_meet
      case rel => exact ⟨_, (false), (by first | rfl | (simp; done) | (simp [*]; done)), H', ⟨by first | omega | exact Nat.le_refl _⟩, ⟨by (with_reducible repeat (first | refine blk_drewN ?_ _ | refine blk_drew ?_ | refine blk_alloc ?_ _)); exact BK113.out⟩, ⟨by repeat (first | (with_reducible first | exact HB.out | apply below_alloc | apply pw_below_drewN | apply below_drew1 | refine below_set ?_ GE113.out) | exact HB.out)⟩⟩
  case rest =>
   clear HC6
   try clear c1
   try clear c2
   try clear p2
   try clear c4
   try clear c5
   try clear c9
   try clear c9b0
   try clear c10
   try clear c10b0
   try clear c10b1
   try clear c11
   try clear c11b0
   try clear c12
   try clear c12b0
   try clear c12b1
   try clear c13
   try clear c13b0
   try clear c17
   try clear c17b0
   try clear c21
   try clear c21b0
   try clear c22
   try clear c22b0
   try clear c22b1
   try clear c23
   try clear c23b0
   try clear c27
   try clear c27b0
   try clear hcz14_0
   try clear hcz14_1
   try clear hcz14_2
   try clear hcz14_3
   try clear hcz15_0
   try clear hcz15_1
   try clear hcz15_2
   try clear hcz15_3
   try clear hcz16_0
   try clear hcz16_1
   try clear hcz16_2
   try clear hcz16_3
   try clear hcz18_0
   try clear hcz18_1
   try clear hcz18_2
   try clear hcz18_3
   try clear hcz19_0
   try clear hcz19_1
   try clear hcz19_2
   try clear hcz19_3
   try clear hcz20_0
   try clear hcz20_1
   try clear hcz20_2
   try clear hcz20_3
   try clear hcz24_0
   try clear hcz24_1
   try clear hcz24_2
   try clear hcz24_3
   try clear hcz25_0
   try clear hcz25_1
   try clear hcz25_2
   try clear hcz25_3
   try clear hcz26_0
   try clear hcz26_1
   try clear hcz26_2
   try clear hcz26_3
   try clear hcz28_0
   try clear hcz28_1
   try clear hcz28_2
   try clear hcz28_3
   try clear hcz8_0
   try clear hcz8_1
   try clear hcz8_2
   try clear hcz8_3
   try clear hfz14_0
   try clear hfz14_1
   try clear hfz14_2
   try clear hfz14_3
   try clear hfz15_0
   try clear hfz15_1
   try clear hfz15_2
   try clear hfz15_3
   try clear hfz16_0
   try clear hfz16_1
   try clear hfz16_2
   try clear hfz16_3
   try clear hfz18_0
   try clear hfz18_1
   try clear hfz18_2
   try clear hfz18_3
   try clear hfz19_0
   try clear hfz19_1
   try clear hfz19_2
   try clear hfz19_3
   try clear hfz20_0
   try clear hfz20_1
   try clear hfz20_2
   try clear hfz20_3
   try clear hfz24_0
   try clear hfz24_1
   try clear hfz24_2
   try clear hfz24_3
   try clear hfz25_0
   try clear hfz25_1
   try clear hfz25_2
   try clear hfz25_3
   try clear hfz26_0
   try clear hfz26_1
   try clear hfz26_2
   try clear hfz26_3
   try clear hfz28_0
   try clear hfz28_1
   try clear hfz28_2
   try clear hfz28_3
   try clear hfz8_0
   try clear hfz8_1
   try clear hfz8_2
   try clear hfz8_3
   obtain ⟨kq, x38_5, rfl, HA, HJ5, BK113, HB⟩ := hcut
   cases kq with
   | zero => exact absurd HA.out (by simp [spec_l5Term.j0])
   | succ kj5 =>
    have H := HA.out
    clear HA
    simp only [spec_l5Term.j0] at H
    by_cases c29 : x38_5 = true
    ·subst c29
     rw [if_pos rfl] at H
     obtain rfl := Option.some.inj H
     go_wp2
     go_ret
     exact ⟨by first | rfl | (simp [errW_none, errW_some] <;> rfl) | (simp [*, errW_none, errW_some] <;> rfl), by repeat (first | (with_reducible first | exact HB.out | apply below_alloc | apply pw_below_drewN | apply below_drew1 | refine below_set ?_ GE113.out) | exact HB.out)⟩
    ·replace c29 := Bool.eq_false_iff.mpr c29
     subst c29
     rw [if_neg (show ¬ (false = true) by decide)] at H
     have HC30 := Aside0.mk H
     clear H
     go_upto_region 7 with (fail)
     go_cut [68] (fun v68 wc => ∃ (kq : Nat) (x68_29 : Bool), v68 = .bool x68_29 ∧ Aside0 (spec_l5Term.j1 kq l0 t115 x68_29 a1_0 a1_1 a1_2 a1_3 = some r) ∧ Aside0 (kq ≤ kj5) ∧ Aside0 (wc.heap[gb113]? = some (.cells #[.int .i64 a1_0, .int .i64 a1_1, .int .i64 a1_2, .int .i64 a1_3] 26 (0, 0))) ∧ Aside0 (Below w.heap.size w wc))
     case first =>
      have H := HC30.out
      clear HC30
      replace H := Option.bind_eq_some_iff.mp H
      obtain ⟨t116, A310, H⟩ := H
      try dsimp only at H
      have A31 := Aside0.mk A310
      clear A310
      by_cases c32 : t116 = true
      ·subst c32
       rw [if_pos rfl] at H
       by_cases c33 : t115 > 0
       ·rw [if_pos c33] at H
        have c33b0 : decide (0 < t115) = true := decide_eq_true c33
        clear c33
        (first | rw [c33b0] | (simp only [i64_w, i32_w]; rw [c33b0]) | skip)
        replace H := Option.bind_eq_some_iff.mp H
        obtain ⟨t117, A340, H⟩ := H
        try dsimp only at H
        have A34 := Aside0.mk A340
        clear A340
        by_cases c35 : t117 = true
        ·subst c35
         rw [if_pos rfl] at H
         by_cases c36 : t115 > 1
         ·rw [if_pos c36] at H
          have c36b0 : decide (1 < t115) = true := decide_eq_true c36
          clear c36
          replace H := Option.bind_eq_some_iff.mp H
          obtain ⟨t118, A370, H⟩ := H
          try dsimp only at H
          have A37 := Aside0.mk A370
          clear A370
          have H' := Aside0.mk H
          clear H
          have hcz38_0 : wc.cell? ⟨gb113, 0, none⟩ = some (.int .i64 a1_0) := (blk_cell BK113.out 0).trans rfl
          have hcz38_1 : wc.cell? ⟨gb113, 1, none⟩ = some (.int .i64 a1_1) := (blk_cell BK113.out 1).trans rfl
          have hcz38_2 : wc.cell? ⟨gb113, 2, none⟩ = some (.int .i64 a1_2) := (blk_cell BK113.out 2).trans rfl
          have hcz38_3 : wc.cell? ⟨gb113, 3, none⟩ = some (.int .i64 a1_3) := (blk_cell BK113.out 3).trans rfl
          have hfz38_0 := blk_frozen BK113.out 0
          have hfz38_1 := blk_frozen BK113.out 1
          have hfz38_2 := blk_frozen BK113.out 2
          have hfz38_3 := blk_frozen BK113.out 3
          go_wp2_with (first | ((with_reducible refine gate_callee (f := 98) rfl ?_); refine goesL_ (some 43) rfl rfl Try.func98 (by kernel_rfl) rfl #[.int .i64 a1_3, .int .i64 0, .int .i64 9999] rfl (by (try simp only [List.map_toArray, List.map_cons, List.map_nil]); first | done | rfl | (simp only [List.length_drop, List.length_take]; rfl)) ?_; (with_reducible refine (spec_l1In.calls a1_3 0 9999 true _ A31.out).mono ?_); rintro e w' ⟨rfl, ⟨nd, rfl⟩⟩; refine ⟨_, rfl, ?_⟩) | (go_at_call 98; (with_reducible refine (spec_l1In.calls a1_1 0 (wrap64 ((l0.length : Int) - 1)) true _ A34.out).mono ?_); rintro e w' ⟨rfl, ⟨nd, rfl⟩⟩) | (go_at_call 98; (with_reducible refine (spec_l1In.calls a1_2 0 (wrap64 ((l0.length : Int) - 1)) t118 _ A37.out).mono ?_); rintro e w' ⟨rfl, ⟨nd, rfl⟩⟩))
          go_meet
          case rel => exact ⟨_, (!t118), (by first | rfl | (simp; done) | (simp [*]; done)), H', ⟨by have := HJ5.out; first | omega | exact Nat.le_refl _⟩, ⟨by (with_reducible repeat (first | refine blk_drewN ?_ _ | refine blk_drew ?_ | refine blk_alloc ?_ _)); exact BK113.out⟩, ⟨by repeat (first | (with_reducible first | exact HB.out | apply below_alloc | apply pw_below_drewN | apply below_drew1 | refine below_set ?_ GE113.out) | exact HB.out)⟩⟩
         ·rw [if_neg c36] at H
          have c36b0 : decide (1 < t115) = false := decide_eq_false c36
          clear c36
          have H' := Aside0.mk H
          clear H
          have hcz39_0 : wc.cell? ⟨gb113, 0, none⟩ = some (.int .i64 a1_0) := (blk_cell BK113.out 0).trans rfl
          have hcz39_1 : wc.cell? ⟨gb113, 1, none⟩ = some (.int .i64 a1_1) := (blk_cell BK113.out 1).trans rfl
          have hcz39_2 : wc.cell? ⟨gb113, 2, none⟩ = some (.int .i64 a1_2) := (blk_cell BK113.out 2).trans rfl
          have hcz39_3 : wc.cell? ⟨gb113, 3, none⟩ = some (.int .i64 a1_3) := (blk_cell BK113.out 3).trans rfl
          have hfz39_0 := blk_frozen BK113.out 0
          have hfz39_1 := blk_frozen BK113.out 1
          have hfz39_2 := blk_frozen BK113.out 2
          have hfz39_3 := blk_frozen BK113.out 3
          go_wp2_with (first | ((with_reducible refine gate_callee (f := 98) rfl ?_); refine goesL_ (some 43) rfl rfl Try.func98 (by kernel_rfl) rfl #[.int .i64 a1_3, .int .i64 0, .int .i64 9999] rfl (by (try simp only [List.map_toArray, List.map_cons, List.map_nil]); first | done | rfl | (simp only [List.length_drop, List.length_take]; rfl)) ?_; (with_reducible refine (spec_l1In.calls a1_3 0 9999 true _ A31.out).mono ?_); rintro e w' ⟨rfl, ⟨nd, rfl⟩⟩; refine ⟨_, rfl, ?_⟩) | (go_at_call 98; (with_reducible refine (spec_l1In.calls a1_1 0 (wrap64 ((l0.length : Int) - 1)) true _ A34.out).mono ?_); rintro e w' ⟨rfl, ⟨nd, rfl⟩⟩))
          go_meet
          case rel => exact ⟨_, (false), (by first | rfl | (simp; done) | (simp [*]; done)), H', ⟨by have := HJ5.out; first | omega | exact Nat.le_refl _⟩, ⟨by (with_reducible repeat (first | refine blk_drewN ?_ _ | refine blk_drew ?_ | refine blk_alloc ?_ _)); exact BK113.out⟩, ⟨by repeat (first | (with_reducible first | exact HB.out | apply below_alloc | apply pw_below_drewN | apply below_drew1 | refine below_set ?_ GE113.out) | exact HB.out)⟩⟩
        ·replace c35 := Bool.eq_false_iff.mpr c35
         subst c35
         rw [if_neg (show ¬ (false = true) by decide)] at H
         have H' := Aside0.mk H
         clear H
         have hcz40_0 : wc.cell? ⟨gb113, 0, none⟩ = some (.int .i64 a1_0) := (blk_cell BK113.out 0).trans rfl
         have hcz40_1 : wc.cell? ⟨gb113, 1, none⟩ = some (.int .i64 a1_1) := (blk_cell BK113.out 1).trans rfl
         have hcz40_2 : wc.cell? ⟨gb113, 2, none⟩ = some (.int .i64 a1_2) := (blk_cell BK113.out 2).trans rfl
         have hcz40_3 : wc.cell? ⟨gb113, 3, none⟩ = some (.int .i64 a1_3) := (blk_cell BK113.out 3).trans rfl
         have hfz40_0 := blk_frozen BK113.out 0
         have hfz40_1 := blk_frozen BK113.out 1
         have hfz40_2 := blk_frozen BK113.out 2
         have hfz40_3 := blk_frozen BK113.out 3
         go_wp2_with (first | ((with_reducible refine gate_callee (f := 98) rfl ?_); refine goesL_ (some 43) rfl rfl Try.func98 (by kernel_rfl) rfl #[.int .i64 a1_3, .int .i64 0, .int .i64 9999] rfl (by (try simp only [List.map_toArray, List.map_cons, List.map_nil]); first | done | rfl | (simp only [List.length_drop, List.length_take]; rfl)) ?_; (with_reducible refine (spec_l1In.calls a1_3 0 9999 true _ A31.out).mono ?_); rintro e w' ⟨rfl, ⟨nd, rfl⟩⟩; refine ⟨_, rfl, ?_⟩) | (go_at_call 98; (with_reducible refine (spec_l1In.calls a1_1 0 (wrap64 ((l0.length : Int) - 1)) false _ A34.out).mono ?_); rintro e w' ⟨rfl, ⟨nd, rfl⟩⟩))
         go_meet
         case rel => exact ⟨_, (true), (by first | rfl | (simp; done) | (simp [*]; done)), H', ⟨by have := HJ5.out; first | omega | exact Nat.le_refl _⟩, ⟨by (with_reducible repeat (first | refine blk_drewN ?_ _ | refine blk_drew ?_ | refine blk_alloc ?_ _)); exact BK113.out⟩, ⟨by repeat (first | (with_reducible first | exact HB.out | apply below_alloc | apply pw_below_drewN | apply below_drew1 | refine below_set ?_ GE113.out) | exact HB.out)⟩⟩
       ·rw [if_neg c33] at H
        have c33b0 : decide (0 < t115) = false := decide_eq_false c33
        clear c33
        (first | rw [c33b0] | (simp only [i64_w, i32_w]; rw [c33b0]) | skip)
        by_cases c41 : t115 > 1
        ·rw [if_pos c41] at H
         have c41b0 : decide (1 < t115) = true := decide_eq_true c41
         clear c41
         replace H := Option.bind_eq_some_iff.mp H
         obtain ⟨t119, A420, H⟩ := H
         try dsimp only at H
         have A42 := Aside0.mk A420
         clear A420
         have H' := Aside0.mk H
         clear H
         have hcz43_0 : wc.cell? ⟨gb113, 0, none⟩ = some (.int .i64 a1_0) := (blk_cell BK113.out 0).trans rfl
         have hcz43_1 : wc.cell? ⟨gb113, 1, none⟩ = some (.int .i64 a1_1) := (blk_cell BK113.out 1).trans rfl
         have hcz43_2 : wc.cell? ⟨gb113, 2, none⟩ = some (.int .i64 a1_2) := (blk_cell BK113.out 2).trans rfl
         have hcz43_3 : wc.cell? ⟨gb113, 3, none⟩ = some (.int .i64 a1_3) := (blk_cell BK113.out 3).trans rfl
         have hfz43_0 := blk_frozen BK113.out 0
         have hfz43_1 := blk_frozen BK113.out 1
         have hfz43_2 := blk_frozen BK113.out 2
         have hfz43_3 := blk_frozen BK113.out 3
         go_wp2_with (first | ((with_reducible refine gate_callee (f := 98) rfl ?_); refine goesL_ (some 43) rfl rfl Try.func98 (by kernel_rfl) rfl #[.int .i64 a1_3, .int .i64 0, .int .i64 9999] rfl (by (try simp only [List.map_toArray, List.map_cons, List.map_nil]); first | done | rfl | (simp only [List.length_drop, List.length_take]; rfl)) ?_; (with_reducible refine (spec_l1In.calls a1_3 0 9999 true _ A31.out).mono ?_); rintro e w' ⟨rfl, ⟨nd, rfl⟩⟩; refine ⟨_, rfl, ?_⟩) | (go_at_call 98; (with_reducible refine (spec_l1In.calls a1_2 0 (wrap64 ((l0.length : Int) - 1)) t119 _ A42.out).mono ?_); rintro e w' ⟨rfl, ⟨nd, rfl⟩⟩))
         go_meet
         case rel => exact ⟨_, (!t119), (by first | rfl | (simp; done) | (simp [*]; done)), H', ⟨by have := HJ5.out; first | omega | exact Nat.le_refl _⟩, ⟨by (with_reducible repeat (first | refine blk_drewN ?_ _ | refine blk_drew ?_ | refine blk_alloc ?_ _)); exact BK113.out⟩, ⟨by repeat (first | (with_reducible first | exact HB.out | apply below_alloc | apply pw_below_drewN | apply below_drew1 | refine below_set ?_ GE113.out) | exact HB.out)⟩⟩
        ·rw [if_neg c41] at H
         have c41b0 : decide (1 < t115) = false := decide_eq_false c41
         clear c41
         have H' := Aside0.mk H
         clear H
         have hcz44_0 : wc.cell? ⟨gb113, 0, none⟩ = some (.int .i64 a1_0) := (blk_cell BK113.out 0).trans rfl
         have hcz44_1 : wc.cell? ⟨gb113, 1, none⟩ = some (.int .i64 a1_1) := (blk_cell BK113.out 1).trans rfl
         have hcz44_2 : wc.cell? ⟨gb113, 2, none⟩ = some (.int .i64 a1_2) := (blk_cell BK113.out 2).trans rfl
         have hcz44_3 : wc.cell? ⟨gb113, 3, none⟩ = some (.int .i64 a1_3) := (blk_cell BK113.out 3).trans rfl
         have hfz44_0 := blk_frozen BK113.out 0
         have hfz44_1 := blk_frozen BK113.out 1
         have hfz44_2 := blk_frozen BK113.out 2
         have hfz44_3 := blk_frozen BK113.out 3
         go_wp2_with (first | ((with_reducible refine gate_callee (f := 98) rfl ?_); refine goesL_ (some 43) rfl rfl Try.func98 (by kernel_rfl) rfl #[.int .i64 a1_3, .int .i64 0, .int .i64 9999] rfl (by (try simp only [List.map_toArray, List.map_cons, List.map_nil]); first | done | rfl | (simp only [List.length_drop, List.length_take]; rfl)) ?_; (with_reducible refine (spec_l1In.calls a1_3 0 9999 true _ A31.out).mono ?_); rintro e w' ⟨rfl, ⟨nd, rfl⟩⟩; refine ⟨_, rfl, ?_⟩))
         go_meet
         case rel => exact ⟨_, (false), (by first | rfl | (simp; done) | (simp [*]; done)), H', ⟨by have := HJ5.out; first | omega | exact Nat.le_refl _⟩, ⟨by (with_reducible repeat (first | refine blk_drewN ?_ _ | refine blk_drew ?_ | refine blk_alloc ?_ _)); exact BK113.out⟩, ⟨by repeat (first | (with_reducible first | exact HB.out | apply below_alloc | apply pw_below_drewN | apply below_drew1 | refine below_set ?_ GE113.out) | exact HB.out)⟩⟩
      ·replace c32 := Bool.eq_false_iff.mpr c32
       subst c32
       rw [if_neg (show ¬ (false = true) by decide)] at H
       have H' := Aside0.mk H
       clear H
       have hcz45_0 : wc.cell? ⟨gb113, 0, none⟩ = some (.int .i64 a1_0) := (blk_cell BK113.out 0).trans rfl
       have hcz45_1 : wc.cell? ⟨gb113, 1, none⟩ = some (.int .i64 a1_1) := (blk_cell BK113.out 1).trans rfl
       have hcz45_2 : wc.cell? ⟨gb113, 2, none⟩ = some (.int .i64 a1_2) := (blk_cell BK113.out 2).trans rfl
       have hcz45_3 : wc.cell? ⟨gb113, 3, none⟩ = some (.int .i64 a1_3) := (blk_cell BK113.out 3).trans rfl
       have hfz45_0 := blk_frozen BK113.out 0
       have hfz45_1 := blk_frozen BK113.out 1
       have hfz45_2 := blk_frozen BK113.out 2
       have hfz45_3 := blk_frozen BK113.out 3
       go_wp2_with (first | ((with_reducible refine gate_callee (f := 98) rfl ?_); refine goesL_ (some 43) rfl rfl Try.func98 (by kernel_rfl) rfl #[.int .i64 a1_3, .int .i64 0, .int .i64 9999] rfl (by (try simp only [List.map_toArray, List.map_cons, List.map_nil]); first | done | rfl | (simp only [List.length_drop, List.length_take]; rfl)) ?_; (with_reducible refine (spec_l1In.calls a1_3 0 9999 false _ A31.out).mono ?_); rintro e w' ⟨rfl, ⟨nd, rfl⟩⟩; refine ⟨_, rfl, ?_⟩))
       go_meet
       case rel => exact ⟨_, (true), (by first | rfl | (simp; done) | (simp [*]; done)), H', ⟨by have := HJ5.out; first | omega | exact Nat.le_refl _⟩, ⟨by (with_reducible repeat (first | refine blk_drewN ?_ _ | refine blk_drew ?_ | refine blk_alloc ?_ _)); exact BK113.out⟩, ⟨by repeat (first | (with_reducible first | exact HB.out | apply below_alloc | apply pw_below_drewN | apply below_drew1 | refine below_set ?_ GE113.out) | exact HB.out)⟩⟩
     case rest =>
      clear HC30
      try clear c1
      try clear c2
      try clear p2
      try clear c3
      try clear c4
      try clear c5
      try clear p6
      try clear c9
      try clear c9b0
      try clear c10
      try clear c10b0
      try clear c10b1
      try clear c11
      try clear c11b0
      try clear c12
      try clear c12b0
      try clear c12b1
      try clear c13
      try clear c13b0
      try clear c17
      try clear c17b0
      try clear c21
      try clear c21b0
      try clear c22
      try clear c22b0
      try clear c22b1
      try clear c23
      try clear c23b0
      try clear c27
      try clear c27b0
      try clear c29
      try clear c32
      try clear c33
      try clear c33b0
      try clear c35
      try clear c36
      try clear c36b0
      try clear c41
      try clear c41b0
      try clear hcz14_0
      try clear hcz14_1
      try clear hcz14_2
      try clear hcz14_3
      try clear hcz15_0
      try clear hcz15_1
      try clear hcz15_2
      try clear hcz15_3
      try clear hcz16_0
      try clear hcz16_1
      try clear hcz16_2
      try clear hcz16_3
      try clear hcz18_0
      try clear hcz18_1
      try clear hcz18_2
      try clear hcz18_3
      try clear hcz19_0
      try clear hcz19_1
      try clear hcz19_2
      try clear hcz19_3
      try clear hcz20_0
      try clear hcz20_1
      try clear hcz20_2
      try clear hcz20_3
      try clear hcz24_0
      try clear hcz24_1
      try clear hcz24_2
      try clear hcz24_3
      try clear hcz25_0
      try clear hcz25_1
      try clear hcz25_2
      try clear hcz25_3
      try clear hcz26_0
      try clear hcz26_1
      try clear hcz26_2
      try clear hcz26_3
      try clear hcz28_0
      try clear hcz28_1
      try clear hcz28_2
      try clear hcz28_3
      try clear hcz38_0
      try clear hcz38_1
      try clear hcz38_2
      try clear hcz38_3
      try clear hcz39_0
      try clear hcz39_1
      try clear hcz39_2
      try clear hcz39_3
      try clear hcz40_0
      try clear hcz40_1
      try clear hcz40_2
      try clear hcz40_3
      try clear hcz43_0
      try clear hcz43_1
      try clear hcz43_2
      try clear hcz43_3
      try clear hcz44_0
      try clear hcz44_1
      try clear hcz44_2
      try clear hcz44_3
      try clear hcz45_0
      try clear hcz45_1
      try clear hcz45_2
      try clear hcz45_3
      try clear hcz8_0
      try clear hcz8_1
      try clear hcz8_2
      try clear hcz8_3
      try clear hfz14_0
      try clear hfz14_1
      try clear hfz14_2
      try clear hfz14_3
      try clear hfz15_0
      try clear hfz15_1
      try clear hfz15_2
      try clear hfz15_3
      try clear hfz16_0
      try clear hfz16_1
      try clear hfz16_2
      try clear hfz16_3
      try clear hfz18_0
      try clear hfz18_1
      try clear hfz18_2
      try clear hfz18_3
      try clear hfz19_0
      try clear hfz19_1
      try clear hfz19_2
      try clear hfz19_3
      try clear hfz20_0
      try clear hfz20_1
      try clear hfz20_2
      try clear hfz20_3
      try clear hfz24_0
      try clear hfz24_1
      try clear hfz24_2
      try clear hfz24_3
      try clear hfz25_0
      try clear hfz25_1
      try clear hfz25_2
      try clear hfz25_3
      try clear hfz26_0
      try clear hfz26_1
      try clear hfz26_2
      try clear hfz26_3
      try clear hfz28_0
      try clear hfz28_1
      try clear hfz28_2
      try clear hfz28_3
      try clear hfz38_0
      try clear hfz38_1
      try clear hfz38_2
      try clear hfz38_3
      try clear hfz39_0
      try clear hfz39_1
      try clear hfz39_2
      try clear hfz39_3
      try clear hfz40_0
      try clear hfz40_1
      try clear hfz40_2
      try clear hfz40_3
      try clear hfz43_0
      try clear hfz43_1
      try clear hfz43_2
      try clear hfz43_3
      try clear hfz44_0
      try clear hfz44_1
      try clear hfz44_2
      try clear hfz44_3
      try clear hfz45_0
      try clear hfz45_1
      try clear hfz45_2
      try clear hfz45_3
      try clear hfz8_0
      try clear hfz8_1
      try clear hfz8_2
      try clear hfz8_3
      try clear p2
      obtain ⟨kq, x68_29, rfl, HA, HJ29, BK113, HB⟩ := hcut
      cases kq with
      | zero => exact absurd HA.out (by simp [spec_l5Term.j1])
      | succ kj29 =>
       have H := HA.out
       clear HA
       simp only [spec_l5Term.j1] at H
       by_cases c46 : x68_29 = true
       ·subst c46
        rw [if_pos rfl] at H
        obtain rfl := Option.some.inj H
        go_wp2
        go_ret
        exact ⟨by first | rfl | (simp [errW_none, errW_some] <;> rfl) | (simp [*, errW_none, errW_some] <;> rfl), by repeat (first | (with_reducible first | exact HB.out | apply below_alloc | apply pw_below_drewN | apply below_drew1 | refine below_set ?_ GE113.out) | exact HB.out)⟩
       ·replace c46 := Bool.eq_false_iff.mpr c46
        subst c46
        rw [if_neg (show ¬ (false = true) by decide)] at H
        have HC47 := Aside0.mk H
        clear H
        go_upto_region 9 with (fail)
        go_cut [76] (fun v76 wc => ∃ (kq : Nat) (x76_46 : Bool), v76 = .bool x76_46 ∧ Aside0 (spec_l5Term.j2 kq l0 t115 x76_46 a1_0 a1_1 a1_2 a1_3 = some r) ∧ Aside0 (kq ≤ kj29) ∧ Aside0 (wc.heap[gb113]? = some (.cells #[.int .i64 a1_0, .int .i64 a1_1, .int .i64 a1_2, .int .i64 a1_3] 26 (0, 0))) ∧ Aside0 (Below w.heap.size w wc))
        case first =>
         have H := HC47.out
         clear HC47
         by_cases c48 : a1_0 = 6
         ·rw [if_pos c48] at H
          have c48b0 : (a1_0 == 6) = true := beq_iff_eq.mpr c48
          have c48b1 : (a1_0 != 6) = false := bne_eq_false_iff_eq.mpr c48
          clear c48
          (first | rw [c48b0] | (simp only [i64_w, i32_w]; rw [c48b0]) | skip)
          have H' := Aside0.mk H
          clear H
          have hcz49_0 : wc.cell? ⟨gb113, 0, none⟩ = some (.int .i64 a1_0) := (blk_cell BK113.out 0).trans rfl
          have hcz49_1 : wc.cell? ⟨gb113, 1, none⟩ = some (.int .i64 a1_1) := (blk_cell BK113.out 1).trans rfl
          have hcz49_2 : wc.cell? ⟨gb113, 2, none⟩ = some (.int .i64 a1_2) := (blk_cell BK113.out 2).trans rfl
          have hcz49_3 : wc.cell? ⟨gb113, 3, none⟩ = some (.int .i64 a1_3) := (blk_cell BK113.out 3).trans rfl
          have hfz49_0 := blk_frozen BK113.out 0
          have hfz49_1 := blk_frozen BK113.out 1
          have hfz49_2 := blk_frozen BK113.out 2
          have hfz49_3 := blk_frozen BK113.out 3
          go_wp2
          go_meet
          case rel => exact ⟨_, (true), (by first | rfl | (simp; done) | (simp [*]; done)), H', ⟨by have := HJ5.out; have := HJ29.out; first | omega | exact Nat.le_refl _⟩, ⟨by (with_reducible repeat (first | refine blk_drewN ?_ _ | refine blk_drew ?_ | refine blk_alloc ?_ _)); exact BK113.out⟩, ⟨by repeat (first | (with_reducible first | exact HB.out | apply below_alloc | apply pw_below_drewN | apply below_drew1 | refine below_set ?_ GE113.out) | exact HB.out)⟩⟩
         ·rw [if_neg c48] at H
          have c48b0 : (a1_0 == 6) = false := beq_eq_false_iff_ne.mpr c48
          have c48b1 : (a1_0 != 6) = true := bne_iff_ne.mpr c48
          (first | rw [c48b0] | (simp only [i64_w, i32_w]; rw [c48b0]) | skip)
          have H' := Aside0.mk H
          clear H
          have hcz50_0 : wc.cell? ⟨gb113, 0, none⟩ = some (.int .i64 a1_0) := (blk_cell BK113.out 0).trans rfl
          have hcz50_1 : wc.cell? ⟨gb113, 1, none⟩ = some (.int .i64 a1_1) := (blk_cell BK113.out 1).trans rfl
          have hcz50_2 : wc.cell? ⟨gb113, 2, none⟩ = some (.int .i64 a1_2) := (blk_cell BK113.out 2).trans rfl
          have hcz50_3 : wc.cell? ⟨gb113, 3, none⟩ = some (.int .i64 a1_3) := (blk_cell BK113.out 3).trans rfl
          have hfz50_0 := blk_frozen BK113.out 0
          have hfz50_1 := blk_frozen BK113.out 1
          have hfz50_2 := blk_frozen BK113.out 2
          have hfz50_3 := blk_frozen BK113.out 3
          go_wp2
          go_meet
          case rel => exact ⟨_, ((a1_0 == 7)), (by first | rfl | (simp; done) | (simp [*]; done)), H', ⟨by have := HJ5.out; have := HJ29.out; first | omega | exact Nat.le_refl _⟩, ⟨by (with_reducible repeat (first | refine blk_drewN ?_ _ | refine blk_drew ?_ | refine blk_alloc ?_ _)); exact BK113.out⟩, ⟨by repeat (first | (with_reducible first | exact HB.out | apply below_alloc | apply pw_below_drewN | apply below_drew1 | refine below_set ?_ GE113.out) | exact HB.out)⟩⟩
        case rest =>
         clear HC47
         try clear c1
         try clear c2
         try clear p2
         try clear c3
         try clear c4
         try clear c5
         try clear p6
         try clear c9
         try clear c9b0
         try clear c10
         try clear c10b0
         try clear c10b1
         try clear c11
         try clear c11b0
         try clear c12
         try clear c12b0
         try clear c12b1
         try clear c13
         try clear c13b0
         try clear c17
         try clear c17b0
         try clear c21
         try clear c21b0
         try clear c22
         try clear c22b0
         try clear c22b1
         try clear c23
         try clear c23b0
         try clear c27
         try clear c27b0
         try clear c29
         try clear c32
         try clear c33
         try clear c33b0
         try clear c35
         try clear c36
         try clear c36b0
         try clear c41
         try clear c41b0
         try clear c46
         try clear c48
         try clear c48b0
         try clear c48b1
         try clear hcz14_0
         try clear hcz14_1
         try clear hcz14_2
         try clear hcz14_3
         try clear hcz15_0
         try clear hcz15_1
         try clear hcz15_2
         try clear hcz15_3
         try clear hcz16_0
         try clear hcz16_1
         try clear hcz16_2
         try clear hcz16_3
         try clear hcz18_0
         try clear hcz18_1
         try clear hcz18_2
         try clear hcz18_3
         try clear hcz19_0
         try clear hcz19_1
         try clear hcz19_2
         try clear hcz19_3
         try clear hcz20_0
         try clear hcz20_1
         try clear hcz20_2
         try clear hcz20_3
         try clear hcz24_0
         try clear hcz24_1
         try clear hcz24_2
         try clear hcz24_3
         try clear hcz25_0
         try clear hcz25_1
         try clear hcz25_2
         try clear hcz25_3
         try clear hcz26_0
         try clear hcz26_1
         try clear hcz26_2
         try clear hcz26_3
         try clear hcz28_0
         try clear hcz28_1
         try clear hcz28_2
         try clear hcz28_3
         try clear hcz38_0
         try clear hcz38_1
         try clear hcz38_2
         try clear hcz38_3
         try clear hcz39_0
         try clear hcz39_1
         try clear hcz39_2
         try clear hcz39_3
         try clear hcz40_0
         try clear hcz40_1
         try clear hcz40_2
         try clear hcz40_3
         try clear hcz43_0
         try clear hcz43_1
         try clear hcz43_2
         try clear hcz43_3
         try clear hcz44_0
         try clear hcz44_1
         try clear hcz44_2
         try clear hcz44_3
         try clear hcz45_0
         try clear hcz45_1
         try clear hcz45_2
         try clear hcz45_3
         try clear hcz49_0
         try clear hcz49_1
         try clear hcz49_2
         try clear hcz49_3
         try clear hcz50_0
         try clear hcz50_1
         try clear hcz50_2
         try clear hcz50_3
         try clear hcz8_0
         try clear hcz8_1
         try clear hcz8_2
         try clear hcz8_3
         try clear hfz14_0
         try clear hfz14_1
         try clear hfz14_2
         try clear hfz14_3
         try clear hfz15_0
         try clear hfz15_1
         try clear hfz15_2
         try clear hfz15_3
         try clear hfz16_0
         try clear hfz16_1
         try clear hfz16_2
         try clear hfz16_3
         try clear hfz18_0
         try clear hfz18_1
         try clear hfz18_2
         try clear hfz18_3
         try clear hfz19_0
         try clear hfz19_1
         try clear hfz19_2
         try clear hfz19_3
         try clear hfz20_0
         try clear hfz20_1
         try clear hfz20_2
         try clear hfz20_3
         try clear hfz24_0
         try clear hfz24_1
         try clear hfz24_2
         try clear hfz24_3
         try clear hfz25_0
         try clear hfz25_1
         try clear hfz25_2
         try clear hfz25_3
         try clear hfz26_0
         try clear hfz26_1
         try clear hfz26_2
         try clear hfz26_3
         try clear hfz28_0
         try clear hfz28_1
         try clear hfz28_2
         try clear hfz28_3
         try clear hfz38_0
         try clear hfz38_1
         try clear hfz38_2
         try clear hfz38_3
         try clear hfz39_0
         try clear hfz39_1
         try clear hfz39_2
         try clear hfz39_3
         try clear hfz40_0
         try clear hfz40_1
         try clear hfz40_2
         try clear hfz40_3
         try clear hfz43_0
         try clear hfz43_1
         try clear hfz43_2
         try clear hfz43_3
         try clear hfz44_0
         try clear hfz44_1
         try clear hfz44_2
         try clear hfz44_3
         try clear hfz45_0
         try clear hfz45_1
         try clear hfz45_2
         try clear hfz45_3
         try clear hfz49_0
         try clear hfz49_1
         try clear hfz49_2
         try clear hfz49_3
         try clear hfz50_0
         try clear hfz50_1
         try clear hfz50_2
         try clear hfz50_3
         try clear hfz8_0
         try clear hfz8_1
         try clear hfz8_2
         try clear hfz8_3
         try clear p2
         try clear p6
         obtain ⟨kq, x76_46, rfl, HA, HJ46, BK113, HB⟩ := hcut
         cases kq with
         | zero => exact absurd HA.out (by simp [spec_l5Term.j2])
         | succ kj46 =>
          have H := HA.out
          clear HA
          simp only [spec_l5Term.j2] at H
          by_cases c51 : x76_46 = true
          ·subst c51
           rw [if_pos rfl] at H
           by_cases c52 : 0 ≤ a1_1
           ·rw [if_pos c52] at H
            have c52b0 : decide (0 ≤ a1_1) = true := decide_eq_true c52
            clear c52
            by_cases c53 : a1_1 < (l0.length : Int)
            ·rw [if_pos c53] at H
             have c53b0 : decide (a1_1 < (l0.length : Int)) = true := decide_eq_true c53
             clear c53
             by_cases c54 : ((rd_T26 l0 a1_1).f0) = 2
             ·rw [if_pos c54] at H
              have c54b0 : (((rd_T26 l0 a1_1).f0) == 2) = true := beq_iff_eq.mpr c54
              have c54b1 : (((rd_T26 l0 a1_1).f0) != 2) = false := bne_eq_false_iff_eq.mpr c54
              clear c54
              by_cases c55 : t115 > 1
              ·rw [if_pos c55] at H
               have c55b0 : decide (1 < t115) = true := decide_eq_true c55
               clear c55
               by_cases c56 : 0 ≤ a1_2
               ·rw [if_pos c56] at H
                have c56b0 : decide (0 ≤ a1_2) = true := decide_eq_true c56
                clear c56
                by_cases c57 : a1_2 < (l0.length : Int)
                ·rw [if_pos c57] at H
                 have c57b0 : decide (a1_2 < (l0.length : Int)) = true := decide_eq_true c57
                 clear c57
                 by_cases c58 : ((rd_T26 l0 a1_2).f0) = 2
                 ·rw [if_pos c58] at H
                  have c58b0 : (((rd_T26 l0 a1_2).f0) == 2) = true := beq_iff_eq.mpr c58
                  have c58b1 : (((rd_T26 l0 a1_2).f0) != 2) = false := bne_eq_false_iff_eq.mpr c58
                  clear c58
                  by_cases c59 : a1_1 > a1_2
                  ·rw [if_pos c59] at H
                   have c59b0 : decide (a1_2 < a1_1) = true := decide_eq_true c59
                   clear c59
                   obtain rfl := Option.some.inj H
                   have hcz60_0 : wc.cell? ⟨gb113, 0, none⟩ = some (.int .i64 a1_0) := (blk_cell BK113.out 0).trans rfl
                   have hcz60_1 : wc.cell? ⟨gb113, 1, none⟩ = some (.int .i64 a1_1) := (blk_cell BK113.out 1).trans rfl
                   have hcz60_2 : wc.cell? ⟨gb113, 2, none⟩ = some (.int .i64 a1_2) := (blk_cell BK113.out 2).trans rfl
                   have hcz60_3 : wc.cell? ⟨gb113, 3, none⟩ = some (.int .i64 a1_3) := (blk_cell BK113.out 3).trans rfl
                   have hfz60_0 := blk_frozen BK113.out 0
                   have hfz60_1 := blk_frozen BK113.out 1
                   have hfz60_2 := blk_frozen BK113.out 2
                   have hfz60_3 := blk_frozen BK113.out 3
                   have p120 : 0 ≤ (a1_1 : Int) := of_decide_eq_true (by first | (with_reducible assumption) | assumption)
                   have q120 : a1_1 < (l0.length : Int) := of_decide_eq_true (by first | (with_reducible assumption) | assumption)
                   obtain ⟨ad120, e120, hx120_0, hx120_1, hx120_2, hx120_3⟩ := at_T26 HR0.out a1_1 p120 q120
                   cases e120
                   replace hx120_0 := (HB.out.cell (World.block_lt_of_cell? w _ hx120_0)).trans hx120_0
                   replace hx120_1 := (HB.out.cell (World.block_lt_of_cell? w _ hx120_1)).trans hx120_1
                   replace hx120_2 := (HB.out.cell (World.block_lt_of_cell? w _ hx120_2)).trans hx120_2
                   replace hx120_3 := (HB.out.cell (World.block_lt_of_cell? w _ hx120_3)).trans hx120_3
                   replace p120 := eq_true p120
                   replace q120 := eq_true q120
                   have p121 : 0 ≤ (a1_2 : Int) := of_decide_eq_true (by first | (with_reducible assumption) | assumption)
                   have q121 : a1_2 < (l0.length : Int) := of_decide_eq_true (by first | (with_reducible assumption) | assumption)
                   obtain ⟨ad121, e121, hx121_0, hx121_1, hx121_2, hx121_3⟩ := at_T26 HR0.out a1_2 p121 q121
                   obtain rfl : ad120 = ad121 := (by injection e121)
                   replace hx121_0 := (HB.out.cell (World.block_lt_of_cell? w _ hx121_0)).trans hx121_0
                   replace hx121_1 := (HB.out.cell (World.block_lt_of_cell? w _ hx121_1)).trans hx121_1
                   replace hx121_2 := (HB.out.cell (World.block_lt_of_cell? w _ hx121_2)).trans hx121_2
                   replace hx121_3 := (HB.out.cell (World.block_lt_of_cell? w _ hx121_3)).trans hx121_3
                   replace p121 := eq_true p121
                   replace q121 := eq_true q121
                   go_wp2
                   go_ret
                   exact ⟨by first | rfl | (simp [errW_none, errW_some] <;> rfl) | (simp [*, errW_none, errW_some] <;> rfl), by repeat (first | (with_reducible first | exact HB.out | apply below_alloc | apply pw_below_drewN | apply below_drew1 | refine below_set ?_ GE113.out) | exact HB.out)⟩
                  ·rw [if_neg c59] at H
                   have c59b0 : decide (a1_2 < a1_1) = false := decide_eq_false c59
                   clear c59
                   obtain rfl := Option.some.inj H
                   have hcz61_0 : wc.cell? ⟨gb113, 0, none⟩ = some (.int .i64 a1_0) := (blk_cell BK113.out 0).trans rfl
                   have hcz61_1 : wc.cell? ⟨gb113, 1, none⟩ = some (.int .i64 a1_1) := (blk_cell BK113.out 1).trans rfl
                   have hcz61_2 : wc.cell? ⟨gb113, 2, none⟩ = some (.int .i64 a1_2) := (blk_cell BK113.out 2).trans rfl
                   have hcz61_3 : wc.cell? ⟨gb113, 3, none⟩ = some (.int .i64 a1_3) := (blk_cell BK113.out 3).trans rfl
                   have hfz61_0 := blk_frozen BK113.out 0
                   have hfz61_1 := blk_frozen BK113.out 1
                   have hfz61_2 := blk_frozen BK113.out 2
                   have hfz61_3 := blk_frozen BK113.out 3
                   have p120 : 0 ≤ (a1_1 : Int) := of_decide_eq_true (by first | (with_reducible assumption) | assumption)
                   have q120 : a1_1 < (l0.length : Int) := of_decide_eq_true (by first | (with_reducible assumption) | assumption)
                   obtain ⟨ad120, e120, hx120_0, hx120_1, hx120_2, hx120_3⟩ := at_T26 HR0.out a1_1 p120 q120
                   cases e120
                   replace hx120_0 := (HB.out.cell (World.block_lt_of_cell? w _ hx120_0)).trans hx120_0
                   replace hx120_1 := (HB.out.cell (World.block_lt_of_cell? w _ hx120_1)).trans hx120_1
                   replace hx120_2 := (HB.out.cell (World.block_lt_of_cell? w _ hx120_2)).trans hx120_2
                   replace hx120_3 := (HB.out.cell (World.block_lt_of_cell? w _ hx120_3)).trans hx120_3
                   replace p120 := eq_true p120
                   replace q120 := eq_true q120
                   have p121 : 0 ≤ (a1_2 : Int) := of_decide_eq_true (by first | (with_reducible assumption) | assumption)
                   have q121 : a1_2 < (l0.length : Int) := of_decide_eq_true (by first | (with_reducible assumption) | assumption)
                   obtain ⟨ad121, e121, hx121_0, hx121_1, hx121_2, hx121_3⟩ := at_T26 HR0.out a1_2 p121 q121
                   obtain rfl : ad120 = ad121 := (by injection e121)
                   replace hx121_0 := (HB.out.cell (World.block_lt_of_cell? w _ hx121_0)).trans hx121_0
                   replace hx121_1 := (HB.out.cell (World.block_lt_of_cell? w _ hx121_1)).trans hx121_1
                   replace hx121_2 := (HB.out.cell (World.block_lt_of_cell? w _ hx121_2)).trans hx121_2
                   replace hx121_3 := (HB.out.cell (World.block_lt_of_cell? w _ hx121_3)).trans hx121_3
                   replace p121 := eq_true p121
                   replace q121 := eq_true q121
                   go_wp2
                   go_ret
                   exact ⟨by first | rfl | (simp [errW_none, errW_some] <;> rfl) | (simp [*, errW_none, errW_some] <;> rfl), by repeat (first | (with_reducible first | exact HB.out | apply below_alloc | apply pw_below_drewN | apply below_drew1 | refine below_set ?_ GE113.out) | exact HB.out)⟩
                 ·rw [if_neg c58] at H
                  have c58b0 : (((rd_T26 l0 a1_2).f0) == 2) = false := beq_eq_false_iff_ne.mpr c58
                  have c58b1 : (((rd_T26 l0 a1_2).f0) != 2) = true := bne_iff_ne.mpr c58
                  obtain rfl := Option.some.inj H
                  have hcz62_0 : wc.cell? ⟨gb113, 0, none⟩ = some (.int .i64 a1_0) := (blk_cell BK113.out 0).trans rfl
                  have hcz62_1 : wc.cell? ⟨gb113, 1, none⟩ = some (.int .i64 a1_1) := (blk_cell BK113.out 1).trans rfl
                  have hcz62_2 : wc.cell? ⟨gb113, 2, none⟩ = some (.int .i64 a1_2) := (blk_cell BK113.out 2).trans rfl
                  have hcz62_3 : wc.cell? ⟨gb113, 3, none⟩ = some (.int .i64 a1_3) := (blk_cell BK113.out 3).trans rfl
                  have hfz62_0 := blk_frozen BK113.out 0
                  have hfz62_1 := blk_frozen BK113.out 1
                  have hfz62_2 := blk_frozen BK113.out 2
                  have hfz62_3 := blk_frozen BK113.out 3
                  have p120 : 0 ≤ (a1_1 : Int) := of_decide_eq_true (by first | (with_reducible assumption) | assumption)
                  have q120 : a1_1 < (l0.length : Int) := of_decide_eq_true (by first | (with_reducible assumption) | assumption)
                  obtain ⟨ad120, e120, hx120_0, hx120_1, hx120_2, hx120_3⟩ := at_T26 HR0.out a1_1 p120 q120
                  cases e120
                  replace hx120_0 := (HB.out.cell (World.block_lt_of_cell? w _ hx120_0)).trans hx120_0
                  replace hx120_1 := (HB.out.cell (World.block_lt_of_cell? w _ hx120_1)).trans hx120_1
                  replace hx120_2 := (HB.out.cell (World.block_lt_of_cell? w _ hx120_2)).trans hx120_2
                  replace hx120_3 := (HB.out.cell (World.block_lt_of_cell? w _ hx120_3)).trans hx120_3
                  replace p120 := eq_true p120
                  replace q120 := eq_true q120
                  have p121 : 0 ≤ (a1_2 : Int) := of_decide_eq_true (by first | (with_reducible assumption) | assumption)
                  have q121 : a1_2 < (l0.length : Int) := of_decide_eq_true (by first | (with_reducible assumption) | assumption)
                  obtain ⟨ad121, e121, hx121_0, hx121_1, hx121_2, hx121_3⟩ := at_T26 HR0.out a1_2 p121 q121
                  obtain rfl : ad120 = ad121 := (by injection e121)
                  replace hx121_0 := (HB.out.cell (World.block_lt_of_cell? w _ hx121_0)).trans hx121_0
                  replace hx121_1 := (HB.out.cell (World.block_lt_of_cell? w _ hx121_1)).trans hx121_1
                  replace hx121_2 := (HB.out.cell (World.block_lt_of_cell? w _ hx121_2)).trans hx121_2
                  replace hx121_3 := (HB.out.cell (World.block_lt_of_cell? w _ hx121_3)).trans hx121_3
                  replace p121 := eq_true p121
                  replace q121 := eq_true q121
                  go_wp2
                  go_ret
                  exact ⟨by first | rfl | (simp [errW_none, errW_some] <;> rfl) | (simp [*, errW_none, errW_some] <;> rfl), by repeat (first | (with_reducible first | exact HB.out | apply below_alloc | apply pw_below_drewN | apply below_drew1 | refine below_set ?_ GE113.out) | exact HB.out)⟩
                ·rw [if_neg c57] at H
                 exact absurd H (by simp)
               ·rw [if_neg c56] at H
                exact absurd H (by simp)
              ·rw [if_neg c55] at H
               have c55b0 : decide (1 < t115) = false := decide_eq_false c55
               clear c55
               obtain rfl := Option.some.inj H
               have hcz63_0 : wc.cell? ⟨gb113, 0, none⟩ = some (.int .i64 a1_0) := (blk_cell BK113.out 0).trans rfl
               have hcz63_1 : wc.cell? ⟨gb113, 1, none⟩ = some (.int .i64 a1_1) := (blk_cell BK113.out 1).trans rfl
               have hcz63_2 : wc.cell? ⟨gb113, 2, none⟩ = some (.int .i64 a1_2) := (blk_cell BK113.out 2).trans rfl
               have hcz63_3 : wc.cell? ⟨gb113, 3, none⟩ = some (.int .i64 a1_3) := (blk_cell BK113.out 3).trans rfl
               have hfz63_0 := blk_frozen BK113.out 0
               have hfz63_1 := blk_frozen BK113.out 1
               have hfz63_2 := blk_frozen BK113.out 2
               have hfz63_3 := blk_frozen BK113.out 3
               have p120 : 0 ≤ (a1_1 : Int) := of_decide_eq_true (by first | (with_reducible assumption) | assumption)
               have q120 : a1_1 < (l0.length : Int) := of_decide_eq_true (by first | (with_reducible assumption) | assumption)
               obtain ⟨ad120, e120, hx120_0, hx120_1, hx120_2, hx120_3⟩ := at_T26 HR0.out a1_1 p120 q120
               cases e120
               replace hx120_0 := (HB.out.cell (World.block_lt_of_cell? w _ hx120_0)).trans hx120_0
               replace hx120_1 := (HB.out.cell (World.block_lt_of_cell? w _ hx120_1)).trans hx120_1
               replace hx120_2 := (HB.out.cell (World.block_lt_of_cell? w _ hx120_2)).trans hx120_2
               replace hx120_3 := (HB.out.cell (World.block_lt_of_cell? w _ hx120_3)).trans hx120_3
               replace p120 := eq_true p120
               replace q120 := eq_true q120
               go_wp2
               go_ret
               exact ⟨by first | rfl | (simp [errW_none, errW_some] <;> rfl) | (simp [*, errW_none, errW_some] <;> rfl), by repeat (first | (with_reducible first | exact HB.out | apply below_alloc | apply pw_below_drewN | apply below_drew1 | refine below_set ?_ GE113.out) | exact HB.out)⟩
             ·rw [if_neg c54] at H
              have c54b0 : (((rd_T26 l0 a1_1).f0) == 2) = false := beq_eq_false_iff_ne.mpr c54
              have c54b1 : (((rd_T26 l0 a1_1).f0) != 2) = true := bne_iff_ne.mpr c54
              obtain rfl := Option.some.inj H
              have hcz64_0 : wc.cell? ⟨gb113, 0, none⟩ = some (.int .i64 a1_0) := (blk_cell BK113.out 0).trans rfl
              have hcz64_1 : wc.cell? ⟨gb113, 1, none⟩ = some (.int .i64 a1_1) := (blk_cell BK113.out 1).trans rfl
              have hcz64_2 : wc.cell? ⟨gb113, 2, none⟩ = some (.int .i64 a1_2) := (blk_cell BK113.out 2).trans rfl
              have hcz64_3 : wc.cell? ⟨gb113, 3, none⟩ = some (.int .i64 a1_3) := (blk_cell BK113.out 3).trans rfl
              have hfz64_0 := blk_frozen BK113.out 0
              have hfz64_1 := blk_frozen BK113.out 1
              have hfz64_2 := blk_frozen BK113.out 2
              have hfz64_3 := blk_frozen BK113.out 3
              have p120 : 0 ≤ (a1_1 : Int) := of_decide_eq_true (by first | (with_reducible assumption) | assumption)
              have q120 : a1_1 < (l0.length : Int) := of_decide_eq_true (by first | (with_reducible assumption) | assumption)
              obtain ⟨ad120, e120, hx120_0, hx120_1, hx120_2, hx120_3⟩ := at_T26 HR0.out a1_1 p120 q120
              cases e120
              replace hx120_0 := (HB.out.cell (World.block_lt_of_cell? w _ hx120_0)).trans hx120_0
              replace hx120_1 := (HB.out.cell (World.block_lt_of_cell? w _ hx120_1)).trans hx120_1
              replace hx120_2 := (HB.out.cell (World.block_lt_of_cell? w _ hx120_2)).trans hx120_2
              replace hx120_3 := (HB.out.cell (World.block_lt_of_cell? w _ hx120_3)).trans hx120_3
              replace p120 := eq_true p120
              replace q120 := eq_true q120
              go_wp2
              go_ret
              exact ⟨by first | rfl | (simp [errW_none, errW_some] <;> rfl) | (simp [*, errW_none, errW_some] <;> rfl), by repeat (first | (with_reducible first | exact HB.out | apply below_alloc | apply pw_below_drewN | apply below_drew1 | refine below_set ?_ GE113.out) | exact HB.out)⟩
            ·rw [if_neg c53] at H
             exact absurd H (by simp)
           ·rw [if_neg c52] at H
            exact absurd H (by simp)
          ·replace c51 := Bool.eq_false_iff.mpr c51
           subst c51
           rw [if_neg (show ¬ (false = true) by decide)] at H
           obtain rfl := Option.some.inj H
           go_wp2
           go_ret
           exact ⟨by first | rfl | (simp [errW_none, errW_some] <;> rfl) | (simp [*, errW_none, errW_some] <;> rfl), by repeat (first | (with_reducible first | exact HB.out | apply below_alloc | apply pw_below_drewN | apply below_drew1 | refine below_set ?_ GE113.out) | exact HB.out)⟩
 ·replace c4 := Bool.eq_false_iff.mpr c4
  subst c4
  rw [if_neg (show ¬ (false = true) by decide)] at H
  obtain rfl := Option.some.inj H
  go_enter Try.func92, Try.ntmps92
  go_wp2_with (first | ((with_reducible refine gate_dst (N := 3) rfl ?_); refine box_event ?hg (N := 3) ?hd (cs := #[.int .i64 a1_0, .int .i64 a1_1, .int .i64 a1_2, .int .i64 a1_3]) (t := 26) ?hr ?_; (case hd => rfl); (case hg => rfl); (case hr => first | (go_simp; done) | (go_simp; rfl)); intro gb113 hg w65 hbox hb; have n0_ := Aside0.mk (below_step (by repeat (first | (with_reducible first | exact HB.out | apply below_alloc | apply pw_below_drewN | apply below_drew1) | exact HB.out)) hb); have n1_ := Aside0.mk (hbox); have n2_ := Aside0.mk ((by rw [hg]; exact (below_size (by repeat (first | (with_reducible first | exact HB.out | apply below_alloc | apply pw_below_drewN | apply below_drew1) | exact HB.out))) : w.heap.size ≤ gb113)); have n3_ := Aside0.mk ((by rw [hg]; exact (below_size (by repeat (first | (with_reducible first | exact HB.out | apply below_alloc | apply pw_below_drewN | apply below_drew1) | exact HB.out))) : w.heap.size ≤ gb113)); clear HB; have HB := n0_; have BK113 := n1_; have GW113 := n2_; have GE113 := n3_; clear n0_ n1_ n2_ n3_; clear hb hbox hg; have hcz66_0 : w65.cell? ⟨gb113, 0, none⟩ = some (.int .i64 a1_0) := (blk_cell BK113.out 0).trans rfl; have hcz66_1 : w65.cell? ⟨gb113, 1, none⟩ = some (.int .i64 a1_1) := (blk_cell BK113.out 1).trans rfl; have hcz66_2 : w65.cell? ⟨gb113, 2, none⟩ = some (.int .i64 a1_2) := (blk_cell BK113.out 2).trans rfl; have hcz66_3 : w65.cell? ⟨gb113, 3, none⟩ = some (.int .i64 a1_3) := (blk_cell BK113.out 3).trans rfl; have hfz66_0 := blk_frozen BK113.out 0; have hfz66_1 := blk_frozen BK113.out 1; have hfz66_2 := blk_frozen BK113.out 2; have hfz66_3 := blk_frozen BK113.out 3) | ((with_reducible refine gate_callee (f := 98) rfl ?_); refine goesL_ (some 9) rfl rfl Try.func98 (by kernel_rfl) rfl #[.int .i64 a1_0, .int .i64 1, .int .i64 7] rfl (by (try simp only [List.map_toArray, List.map_cons, List.map_nil]); first | done | rfl | (simp only [List.length_drop, List.length_take]; rfl)) ?_; (with_reducible refine (spec_l1In.calls a1_0 1 7 false _ A3.out).mono ?_); rintro e w' ⟨rfl, ⟨nd, rfl⟩⟩; refine ⟨_, rfl, ?_⟩))
  go_ret
  exact ⟨by first | rfl | (simp [errW_none, errW_some] <;> rfl) | (simp [*, errW_none, errW_some] <;> rfl), by repeat (first | (with_reducible first | exact HB.out | apply below_alloc | apply pw_below_drewN | apply below_drew1 | refine below_set ?_ GE113.out) | exact HB.out)⟩
end Go.Proofs.Ytomaeijhljpgdaa.G
namespace Go.Proofs.Ytomaeijhljpgdaa.G
open Go.RowKit Go.Proofs.YtomaeijhljpgdaaW.PrintWords Go.Proofs.YtomaeijhljpgdaaW.PrintLast Go.Proofs.YtomaeijhljpgdaaW.PrintMore
attribute [local go_sem] max2_int min2_int max_two min_two max_three min_three max_four min_four   -- for this text's walks alone
set_option linter.unusedVariables false
set_option linter.unusedSimpArgs false
attribute [local go_sem high] eqA26
def spec_l5Find.l0 : Nat → List (S26) → Int → Int → Int → Int → Int → Option (Int)
 | 0, _, _, _, _, _, _ => none
 | k + 1, x0, x5, x123000, x123001, x123002, x123003 => if x5 < (x0.length : Int) then (if 0 ≤ x5 then (if (((rd_T26 x0 x5).f0) == x123000 && (((rd_T26 x0 x5).f1) == x123001 && (((rd_T26 x0 x5).f2) == x123002 && (((rd_T26 x0 x5).f3) == x123003)))) = true then (some x5) else (spec_l5Find.l0 k x0 (wrap64 (x5 + 1)) x123000 x123001 x123002 x123003)) else (none)) else (some (-1))
def spec_l5Find.f (k : Nat) (l0 : List (S26)) (a1_0 : Int) (a1_1 : Int) (a1_2 : Int) (a1_3 : Int) : Option (Int) := spec_l5Find.l0 k l0 0 a1_0 a1_1 a1_2 a1_3
set_option maxHeartbeats 8000000 in
set_option maxRecDepth 100000 in
theorem spec_l5Find.calls (k : Nat) (A0 : Option Addr) (c0 : Nat) (l0 : List (S26)) (a1_0 : Int) (a1_1 : Int) (a1_2 : Int) (a1_3 : Int) (r : Int) (w : World) (hr0 : Kd.C k26 w A0 l0.length l0) (hc0 : l0.length ≤ c0) (h : spec_l5Find.f k l0 a1_0 a1_1 a1_2 a1_3 = some r) :
  Calls Try.prog 93 #[.slice A0 l0.length c0, .agg #[.int .i64 a1_0, .int .i64 a1_1, .int .i64 a1_2, .int .i64 a1_3]] w fun e w' => e = .returned (.int .i64 r) ∧ Below w.heap.size w w' := by
 have hu26 := Try.underlying26
 have HR0 := Aside0.mk hr0
 have HC0 := Aside0.mk hc0
 clear hr0 hc0
 have HB := Aside0.mk (Below.refl w.heap.size w)
 have H : (spec_l5Find.l0 k l0 0 a1_0 a1_1 a1_2 a1_3) = some r := h
 clear h
 have H' := Aside0.mk H
 clear H
 go_enter Try.func93, Try.ntmps93
 go_wp2_with (first | ((with_reducible refine gate_dst (N := 3) rfl ?_); refine box_event ?hg (N := 3) ?hd (cs := #[.int .i64 a1_0, .int .i64 a1_1, .int .i64 a1_2, .int .i64 a1_3]) (t := 26) ?hr ?_; (case hd => rfl); (case hg => rfl); (case hr => first | (go_simp; done) | (go_simp; rfl)); intro gb122 hg w3 hbox hb; have n0_ := Aside0.mk (below_step (by repeat (first | (with_reducible first | exact HB.out | apply below_alloc | apply pw_below_drewN | apply below_drew1) | exact HB.out)) hb); have n1_ := Aside0.mk (hbox); have n2_ := Aside0.mk ((by rw [hg]; exact (below_size (by repeat (first | (with_reducible first | exact HB.out | apply below_alloc | apply pw_below_drewN | apply below_drew1) | exact HB.out))) : w.heap.size ≤ gb122)); have n3_ := Aside0.mk ((by rw [hg]; exact (below_size (by repeat (first | (with_reducible first | exact HB.out | apply below_alloc | apply pw_below_drewN | apply below_drew1) | exact HB.out))) : w.heap.size ≤ gb122)); clear HB; have HB := n0_; have BK122 := n1_; have GW122 := n2_; have GE122 := n3_; clear n0_ n1_ n2_ n3_; clear hb hbox hg))
 repeat (go_quiet (first | ((with_reducible refine gate_dst (N := 3) rfl ?_); refine box_event ?hg (N := 3) ?hd (cs := #[.int .i64 a1_0, .int .i64 a1_1, .int .i64 a1_2, .int .i64 a1_3]) (t := 26) ?hr ?_; (case hd => rfl); (case hg => rfl); (case hr => first | (go_simp; done) | (go_simp; rfl)); intro gb122 hg w3 hbox hb; have n0_ := Aside0.mk (below_step (by repeat (first | (with_reducible first | exact HB.out | apply below_alloc | apply pw_below_drewN | apply below_drew1) | exact HB.out)) hb); have n1_ := Aside0.mk (hbox); have n2_ := Aside0.mk ((by rw [hg]; exact (below_size (by repeat (first | (with_reducible first | exact HB.out | apply below_alloc | apply pw_below_drewN | apply below_drew1) | exact HB.out))) : w.heap.size ≤ gb122)); have n3_ := Aside0.mk ((by rw [hg]; exact (below_size (by repeat (first | (with_reducible first | exact HB.out | apply below_alloc | apply pw_below_drewN | apply below_drew1) | exact HB.out))) : w.heap.size ≤ gb122)); clear HB; have HB := n0_; have BK122 := n1_; have GW122 := n2_; have GE122 := n3_; clear n0_ n1_ n2_ n3_; clear hb hbox hg)); try go_wp2_with (first | ((with_reducible refine gate_dst (N := 3) rfl ?_); refine box_event ?hg (N := 3) ?hd (cs := #[.int .i64 a1_0, .int .i64 a1_1, .int .i64 a1_2, .int .i64 a1_3]) (t := 26) ?hr ?_; (case hd => rfl); (case hg => rfl); (case hr => first | (go_simp; done) | (go_simp; rfl)); intro gb122 hg w3 hbox hb; have n0_ := Aside0.mk (below_step (by repeat (first | (with_reducible first | exact HB.out | apply below_alloc | apply pw_below_drewN | apply below_drew1) | exact HB.out)) hb); have n1_ := Aside0.mk (hbox); have n2_ := Aside0.mk ((by rw [hg]; exact (below_size (by repeat (first | (with_reducible first | exact HB.out | apply below_alloc | apply pw_below_drewN | apply below_drew1) | exact HB.out))) : w.heap.size ≤ gb122)); have n3_ := Aside0.mk ((by rw [hg]; exact (below_size (by repeat (first | (with_reducible first | exact HB.out | apply below_alloc | apply pw_below_drewN | apply below_drew1) | exact HB.out))) : w.heap.size ≤ gb122)); clear HB; have HB := n0_; have BK122 := n1_; have GW122 := n2_; have GE122 := n3_; clear n0_ n1_ n2_ n3_; clear hb hbox hg)))
 go_loopg [5] k (fun kq v5 w' => ∃ (x5_1 : Int), v5 = .int .i64 x5_1 ∧ Aside0 (spec_l5Find.l0 kq l0 x5_1 a1_0 a1_1 a1_2 a1_3 = some r) ∧ Aside0 (kq ≤ k) ∧ Aside0 (w'.heap[gb122]? = some (.cells #[.int .i64 a1_0, .int .i64 a1_1, .int .i64 a1_2, .int .i64 a1_3] 26 (0, 0))) ∧ Aside0 (Below w.heap.size w w'))
 case atStart => exact ⟨(0), (by first | rfl | (simp; done) | (simp [*]; done)), H', ⟨Nat.le_refl _⟩, ⟨by (with_reducible repeat (first | refine blk_drewN ?_ _ | refine blk_drew ?_ | refine blk_alloc ?_ _)); exact BK122.out⟩, ⟨by repeat (first | (with_reducible first | exact HB.out | apply below_alloc | apply pw_below_drewN | apply below_drew1 | refine below_set ?_ GE122.out) | exact HB.out)⟩⟩
 case round =>
  clear H'
  try clear p2
  obtain ⟨x5_1, rfl, HA, HK1, BK122, HB⟩ := hrel
  cases gk with
  | zero => exact absurd HA.out (by simp [spec_l5Find.l0])
  | succ k1 =>
   have H := HA.out
   clear HA
   simp only [spec_l5Find.l0] at H
   by_cases c4 : x5_1 < (l0.length : Int)
   ·rw [if_pos c4] at H
    have c4b0 : decide (x5_1 < (l0.length : Int)) = true := decide_eq_true c4
    clear c4
    by_cases c5 : 0 ≤ x5_1
    ·rw [if_pos c5] at H
     have c5b0 : decide (0 ≤ x5_1) = true := decide_eq_true c5
     clear c5
     by_cases c6 : (((rd_T26 l0 x5_1).f0) == a1_0 && (((rd_T26 l0 x5_1).f1) == a1_1 && (((rd_T26 l0 x5_1).f2) == a1_2 && (((rd_T26 l0 x5_1).f3) == a1_3)))) = true
     ·rw [if_pos c6] at H
      have c6b0 : (((rd_T26 l0 x5_1).f0) == a1_0 && (((rd_T26 l0 x5_1).f1) == a1_1 && (((rd_T26 l0 x5_1).f2) == a1_2 && (((rd_T26 l0 x5_1).f3) == a1_3)))) = true := c6
      (try (have c6b1 : decide (((rd_T26 l0 x5_1).f0) = a1_0 && (((rd_T26 l0 x5_1).f1) == a1_1 && (((rd_T26 l0 x5_1).f2) == a1_2 && (((rd_T26 l0 x5_1).f3) == a1_3)))) = true := by simpa using c6))
      (try (have c6b2 : (((rd_T26 l0 x5_1).f0) == a1_0 && (((rd_T26 l0 x5_1).f1) == a1_1 && (((rd_T26 l0 x5_1).f2) == a1_2 && (((rd_T26 l0 x5_1).f3) == a1_3)))) = true := by simpa using c6))
      clear c6
      obtain rfl := Option.some.inj H
      have p123 : 0 ≤ (x5_1 : Int) := of_decide_eq_true (by first | (with_reducible assumption) | assumption)
      have q123 : x5_1 < (l0.length : Int) := of_decide_eq_true (by first | (with_reducible assumption) | assumption)
      obtain ⟨ad123, e123, hx123_0, hx123_1, hx123_2, hx123_3⟩ := at_T26 HR0.out x5_1 p123 q123
      cases e123
      replace hx123_0 := (HB.out.cell (World.block_lt_of_cell? w _ hx123_0)).trans hx123_0
      replace hx123_1 := (HB.out.cell (World.block_lt_of_cell? w _ hx123_1)).trans hx123_1
      replace hx123_2 := (HB.out.cell (World.block_lt_of_cell? w _ hx123_2)).trans hx123_2
      replace hx123_3 := (HB.out.cell (World.block_lt_of_cell? w _ hx123_3)).trans hx123_3
      replace p123 := eq_true p123
      replace q123 := eq_true q123
      have hcz7_0 : wr.cell? ⟨gb122, 0, none⟩ = some (.int .i64 a1_0) := (blk_cell BK122.out 0).trans rfl
      have hcz7_1 : wr.cell? ⟨gb122, 1, none⟩ = some (.int .i64 a1_1) := (blk_cell BK122.out 1).trans rfl
      have hcz7_2 : wr.cell? ⟨gb122, 2, none⟩ = some (.int .i64 a1_2) := (blk_cell BK122.out 2).trans rfl
      have hcz7_3 : wr.cell? ⟨gb122, 3, none⟩ = some (.int .i64 a1_3) := (blk_cell BK122.out 3).trans rfl
      have hfz7_0 := blk_frozen BK122.out 0
      have hfz7_1 := blk_frozen BK122.out 1
      have hfz7_2 := blk_frozen BK122.out 2
      have hfz7_3 := blk_frozen BK122.out 3
      go_wp2
      repeat (go_quiet (fail); try go_wp2)
      go_ret
      exact ⟨by first | rfl | (simp [errW_none, errW_some] <;> rfl) | (simp [*, errW_none, errW_some] <;> rfl), by repeat (first | (with_reducible first | exact HB.out | apply below_alloc | apply pw_below_drewN | apply below_drew1 | refine below_set ?_ GE122.out) | exact HB.out)⟩
     ·rw [if_neg c6] at H
      have c6b0 : (((rd_T26 l0 x5_1).f0) == a1_0 && (((rd_T26 l0 x5_1).f1) == a1_1 && (((rd_T26 l0 x5_1).f2) == a1_2 && (((rd_T26 l0 x5_1).f3) == a1_3)))) = false := by simpa using c6
      (try (have c6b1 : decide (((rd_T26 l0 x5_1).f0) = a1_0 && (((rd_T26 l0 x5_1).f1) == a1_1 && (((rd_T26 l0 x5_1).f2) == a1_2 && (((rd_T26 l0 x5_1).f3) == a1_3)))) = false := by simpa using c6))
      (try (have c6b2 : (((rd_T26 l0 x5_1).f0) == a1_0 && (((rd_T26 l0 x5_1).f1) == a1_1 && (((rd_T26 l0 x5_1).f2) == a1_2 && (((rd_T26 l0 x5_1).f3) == a1_3)))) = false := by simpa using c6))
      (try (have c6b3 : ¬ (((rd_T26 l0 x5_1).f0) = a1_0 && (((rd_T26 l0 x5_1).f1) == a1_1 && (((rd_T26 l0 x5_1).f2) == a1_2 && (((rd_T26 l0 x5_1).f3) == a1_3)))) := by simpa using c6))
      clear c6
      have H' := Aside0.mk H
      clear H
      have p123 : 0 ≤ (x5_1 : Int) := of_decide_eq_true (by first | (with_reducible assumption) | assumption)
      have q123 : x5_1 < (l0.length : Int) := of_decide_eq_true (by first | (with_reducible assumption) | assumption)
      obtain ⟨ad123, e123, hx123_0, hx123_1, hx123_2, hx123_3⟩ := at_T26 HR0.out x5_1 p123 q123
      cases e123
      replace hx123_0 := (HB.out.cell (World.block_lt_of_cell? w _ hx123_0)).trans hx123_0
      replace hx123_1 := (HB.out.cell (World.block_lt_of_cell? w _ hx123_1)).trans hx123_1
      replace hx123_2 := (HB.out.cell (World.block_lt_of_cell? w _ hx123_2)).trans hx123_2
      replace hx123_3 := (HB.out.cell (World.block_lt_of_cell? w _ hx123_3)).trans hx123_3
      replace p123 := eq_true p123
      replace q123 := eq_true q123
      have hcz8_0 : wr.cell? ⟨gb122, 0, none⟩ = some (.int .i64 a1_0) := (blk_cell BK122.out 0).trans rfl
      have hcz8_1 : wr.cell? ⟨gb122, 1, none⟩ = some (.int .i64 a1_1) := (blk_cell BK122.out 1).trans rfl
      have hcz8_2 : wr.cell? ⟨gb122, 2, none⟩ = some (.int .i64 a1_2) := (blk_cell BK122.out 2).trans rfl
      have hcz8_3 : wr.cell? ⟨gb122, 3, none⟩ = some (.int .i64 a1_3) := (blk_cell BK122.out 3).trans rfl
      have hfz8_0 := blk_frozen BK122.out 0
      have hfz8_1 := blk_frozen BK122.out 1
      have hfz8_2 := blk_frozen BK122.out 2
      have hfz8_3 := blk_frozen BK122.out 3
      go_wp2
      repeat (go_quiet (fail); try go_wp2)
      go_roundg k1
      case measure => have := HK1.out; omega
      case rel => exact ⟨(wrap64 (x5_1 + 1)), (by first | rfl | (simp; done) | (simp [*]; done)), H', ⟨by have := HK1.out; omega⟩, ⟨by (with_reducible repeat (first | refine blk_drewN ?_ _ | refine blk_drew ?_ | refine blk_alloc ?_ _)); exact BK122.out⟩, ⟨by repeat (first | (with_reducible first | exact HB.out | apply below_alloc | apply pw_below_drewN | apply below_drew1 | refine below_set ?_ GE122.out) | exact HB.out)⟩⟩
    ·rw [if_neg c5] at H
     exact absurd H (by simp)
   ·rw [if_neg c4] at H
    have c4b0 : decide (x5_1 < (l0.length : Int)) = false := decide_eq_false c4
    clear c4
    obtain rfl := Option.some.inj H
    go_wp2
    repeat (go_quiet (fail); try go_wp2)
    go_ret
    exact ⟨by first | rfl | (simp [errW_none, errW_some] <;> rfl) | (simp [*, errW_none, errW_some] <;> rfl), by repeat (first | (with_reducible first | exact HB.out | apply below_alloc | apply pw_below_drewN | apply below_drew1 | refine below_set ?_ GE122.out) | exact HB.out)⟩
end Go.Proofs.Ytomaeijhljpgdaa.G
namespace Go.Proofs.Ytomaeijhljpgdaa.G
open Go.RowKit Go.Proofs.YtomaeijhljpgdaaW.PrintWords Go.Proofs.YtomaeijhljpgdaaW.PrintLast Go.Proofs.YtomaeijhljpgdaaW.PrintMore
attribute [local go_sem] max2_int min2_int max_two min_two max_three min_three max_four min_four   -- for this text's walks alone
set_option linter.unusedVariables false
set_option linter.unusedSimpArgs false
def spec_l5Put.f (k : Nat) (l0 : List (S26)) (a1_0 : Int) (a1_1 : Int) (a1_2 : Int) (a1_3 : Int) : Option (Int × Int × (List (S26))) := (spec_l5Term.f k l0 a1_0 a1_1 a1_2 a1_3).bind fun t126 => (if t126 = 0 then ((spec_l5Find.f k l0 a1_0 a1_1 a1_2 a1_3).bind fun t127 => (if t127 ≥ 0 then ((spec_l5Copy.f l0).bind fun t128 => (some (0, t127, t128))) else (if (l0.length : Int) ≥ 400 then (some (2, 0, ([] : List (S26)))) else ((spec_l5Copy.f l0).bind fun t131 => ((some (([(⟨a1_0, a1_1, a1_2, a1_3⟩ : S26)] : List (S26)) : List (S26))).bind fun y134 => (if t131.length + y134.length < 4398046511104 then (some (0, (l0.length : Int), (t131 ++ y134))) else (none))))))) else (some (t126, 0, ([] : List (S26)))))
def spec_l5Put.T9 : Bool × List (List Nat × List Nat) := (true, [([], []), ([0], [0]), ([], []), ([2], [2]), ([], []), ([4], [4]), ([3, 5, 3], [3, 5]), ([1, 6], [1, 6]), ([7, 6, 0, 1, 2, 3, 4, 5, 6, 7], [7])])
def spec_l5Put.B9 : List Nat := [0, 1, 0, 4, 0, 16, 60, 127, 255]
theorem spec_l5Put.tab9 : rtab .any (opsOf Try.f58 9) = spec_l5Put.T9 := by kernel_rfl
theorem spec_l5Put.bits9 : waitsOk spec_l5Put.T9.2 spec_l5Put.B9 = true := by kernel_rfl
set_option maxHeartbeats 8000000 in
set_option maxRecDepth 100000 in
theorem spec_l5Put.calls (k : Nat) (A0 : Option Addr) (c0 : Nat) (l0 : List (S26)) (a1_0 : Int) (a1_1 : Int) (a1_2 : Int) (a1_3 : Int) (r1 : Int) (r2 : Int) (r3 : List (S26)) (w : World) (hr0 : Kd.C k26 w A0 l0.length l0) (hc0 : l0.length ≤ c0) (h : spec_l5Put.f k l0 a1_0 a1_1 a1_2 a1_3 = some (r1, r2, r3)) :
  Calls Try.prog 58 #[.slice A0 l0.length c0, .agg #[.int .i64 a1_0, .int .i64 a1_1, .int .i64 a1_2, .int .i64 a1_3]] w fun e w' => ∃ v2_ : Value, e = .returned (.agg #[.int .i64 r1, .int .i64 r2, v2_]) ∧ Kd.R k26 26 w' w.heap.size (fun _ => True) v2_ r3 ∧ Below w.heap.size w w' := by
 have hu26 := Try.underlying26
 have hu30 := Try.underlying30
 have HR0 := Aside0.mk hr0
 have HC0 := Aside0.mk hc0
 clear hr0 hc0
 have HB := Aside0.mk (Below.refl w.heap.size w)
 have H : ((spec_l5Term.f k l0 a1_0 a1_1 a1_2 a1_3).bind fun t126 => (if t126 = 0 then ((spec_l5Find.f k l0 a1_0 a1_1 a1_2 a1_3).bind fun t127 => (if t127 ≥ 0 then ((spec_l5Copy.f l0).bind fun t128 => (some (0, t127, t128))) else (if (l0.length : Int) ≥ 400 then (some (2, 0, ([] : List (S26)))) else ((spec_l5Copy.f l0).bind fun t131 => ((some (([(⟨a1_0, a1_1, a1_2, a1_3⟩ : S26)] : List (S26)) : List (S26))).bind fun y134 => (if t131.length + y134.length < 4398046511104 then (some (0, (l0.length : Int), (t131 ++ y134))) else (none))))))) else (some (t126, 0, ([] : List (S26)))))) = some (r1, r2, r3) := h
 clear h
 replace H := Option.bind_eq_some_iff.mp H
 obtain ⟨t126, A30, H⟩ := H
 try dsimp only at H
 have A3 := Aside0.mk A30
 clear A30
 by_cases c4 : t126 = 0
 ·rw [if_pos c4] at H
  have c4b0 : (t126 == 0) = true := beq_iff_eq.mpr c4
  have c4b1 : (t126 != 0) = false := bne_eq_false_iff_eq.mpr c4
  clear c4
  replace H := Option.bind_eq_some_iff.mp H
  obtain ⟨t127, A50, H⟩ := H
  try dsimp only at H
  have A5 := Aside0.mk A50
  clear A50
  by_cases c6 : t127 ≥ 0
  ·rw [if_pos c6] at H
   have c6b0 : decide (0 ≤ t127) = true := decide_eq_true c6
   clear c6
   replace H := Option.bind_eq_some_iff.mp H
   obtain ⟨t128, A70, H⟩ := H
   try dsimp only at H
   have A7 := Aside0.mk A70
   clear A70
   simp only [Option.some.injEq, Prod.mk.injEq] at H
   obtain ⟨rfl, rfl, rfl⟩ := H
   go_enter Try.func58, Try.ntmps58
   go_wp2_with (first | ((with_reducible refine gate_dst (N := 3) rfl ?_); refine box_event ?hg (N := 3) ?hd (cs := #[.int .i64 a1_0, .int .i64 a1_1, .int .i64 a1_2, .int .i64 a1_3]) (t := 26) ?hr ?_; (case hd => rfl); (case hg => rfl); (case hr => first | (go_simp; done) | (go_simp; rfl)); intro gb124 hg w8 hbox hb; have n0_ := Aside0.mk (below_step (by repeat (first | (with_reducible first | exact HB.out | apply below_alloc | apply pw_below_drewN | apply below_drew1) | exact HB.out)) hb); have n1_ := Aside0.mk (hbox); have n2_ := Aside0.mk ((by rw [hg]; exact (below_size (by repeat (first | (with_reducible first | exact HB.out | apply below_alloc | apply pw_below_drewN | apply below_drew1) | exact HB.out))) : w.heap.size ≤ gb124)); have n3_ := Aside0.mk ((by rw [hg]; exact (below_size (by repeat (first | (with_reducible first | exact HB.out | apply below_alloc | apply pw_below_drewN | apply below_drew1) | exact HB.out))) : w.heap.size ≤ gb124)); clear HB; have HB := n0_; have BK124 := n1_; have GW124 := n2_; have GE124 := n3_; clear n0_ n1_ n2_ n3_; clear hb hbox hg) | ((with_reducible refine gate_dst (N := 4) rfl ?_); refine box_event ?hg (N := 4) ?hd (cs := #[.int .i64 0, .int .i64 0, .slice none 0 0]) (t := 30) ?hr ?_; (case hd => rfl); (case hg => rfl); (case hr => first | (go_simp; done) | (go_simp; rfl)); intro gb125 hg w9 hbox hb; have n0_ := Aside0.mk (blk_below (g := gb124) (o := .cells #[.int .i64 a1_0, .int .i64 a1_1, .int .i64 a1_2, .int .i64 a1_3] 26 (0, 0)) (by (with_reducible repeat (first | refine blk_drewN ?_ _ | refine blk_drew ?_ | refine blk_alloc ?_ _)); exact BK124.out) hb); have n1_ := Aside0.mk (below_step (by repeat (first | (with_reducible first | exact HB.out | apply below_alloc | apply pw_below_drewN | apply below_drew1 | refine below_set ?_ GE124.out) | exact HB.out)) hb); have n2_ := Aside0.mk (hbox); have n3_ := Aside0.mk ((by rw [hg]; exact (below_size (by repeat (first | (with_reducible first | exact HB.out | apply below_alloc | apply pw_below_drewN | apply below_drew1 | refine below_set ?_ GE124.out) | exact HB.out))) : w.heap.size ≤ gb125)); have n4_ := Aside0.mk ((by rw [hg]; exact (below_size (by repeat (first | (with_reducible first | exact HB.out | apply below_alloc | apply pw_below_drewN | apply below_drew1 | refine below_set ?_ GE124.out) | exact HB.out))) : w.heap.size ≤ gb125)); have n5_ := Aside0.mk ((by rw [hg]; exact Nat.ne_of_lt (blk_lt (g := gb124) (o := .cells #[.int .i64 a1_0, .int .i64 a1_1, .int .i64 a1_2, .int .i64 a1_3] 26 (0, 0)) (by (with_reducible repeat (first | refine blk_drewN ?_ _ | refine blk_drew ?_ | refine blk_alloc ?_ _)); exact BK124.out)) : gb124 ≠ gb125)); have n6_ := Aside0.mk ((by rw [hg]; exact Nat.ne_of_gt (blk_lt (g := gb124) (o := .cells #[.int .i64 a1_0, .int .i64 a1_1, .int .i64 a1_2, .int .i64 a1_3] 26 (0, 0)) (by (with_reducible repeat (first | refine blk_drewN ?_ _ | refine blk_drew ?_ | refine blk_alloc ?_ _)); exact BK124.out)) : gb125 ≠ gb124)); clear BK124; clear HB; have BK124 := n0_; have HB := n1_; have BK125 := n2_; have GW125 := n3_; have GE125 := n4_; have NB124_125 := n5_; have NB125_124 := n6_; clear n0_ n1_ n2_ n3_ n4_ n5_ n6_; clear hb hbox hg; have hnb10 := NB124_125.out; have hnc10 := NB125_124.out; have hcz11_0 : w9.cell? ⟨gb124, 0, none⟩ = some (.int .i64 a1_0) := (blk_cell BK124.out 0).trans rfl; have hcz11_1 : w9.cell? ⟨gb124, 1, none⟩ = some (.int .i64 a1_1) := (blk_cell BK124.out 1).trans rfl; have hcz11_2 : w9.cell? ⟨gb124, 2, none⟩ = some (.int .i64 a1_2) := (blk_cell BK124.out 2).trans rfl; have hcz11_3 : w9.cell? ⟨gb124, 3, none⟩ = some (.int .i64 a1_3) := (blk_cell BK124.out 3).trans rfl; have hfz11_0 := blk_frozen BK124.out 0; have hfz11_1 := blk_frozen BK124.out 1; have hfz11_2 := blk_frozen BK124.out 2; have hfz11_3 := blk_frozen BK124.out 3) | ((with_reducible refine gate_callee (f := 92) rfl ?_); refine goesL_ (some 9) rfl rfl Try.func92 (by kernel_rfl) rfl #[.slice A0 l0.length c0, .agg #[.int .i64 a1_0, .int .i64 a1_1, .int .i64 a1_2, .int .i64 a1_3]] rfl (by (try simp only [List.map_toArray, List.map_cons, List.map_nil]); first | done | rfl | (simp only [List.length_drop, List.length_take]; rfl)) ?_; (with_reducible refine (spec_l5Term.calls k _ _ l0 a1_0 a1_1 a1_2 a1_3 t126 _ ?side1 ?side2 A3.out).mono ?_); (case side1 => repeat (first | exact (Kd.C_below HR0.out HB.out) | (with_reducible refine Kd.C_alloc ?_ _) | (with_reducible refine Kd.C_drewN ?_ _) | (with_reducible refine Kd.C_drew ?_))); (case side2 => exact HC0.out); rintro e w12 ⟨rfl, hb⟩; refine ⟨_, rfl, ?_⟩; have n0_ := Aside0.mk (blk_below (g := gb124) (o := .cells #[.int .i64 a1_0, .int .i64 a1_1, .int .i64 a1_2, .int .i64 a1_3] 26 (0, 0)) (by (with_reducible repeat (first | refine blk_drewN ?_ _ | refine blk_drew ?_ | refine blk_alloc ?_ _)); exact BK124.out) hb); have n1_ := Aside0.mk (blk_below (g := gb125) (o := .cells #[.int .i64 0, .int .i64 0, .slice none 0 0] 30 (0, 0)) (by (with_reducible repeat (first | refine blk_drewN ?_ _ | refine blk_drew ?_ | refine blk_alloc ?_ _)); exact BK125.out) hb); have n2_ := Aside0.mk (below_step (by repeat (first | (with_reducible first | exact HB.out | apply below_alloc | apply pw_below_drewN | apply below_drew1 | refine below_set ?_ GE124.out | refine below_set ?_ GE125.out) | exact HB.out)) hb); clear BK124; clear BK125; clear HB; have BK124 := n0_; have BK125 := n1_; have HB := n2_; clear n0_ n1_ n2_; (try clear hb); (try clear hb2); (try clear hk); (try clear hi); have hcz13_0 : w12.cell? ⟨gb124, 0, none⟩ = some (.int .i64 a1_0) := (blk_cell BK124.out 0).trans rfl; have hcz13_1 : w12.cell? ⟨gb124, 1, none⟩ = some (.int .i64 a1_1) := (blk_cell BK124.out 1).trans rfl; have hcz13_2 : w12.cell? ⟨gb124, 2, none⟩ = some (.int .i64 a1_2) := (blk_cell BK124.out 2).trans rfl; have hcz13_3 : w12.cell? ⟨gb124, 3, none⟩ = some (.int .i64 a1_3) := (blk_cell BK124.out 3).trans rfl; have hfz13_0 := blk_frozen BK124.out 0; have hfz13_1 := blk_frozen BK124.out 1; have hfz13_2 := blk_frozen BK124.out 2; have hfz13_3 := blk_frozen BK124.out 3) | ((with_reducible refine gate_callee (f := 93) rfl ?_); refine goesL_ (some 16) rfl rfl Try.func93 (by kernel_rfl) rfl #[.slice A0 l0.length c0, .agg #[.int .i64 a1_0, .int .i64 a1_1, .int .i64 a1_2, .int .i64 a1_3]] rfl (by (try simp only [List.map_toArray, List.map_cons, List.map_nil]); first | done | rfl | (simp only [List.length_drop, List.length_take]; rfl)) ?_; (with_reducible refine (spec_l5Find.calls k _ _ l0 a1_0 a1_1 a1_2 a1_3 t127 _ ?side1 ?side2 A5.out).mono ?_); (case side1 => repeat (first | exact (Kd.C_below HR0.out HB.out) | (with_reducible refine Kd.C_alloc ?_ _) | (with_reducible refine Kd.C_drewN ?_ _) | (with_reducible refine Kd.C_drew ?_))); (case side2 => exact HC0.out); rintro e w14 ⟨rfl, hb⟩; refine ⟨_, rfl, ?_⟩; have n0_ := Aside0.mk (blk_below (g := gb124) (o := .cells #[.int .i64 a1_0, .int .i64 a1_1, .int .i64 a1_2, .int .i64 a1_3] 26 (0, 0)) (by (with_reducible repeat (first | refine blk_drewN ?_ _ | refine blk_drew ?_ | refine blk_alloc ?_ _)); exact BK124.out) hb); have n1_ := Aside0.mk (blk_below (g := gb125) (o := .cells #[.int .i64 0, .int .i64 0, .slice none 0 0] 30 (0, 0)) (by (with_reducible repeat (first | refine blk_drewN ?_ _ | refine blk_drew ?_ | refine blk_alloc ?_ _)); exact BK125.out) hb); have n2_ := Aside0.mk (below_step (by repeat (first | (with_reducible first | exact HB.out | apply below_alloc | apply pw_below_drewN | apply below_drew1 | refine below_set ?_ GE124.out | refine below_set ?_ GE125.out) | exact HB.out)) hb); clear BK124; clear BK125; clear HB; have BK124 := n0_; have BK125 := n1_; have HB := n2_; clear n0_ n1_ n2_; (try clear hb); (try clear hb2); (try clear hk); (try clear hi)) | ((with_reducible refine gate_callee (f := 67) rfl ?_); refine goesL_ (some 21) rfl rfl Try.func67 (by kernel_rfl) rfl #[.slice A0 l0.length c0] rfl (by (try simp only [List.map_toArray, List.map_cons, List.map_nil]); first | done | rfl | (simp only [List.length_drop, List.length_take]; rfl)) ?_; (with_reducible refine (spec_l5Copy.calls _ _ l0 t128 _ ?side1 ?side2 A7.out).mono ?_); (case side1 => repeat (first | exact (Kd.C_below HR0.out HB.out) | (with_reducible refine Kd.C_alloc ?_ _) | (with_reducible refine Kd.C_drewN ?_ _) | (with_reducible refine Kd.C_drew ?_))); (case side2 => exact HC0.out); rintro e w15 ⟨v129, rfl, ho0, hb⟩; refine ⟨_, rfl, ?_⟩; have n0_ := Aside0.mk (Kd.R_lower (Kd.R_newB ho0 (g := gb124) (o := .cells #[.int .i64 a1_0, .int .i64 a1_1, .int .i64 a1_2, .int .i64 a1_3] 26 (0, 0)) (by (with_reducible repeat (first | refine blk_drewN ?_ _ | refine blk_drew ?_ | refine blk_alloc ?_ _)); exact BK124.out)) (below_size (by repeat (first | (with_reducible first | exact HB.out | apply below_alloc | apply pw_below_drewN | apply below_drew1 | refine below_set ?_ GE124.out | refine below_set ?_ GE125.out) | exact HB.out)))); have n1_ := Aside0.mk (blk_below (g := gb124) (o := .cells #[.int .i64 a1_0, .int .i64 a1_1, .int .i64 a1_2, .int .i64 a1_3] 26 (0, 0)) (by (with_reducible repeat (first | refine blk_drewN ?_ _ | refine blk_drew ?_ | refine blk_alloc ?_ _)); exact BK124.out) hb); have n2_ := Aside0.mk (blk_below (g := gb125) (o := .cells #[.int .i64 0, .int .i64 0, .slice none 0 0] 30 (0, 0)) (by (with_reducible repeat (first | refine blk_drewN ?_ _ | refine blk_drew ?_ | refine blk_alloc ?_ _)); exact BK125.out) hb); have n3_ := Aside0.mk (below_step (by repeat (first | (with_reducible first | exact HB.out | apply below_alloc | apply pw_below_drewN | apply below_drew1 | refine below_set ?_ GE124.out | refine below_set ?_ GE125.out) | exact HB.out)) hb); clear BK124; clear BK125; clear HB; have HO130 := n0_; have BK124 := n1_; have BK125 := n2_; have HB := n3_; clear n0_ n1_ n2_ n3_; (try clear hb); (try clear hb2); (try clear hk); (try clear hi); (try clear ho0); obtain ⟨Ao16, co16, eo16⟩ := Kd.R_slice HO130.out; subst eo16; have hcz17_0 : w15.cell? ⟨gb125, 0, none⟩ = some (.int .i64 0) := (blk_cell BK125.out 0).trans rfl; have hcz17_1 : w15.cell? ⟨gb125, 1, none⟩ = some (.int .i64 0) := (blk_cell BK125.out 1).trans rfl; have hcz17_2 : w15.cell? ⟨gb125, 2, none⟩ = some (.slice none 0 0) := (blk_cell BK125.out 2).trans rfl; have hfz17_0 := blk_frozen BK125.out 0; have hfz17_1 := blk_frozen BK125.out 1; have hfz17_2 := blk_frozen BK125.out 2))
   refine bodyPost_ret (results_cell_row rfl _ _ gb125 30 #[.int .i64 0, .int .i64 t127, .slice Ao16 t128.length co16] (0, 0) _ rfl (by (with_reducible repeat (first | refine blk_drewN ?_ _ | refine blk_drew ?_ | refine blk_alloc ?_ _)); refine blk_put (cs := #[.int .i64 0, .int .i64 t127, .slice none 0 0]) ?_ 2 _ rfl; (with_reducible repeat (first | refine blk_drewN ?_ _ | refine blk_drew ?_ | refine blk_alloc ?_ _)); refine blk_put (cs := #[.int .i64 0, .int .i64 0, .slice none 0 0]) ?_ 1 _ rfl; (with_reducible repeat (first | refine blk_drewN ?_ _ | refine blk_drew ?_ | refine blk_alloc ?_ _)); refine blk_put (cs := #[.int .i64 0, .int .i64 0, .slice none 0 0]) ?_ 0 _ rfl; (with_reducible repeat (first | refine blk_drewN ?_ _ | refine blk_drew ?_ | refine blk_alloc ?_ _)); exact BK125.out) Try.underlying30 rfl (by kernel_rfl)) rfl ?_
   exact ⟨_, by first | rfl | (simp [errW_none, errW_some] <;> rfl) | (simp [*, errW_none, errW_some] <;> rfl), by (with_reducible repeat (first | apply Kd.R_alloc | apply Kd.R_drewN | apply Kd.R_drew)); exact Kd.R_mono (Kd.R_far (p := ⟨gb125, 2, none⟩) (Kd.R_far (p := ⟨gb125, 1, none⟩) (Kd.R_far (p := ⟨gb125, 0, none⟩) (Kd.R_types HO130.out BK125.out (by decide)) (fun _ hk => hk.2) (.int .i64 0)) (fun _ hk => hk.2) (.int .i64 t127)) (fun _ hk => hk.2) (.slice Ao16 t128.length co16)) (fun _ hk => trivial), by repeat (first | (with_reducible first | exact HB.out | apply below_alloc | apply pw_below_drewN | apply below_drew1 | refine below_set ?_ GE124.out | refine below_set ?_ GE125.out) | exact HB.out)⟩
  ·rw [if_neg c6] at H
   have c6b0 : decide (0 ≤ t127) = false := decide_eq_false c6
   clear c6
   by_cases c18 : (l0.length : Int) ≥ 400
   ·rw [if_pos c18] at H
    have c18b0 : decide (400 ≤ (l0.length : Int)) = true := decide_eq_true c18
    have c18b1 : decide (400 ≤ l0.length) = true := decide_eq_true (by omega)
    clear c18
    simp only [Option.some.injEq, Prod.mk.injEq] at H
    obtain ⟨rfl, rfl, rfl⟩ := H
    go_enter Try.func58, Try.ntmps58
    go_wp2_with (first | ((with_reducible refine gate_dst (N := 3) rfl ?_); refine box_event ?hg (N := 3) ?hd (cs := #[.int .i64 a1_0, .int .i64 a1_1, .int .i64 a1_2, .int .i64 a1_3]) (t := 26) ?hr ?_; (case hd => rfl); (case hg => rfl); (case hr => first | (go_simp; done) | (go_simp; rfl)); intro gb124 hg w19 hbox hb; have n0_ := Aside0.mk (below_step (by repeat (first | (with_reducible first | exact HB.out | apply below_alloc | apply pw_below_drewN | apply below_drew1) | exact HB.out)) hb); have n1_ := Aside0.mk (hbox); have n2_ := Aside0.mk ((by rw [hg]; exact (below_size (by repeat (first | (with_reducible first | exact HB.out | apply below_alloc | apply pw_below_drewN | apply below_drew1) | exact HB.out))) : w.heap.size ≤ gb124)); have n3_ := Aside0.mk ((by rw [hg]; exact (below_size (by repeat (first | (with_reducible first | exact HB.out | apply below_alloc | apply pw_below_drewN | apply below_drew1) | exact HB.out))) : w.heap.size ≤ gb124)); clear HB; have HB := n0_; have BK124 := n1_; have GW124 := n2_; have GE124 := n3_; clear n0_ n1_ n2_ n3_; clear hb hbox hg) | ((with_reducible refine gate_dst (N := 4) rfl ?_); refine box_event ?hg (N := 4) ?hd (cs := #[.int .i64 0, .int .i64 0, .slice none 0 0]) (t := 30) ?hr ?_; (case hd => rfl); (case hg => rfl); (case hr => first | (go_simp; done) | (go_simp; rfl)); intro gb125 hg w20 hbox hb; have n0_ := Aside0.mk (blk_below (g := gb124) (o := .cells #[.int .i64 a1_0, .int .i64 a1_1, .int .i64 a1_2, .int .i64 a1_3] 26 (0, 0)) (by (with_reducible repeat (first | refine blk_drewN ?_ _ | refine blk_drew ?_ | refine blk_alloc ?_ _)); exact BK124.out) hb); have n1_ := Aside0.mk (below_step (by repeat (first | (with_reducible first | exact HB.out | apply below_alloc | apply pw_below_drewN | apply below_drew1 | refine below_set ?_ GE124.out) | exact HB.out)) hb); have n2_ := Aside0.mk (hbox); have n3_ := Aside0.mk ((by rw [hg]; exact (below_size (by repeat (first | (with_reducible first | exact HB.out | apply below_alloc | apply pw_below_drewN | apply below_drew1 | refine below_set ?_ GE124.out) | exact HB.out))) : w.heap.size ≤ gb125)); have n4_ := Aside0.mk ((by rw [hg]; exact (below_size (by repeat (first | (with_reducible first | exact HB.out | apply below_alloc | apply pw_below_drewN | apply below_drew1 | refine below_set ?_ GE124.out) | exact HB.out))) : w.heap.size ≤ gb125)); have n5_ := Aside0.mk ((by rw [hg]; exact Nat.ne_of_lt (blk_lt (g := gb124) (o := .cells #[.int .i64 a1_0, .int .i64 a1_1, .int .i64 a1_2, .int .i64 a1_3] 26 (0, 0)) (by (with_reducible repeat (first | refine blk_drewN ?_ _ | refine blk_drew ?_ | refine blk_alloc ?_ _)); exact BK124.out)) : gb124 ≠ gb125)); have n6_ := Aside0.mk ((by rw [hg]; exact Nat.ne_of_gt (blk_lt (g := gb124) (o := .cells #[.int .i64 a1_0, .int .i64 a1_1, .int .i64 a1_2, .int .i64 a1_3] 26 (0, 0)) (by (with_reducible repeat (first | refine blk_drewN ?_ _ | refine blk_drew ?_ | refine blk_alloc ?_ _)); exact BK124.out)) : gb125 ≠ gb124)); clear BK124; clear HB; have BK124 := n0_; have HB := n1_; have BK125 := n2_; have GW125 := n3_; have GE125 := n4_; have NB124_125 := n5_; have NB125_124 := n6_; clear n0_ n1_ n2_ n3_ n4_ n5_ n6_; clear hb hbox hg; have hnb21 := NB124_125.out; have hnc21 := NB125_124.out; have hcz22_0 : w20.cell? ⟨gb124, 0, none⟩ = some (.int .i64 a1_0) := (blk_cell BK124.out 0).trans rfl; have hcz22_1 : w20.cell? ⟨gb124, 1, none⟩ = some (.int .i64 a1_1) := (blk_cell BK124.out 1).trans rfl; have hcz22_2 : w20.cell? ⟨gb124, 2, none⟩ = some (.int .i64 a1_2) := (blk_cell BK124.out 2).trans rfl; have hcz22_3 : w20.cell? ⟨gb124, 3, none⟩ = some (.int .i64 a1_3) := (blk_cell BK124.out 3).trans rfl; have hfz22_0 := blk_frozen BK124.out 0; have hfz22_1 := blk_frozen BK124.out 1; have hfz22_2 := blk_frozen BK124.out 2; have hfz22_3 := blk_frozen BK124.out 3) | ((with_reducible refine gate_callee (f := 92) rfl ?_); refine goesL_ (some 9) rfl rfl Try.func92 (by kernel_rfl) rfl #[.slice A0 l0.length c0, .agg #[.int .i64 a1_0, .int .i64 a1_1, .int .i64 a1_2, .int .i64 a1_3]] rfl (by (try simp only [List.map_toArray, List.map_cons, List.map_nil]); first | done | rfl | (simp only [List.length_drop, List.length_take]; rfl)) ?_; (with_reducible refine (spec_l5Term.calls k _ _ l0 a1_0 a1_1 a1_2 a1_3 t126 _ ?side1 ?side2 A3.out).mono ?_); (case side1 => repeat (first | exact (Kd.C_below HR0.out HB.out) | (with_reducible refine Kd.C_alloc ?_ _) | (with_reducible refine Kd.C_drewN ?_ _) | (with_reducible refine Kd.C_drew ?_))); (case side2 => exact HC0.out); rintro e w23 ⟨rfl, hb⟩; refine ⟨_, rfl, ?_⟩; have n0_ := Aside0.mk (blk_below (g := gb124) (o := .cells #[.int .i64 a1_0, .int .i64 a1_1, .int .i64 a1_2, .int .i64 a1_3] 26 (0, 0)) (by (with_reducible repeat (first | refine blk_drewN ?_ _ | refine blk_drew ?_ | refine blk_alloc ?_ _)); exact BK124.out) hb); have n1_ := Aside0.mk (blk_below (g := gb125) (o := .cells #[.int .i64 0, .int .i64 0, .slice none 0 0] 30 (0, 0)) (by (with_reducible repeat (first | refine blk_drewN ?_ _ | refine blk_drew ?_ | refine blk_alloc ?_ _)); exact BK125.out) hb); have n2_ := Aside0.mk (below_step (by repeat (first | (with_reducible first | exact HB.out | apply below_alloc | apply pw_below_drewN | apply below_drew1 | refine below_set ?_ GE124.out | refine below_set ?_ GE125.out) | exact HB.out)) hb); clear BK124; clear BK125; clear HB; have BK124 := n0_; have BK125 := n1_; have HB := n2_; clear n0_ n1_ n2_; (try clear hb); (try clear hb2); (try clear hk); (try clear hi); have hcz24_0 : w23.cell? ⟨gb124, 0, none⟩ = some (.int .i64 a1_0) := (blk_cell BK124.out 0).trans rfl; have hcz24_1 : w23.cell? ⟨gb124, 1, none⟩ = some (.int .i64 a1_1) := (blk_cell BK124.out 1).trans rfl; have hcz24_2 : w23.cell? ⟨gb124, 2, none⟩ = some (.int .i64 a1_2) := (blk_cell BK124.out 2).trans rfl; have hcz24_3 : w23.cell? ⟨gb124, 3, none⟩ = some (.int .i64 a1_3) := (blk_cell BK124.out 3).trans rfl; have hfz24_0 := blk_frozen BK124.out 0; have hfz24_1 := blk_frozen BK124.out 1; have hfz24_2 := blk_frozen BK124.out 2; have hfz24_3 := blk_frozen BK124.out 3) | ((with_reducible refine gate_callee (f := 93) rfl ?_); refine goesL_ (some 16) rfl rfl Try.func93 (by kernel_rfl) rfl #[.slice A0 l0.length c0, .agg #[.int .i64 a1_0, .int .i64 a1_1, .int .i64 a1_2, .int .i64 a1_3]] rfl (by (try simp only [List.map_toArray, List.map_cons, List.map_nil]); first | done | rfl | (simp only [List.length_drop, List.length_take]; rfl)) ?_; (with_reducible refine (spec_l5Find.calls k _ _ l0 a1_0 a1_1 a1_2 a1_3 t127 _ ?side1 ?side2 A5.out).mono ?_); (case side1 => repeat (first | exact (Kd.C_below HR0.out HB.out) | (with_reducible refine Kd.C_alloc ?_ _) | (with_reducible refine Kd.C_drewN ?_ _) | (with_reducible refine Kd.C_drew ?_))); (case side2 => exact HC0.out); rintro e w25 ⟨rfl, hb⟩; refine ⟨_, rfl, ?_⟩; have n0_ := Aside0.mk (blk_below (g := gb124) (o := .cells #[.int .i64 a1_0, .int .i64 a1_1, .int .i64 a1_2, .int .i64 a1_3] 26 (0, 0)) (by (with_reducible repeat (first | refine blk_drewN ?_ _ | refine blk_drew ?_ | refine blk_alloc ?_ _)); exact BK124.out) hb); have n1_ := Aside0.mk (blk_below (g := gb125) (o := .cells #[.int .i64 0, .int .i64 0, .slice none 0 0] 30 (0, 0)) (by (with_reducible repeat (first | refine blk_drewN ?_ _ | refine blk_drew ?_ | refine blk_alloc ?_ _)); exact BK125.out) hb); have n2_ := Aside0.mk (below_step (by repeat (first | (with_reducible first | exact HB.out | apply below_alloc | apply pw_below_drewN | apply below_drew1 | refine below_set ?_ GE124.out | refine below_set ?_ GE125.out) | exact HB.out)) hb); clear BK124; clear BK125; clear HB; have BK124 := n0_; have BK125 := n1_; have HB := n2_; clear n0_ n1_ n2_; (try clear hb); (try clear hb2); (try clear hk); (try clear hi); have hcz26_0 : w25.cell? ⟨gb125, 0, none⟩ = some (.int .i64 0) := (blk_cell BK125.out 0).trans rfl; have hcz26_1 : w25.cell? ⟨gb125, 1, none⟩ = some (.int .i64 0) := (blk_cell BK125.out 1).trans rfl; have hcz26_2 : w25.cell? ⟨gb125, 2, none⟩ = some (.slice none 0 0) := (blk_cell BK125.out 2).trans rfl; have hfz26_0 := blk_frozen BK125.out 0; have hfz26_1 := blk_frozen BK125.out 1; have hfz26_2 := blk_frozen BK125.out 2))
    refine bodyPost_ret (results_cell_row rfl _ _ gb125 30 #[.int .i64 2, .int .i64 0, .slice none 0 0] (0, 0) _ rfl (by (with_reducible repeat (first | refine blk_drewN ?_ _ | refine blk_drew ?_ | refine blk_alloc ?_ _)); refine blk_put (cs := #[.int .i64 2, .int .i64 0, .slice none 0 0]) ?_ 2 _ rfl; (with_reducible repeat (first | refine blk_drewN ?_ _ | refine blk_drew ?_ | refine blk_alloc ?_ _)); refine blk_put (cs := #[.int .i64 2, .int .i64 0, .slice none 0 0]) ?_ 1 _ rfl; (with_reducible repeat (first | refine blk_drewN ?_ _ | refine blk_drew ?_ | refine blk_alloc ?_ _)); refine blk_put (cs := #[.int .i64 0, .int .i64 0, .slice none 0 0]) ?_ 0 _ rfl; (with_reducible repeat (first | refine blk_drewN ?_ _ | refine blk_drew ?_ | refine blk_alloc ?_ _)); exact BK125.out) Try.underlying30 rfl (by kernel_rfl)) rfl ?_
    exact ⟨_, by first | rfl | (simp [errW_none, errW_some] <;> rfl) | (simp [*, errW_none, errW_some] <;> rfl), by first | exact Kd.R_nil _ _ _ _ _ | exact Kd.N_nil _ _ _ _ _ | exact Kd.V_nil _ _ _ _ _ | exact Kd.Q_nil _ _ _ _ _ | exact Kd.S_nil _ _ _ _ _, by repeat (first | (with_reducible first | exact HB.out | apply below_alloc | apply pw_below_drewN | apply below_drew1 | refine below_set ?_ GE124.out | refine below_set ?_ GE125.out) | exact HB.out)⟩
   ·rw [if_neg c18] at H
    have c18b0 : decide (400 ≤ (l0.length : Int)) = false := decide_eq_false c18
    have c18b1 : decide (400 ≤ l0.length) = false := decide_eq_false (by omega)
    clear c18
    replace H := Option.bind_eq_some_iff.mp H
    obtain ⟨t131, A270, H⟩ := H
    try dsimp only at H
    have A27 := Aside0.mk A270
    clear A270
    obtain ⟨y134, hy134⟩ : ∃ y_ : List (S26), y_ = (([(⟨a1_0, a1_1, a1_2, a1_3⟩ : S26)] : List (S26))) := ⟨_, rfl⟩
    replace H : (if t131.length + y134.length < 4398046511104 then (some (0, (l0.length : Int), (t131 ++ y134))) else (none)) = some (r1, r2, r3) := by first | (rw [hy134]; with_reducible exact H) | (have H2_ := (Option.bind_some _ _).symm.trans H; rw [hy134]; with_reducible exact H2_) | (have H2_ := (Option.bind_some _ _).symm.trans H; with_reducible exact H2_) | with_reducible exact H | (rw [hy134]; exact H) | exact H
    have Ny134 := Aside0.mk hy134
    clear hy134
    by_cases c28 : t131.length + y134.length < 4398046511104
    ·rw [if_pos c28] at H
     have LMc28 := Aside0.mk c28
     clear c28
     obtain ⟨y137, hy137⟩ : ∃ y_ : List (S26), y_ = (t131 ++ y134) := ⟨_, rfl⟩
     replace H : (some (0, (l0.length : Int), y137)) = some (r1, r2, r3) := by first | (rw [hy137]; with_reducible exact H) | (have H2_ := (Option.bind_some _ _).symm.trans H; rw [hy137]; with_reducible exact H2_) | (have H2_ := (Option.bind_some _ _).symm.trans H; with_reducible exact H2_) | with_reducible exact H | (rw [hy137]; exact H) | exact H
     have Ny137 := Aside0.mk hy137
     clear hy137
     simp only [Option.some.injEq, Prod.mk.injEq] at H
     obtain ⟨rfl, rfl, rfl⟩ := H
     go_enter Try.func58, Try.ntmps58
     try go_wp2_with (first | ((with_reducible refine gate_dst (N := 3) rfl ?_); refine box_event ?hg (N := 3) ?hd (cs := #[.int .i64 a1_0, .int .i64 a1_1, .int .i64 a1_2, .int .i64 a1_3]) (t := 26) ?hr ?_; (case hd => rfl); (case hg => rfl); (case hr => first | (go_simp; done) | (go_simp; rfl)); intro gb124 hg w29 hbox hb; have n0_ := Aside0.mk (below_step (by repeat (first | (with_reducible first | exact HB.out | apply below_alloc | apply pw_below_drewN | apply below_drew1) | exact HB.out)) hb); have n1_ := Aside0.mk (hbox); have n2_ := Aside0.mk ((by rw [hg]; exact (below_size (by repeat (first | (with_reducible first | exact HB.out | apply below_alloc | apply pw_below_drewN | apply below_drew1) | exact HB.out))) : w.heap.size ≤ gb124)); have n3_ := Aside0.mk ((by rw [hg]; exact (below_size (by repeat (first | (with_reducible first | exact HB.out | apply below_alloc | apply pw_below_drewN | apply below_drew1) | exact HB.out))) : w.heap.size ≤ gb124)); clear HB; have HB := n0_; have BK124 := n1_; have GW124 := n2_; have GE124 := n3_; clear n0_ n1_ n2_ n3_; clear hb hbox hg) | ((with_reducible refine gate_dst (N := 4) rfl ?_); refine box_event ?hg (N := 4) ?hd (cs := #[.int .i64 0, .int .i64 0, .slice none 0 0]) (t := 30) ?hr ?_; (case hd => rfl); (case hg => rfl); (case hr => first | (go_simp; done) | (go_simp; rfl)); intro gb125 hg w30 hbox hb; have n0_ := Aside0.mk (blk_below (g := gb124) (o := .cells #[.int .i64 a1_0, .int .i64 a1_1, .int .i64 a1_2, .int .i64 a1_3] 26 (0, 0)) (by (with_reducible repeat (first | refine blk_drewN ?_ _ | refine blk_drew ?_ | refine blk_alloc ?_ _)); exact BK124.out) hb); have n1_ := Aside0.mk (below_step (by repeat (first | (with_reducible first | exact HB.out | apply below_alloc | apply pw_below_drewN | apply below_drew1 | refine below_set ?_ GE124.out) | exact HB.out)) hb); have n2_ := Aside0.mk (hbox); have n3_ := Aside0.mk ((by rw [hg]; exact (below_size (by repeat (first | (with_reducible first | exact HB.out | apply below_alloc | apply pw_below_drewN | apply below_drew1 | refine below_set ?_ GE124.out) | exact HB.out))) : w.heap.size ≤ gb125)); have n4_ := Aside0.mk ((by rw [hg]; exact (below_size (by repeat (first | (with_reducible first | exact HB.out | apply below_alloc | apply pw_below_drewN | apply below_drew1 | refine below_set ?_ GE124.out) | exact HB.out))) : w.heap.size ≤ gb125)); have n5_ := Aside0.mk ((by rw [hg]; exact Nat.ne_of_lt (blk_lt (g := gb124) (o := .cells #[.int .i64 a1_0, .int .i64 a1_1, .int .i64 a1_2, .int .i64 a1_3] 26 (0, 0)) (by (with_reducible repeat (first | refine blk_drewN ?_ _ | refine blk_drew ?_ | refine blk_alloc ?_ _)); exact BK124.out)) : gb124 ≠ gb125)); have n6_ := Aside0.mk ((by rw [hg]; exact Nat.ne_of_gt (blk_lt (g := gb124) (o := .cells #[.int .i64 a1_0, .int .i64 a1_1, .int .i64 a1_2, .int .i64 a1_3] 26 (0, 0)) (by (with_reducible repeat (first | refine blk_drewN ?_ _ | refine blk_drew ?_ | refine blk_alloc ?_ _)); exact BK124.out)) : gb125 ≠ gb124)); clear BK124; clear HB; have BK124 := n0_; have HB := n1_; have BK125 := n2_; have GW125 := n3_; have GE125 := n4_; have NB124_125 := n5_; have NB125_124 := n6_; clear n0_ n1_ n2_ n3_ n4_ n5_ n6_; clear hb hbox hg; have hnb31 := NB124_125.out; have hnc31 := NB125_124.out; have hcz32_0 : w30.cell? ⟨gb124, 0, none⟩ = some (.int .i64 a1_0) := (blk_cell BK124.out 0).trans rfl; have hcz32_1 : w30.cell? ⟨gb124, 1, none⟩ = some (.int .i64 a1_1) := (blk_cell BK124.out 1).trans rfl; have hcz32_2 : w30.cell? ⟨gb124, 2, none⟩ = some (.int .i64 a1_2) := (blk_cell BK124.out 2).trans rfl; have hcz32_3 : w30.cell? ⟨gb124, 3, none⟩ = some (.int .i64 a1_3) := (blk_cell BK124.out 3).trans rfl; have hfz32_0 := blk_frozen BK124.out 0; have hfz32_1 := blk_frozen BK124.out 1; have hfz32_2 := blk_frozen BK124.out 2; have hfz32_3 := blk_frozen BK124.out 3) | ((with_reducible refine gate_callee (f := 92) rfl ?_); refine goesL_ (some 9) rfl rfl Try.func92 (by kernel_rfl) rfl #[.slice A0 l0.length c0, .agg #[.int .i64 a1_0, .int .i64 a1_1, .int .i64 a1_2, .int .i64 a1_3]] rfl (by (try simp only [List.map_toArray, List.map_cons, List.map_nil]); first | done | rfl | (simp only [List.length_drop, List.length_take]; rfl)) ?_; (with_reducible refine (spec_l5Term.calls k _ _ l0 a1_0 a1_1 a1_2 a1_3 t126 _ ?side1 ?side2 A3.out).mono ?_); (case side1 => repeat (first | exact (Kd.C_below HR0.out HB.out) | (with_reducible refine Kd.C_alloc ?_ _) | (with_reducible refine Kd.C_drewN ?_ _) | (with_reducible refine Kd.C_drew ?_))); (case side2 => exact HC0.out); rintro e w33 ⟨rfl, hb⟩; refine ⟨_, rfl, ?_⟩; have n0_ := Aside0.mk (blk_below (g := gb124) (o := .cells #[.int .i64 a1_0, .int .i64 a1_1, .int .i64 a1_2, .int .i64 a1_3] 26 (0, 0)) (by (with_reducible repeat (first | refine blk_drewN ?_ _ | refine blk_drew ?_ | refine blk_alloc ?_ _)); exact BK124.out) hb); have n1_ := Aside0.mk (blk_below (g := gb125) (o := .cells #[.int .i64 0, .int .i64 0, .slice none 0 0] 30 (0, 0)) (by (with_reducible repeat (first | refine blk_drewN ?_ _ | refine blk_drew ?_ | refine blk_alloc ?_ _)); exact BK125.out) hb); have n2_ := Aside0.mk (below_step (by repeat (first | (with_reducible first | exact HB.out | apply below_alloc | apply pw_below_drewN | apply below_drew1 | refine below_set ?_ GE124.out | refine below_set ?_ GE125.out) | exact HB.out)) hb); clear BK124; clear BK125; clear HB; have BK124 := n0_; have BK125 := n1_; have HB := n2_; clear n0_ n1_ n2_; (try clear hb); (try clear hb2); (try clear hk); (try clear hi); have hcz34_0 : w33.cell? ⟨gb124, 0, none⟩ = some (.int .i64 a1_0) := (blk_cell BK124.out 0).trans rfl; have hcz34_1 : w33.cell? ⟨gb124, 1, none⟩ = some (.int .i64 a1_1) := (blk_cell BK124.out 1).trans rfl; have hcz34_2 : w33.cell? ⟨gb124, 2, none⟩ = some (.int .i64 a1_2) := (blk_cell BK124.out 2).trans rfl; have hcz34_3 : w33.cell? ⟨gb124, 3, none⟩ = some (.int .i64 a1_3) := (blk_cell BK124.out 3).trans rfl; have hfz34_0 := blk_frozen BK124.out 0; have hfz34_1 := blk_frozen BK124.out 1; have hfz34_2 := blk_frozen BK124.out 2; have hfz34_3 := blk_frozen BK124.out 3) | ((with_reducible refine gate_callee (f := 93) rfl ?_); refine goesL_ (some 16) rfl rfl Try.func93 (by kernel_rfl) rfl #[.slice A0 l0.length c0, .agg #[.int .i64 a1_0, .int .i64 a1_1, .int .i64 a1_2, .int .i64 a1_3]] rfl (by (try simp only [List.map_toArray, List.map_cons, List.map_nil]); first | done | rfl | (simp only [List.length_drop, List.length_take]; rfl)) ?_; (with_reducible refine (spec_l5Find.calls k _ _ l0 a1_0 a1_1 a1_2 a1_3 t127 _ ?side1 ?side2 A5.out).mono ?_); (case side1 => repeat (first | exact (Kd.C_below HR0.out HB.out) | (with_reducible refine Kd.C_alloc ?_ _) | (with_reducible refine Kd.C_drewN ?_ _) | (with_reducible refine Kd.C_drew ?_))); (case side2 => exact HC0.out); rintro e w35 ⟨rfl, hb⟩; refine ⟨_, rfl, ?_⟩; have n0_ := Aside0.mk (blk_below (g := gb124) (o := .cells #[.int .i64 a1_0, .int .i64 a1_1, .int .i64 a1_2, .int .i64 a1_3] 26 (0, 0)) (by (with_reducible repeat (first | refine blk_drewN ?_ _ | refine blk_drew ?_ | refine blk_alloc ?_ _)); exact BK124.out) hb); have n1_ := Aside0.mk (blk_below (g := gb125) (o := .cells #[.int .i64 0, .int .i64 0, .slice none 0 0] 30 (0, 0)) (by (with_reducible repeat (first | refine blk_drewN ?_ _ | refine blk_drew ?_ | refine blk_alloc ?_ _)); exact BK125.out) hb); have n2_ := Aside0.mk (below_step (by repeat (first | (with_reducible first | exact HB.out | apply below_alloc | apply pw_below_drewN | apply below_drew1 | refine below_set ?_ GE124.out | refine below_set ?_ GE125.out) | exact HB.out)) hb); clear BK124; clear BK125; clear HB; have BK124 := n0_; have BK125 := n1_; have HB := n2_; clear n0_ n1_ n2_; (try clear hb); (try clear hb2); (try clear hk); (try clear hi)))
     have n0_ := Aside0.mk (blk_drew BK124.out)
     have n1_ := Aside0.mk (blk_drew BK125.out)
     have n2_ := Aside0.mk (below_drew1 HB.out)
     clear BK124
     clear BK125
     clear HB
     have BK124 := n0_
     have BK125 := n1_
     have HB := n2_
     clear n0_ n1_ n2_
     refine start_ (n := 9) (S := fun w' => w'.cell? ⟨gb124, 0, none⟩ = some (.int .i64 a1_0) ∧ w'.cell? ⟨gb124, 1, none⟩ = some (.int .i64 a1_1) ∧ w'.cell? ⟨gb124, 2, none⟩ = some (.int .i64 a1_2) ∧ w'.cell? ⟨gb124, 3, none⟩ = some (.int .i64 a1_3)) (ds := []) #[false, false, false, false, false, false, false, false, false] (by kernel_rfl) rfl rfl ⟨(blk_cell BK124.out 0).trans rfl, (blk_cell BK124.out 1).trans rfl, (blk_cell BK124.out 2).trans rfl, (blk_cell BK124.out 3).trans rfl⟩ (fun hHeld => ?_); refine with_tabW spec_l5Put.tab9 spec_l5Put.bits9 (fun HT_ HW_ => ?_)
     generalize w35.drew = w36 at BK124 BK125 HB hHeld ⊢
     refine pure_ (i := 0) (N := some 27) (v := ?_) (a' := ?_) #[true, false, false, false, false, false, false, false, false] rfl rfl (any_of HT_.out (by kernel_rfl)) (fun _ _ _ h => h) (Or.inl ⟨by rfl, ?_⟩) ?_ ?_
     rotate_left
     ·intro w'
      go_simp
      with_reducible rfl
     rotate_left
     ·simp only [Act.put, lA_, lZ_, lS_, i64_w, i32_w]
      rfl
     refine pure_ (i := 1) (N := some 28) (v := ?_) (a' := ?_) #[true, true, false, false, false, false, false, false, false] rfl rfl (any_of HT_.out (by kernel_rfl)) (fun _ _ _ h => h) (Or.inl ⟨by rfl, ?_⟩) ?_ ?_
     rotate_left
     ·intro w'
      go_simp
      with_reducible rfl
     rotate_left
     ·simp only [Act.put, lA_, lZ_, lS_, i64_w, i32_w]
      rfl
     refine pure_ (i := 2) (N := some 29) (v := ?_) (a' := ?_) #[true, true, true, false, false, false, false, false, false] rfl rfl (any_of HT_.out (by kernel_rfl)) (fun _ _ _ h => h) (Or.inl ⟨by rfl, ?_⟩) ?_ ?_
     rotate_left
     ·intro w'
      go_simp
      with_reducible rfl
     rotate_left
     ·simp only [Act.put, lA_, lZ_, lS_, i64_w, i32_w]
      rfl
     refine take_ (i := 4) (N := some 31) (v := ?_) (a' := ?_) #[true, true, true, false, true, false, false, false, false] rfl rfl (take_ofW HT_.out HW_.out (by kernel_rfl)) (fun _ _ _ h => h) (Or.inl ⟨by rfl, ?_⟩) hHeld ?_ ?_
     rotate_left
     ·rintro w' ⟨s0, s1, s2, s3⟩
      go_simp
      with_reducible rfl
     rotate_left
     ·simp only [Act.put, lA_, lZ_, lS_, i64_w, i32_w]
      rfl
     refine join_ (σ := Value × Value) 3 #[true, true, true, true, true, true, false, false, false] (fun s_ => [(30, s_.1), (32, s_.2)]) (fun s_ w' => (w'.cell? ⟨gb124, 0, none⟩ = some (.int .i64 a1_0) ∧ w'.cell? ⟨gb124, 1, none⟩ = some (.int .i64 a1_1) ∧ w'.cell? ⟨gb124, 2, none⟩ = some (.int .i64 a1_2) ∧ w'.cell? ⟨gb124, 3, none⟩ = some (.int .i64 a1_3)) ∧ (Kd.R k26 26 w' w.heap.size (fun k_ => some k_ ≠ (s_.2 : Value).ownBlock ∧ k_ ≠ gb124) s_.1 t131) ∧ (Kd.R k26 26 w' w.heap.size (fun k_ => some k_ ≠ (s_.1 : Value).ownBlock ∧ k_ ≠ gb124) s_.2 y134) ∧ (w'.heap[gb124]? = some (.cells #[.int .i64 a1_0, .int .i64 a1_1, .int .i64 a1_2, .int .i64 a1_3] 26 (0, 0))) ∧ (w'.heap[gb125]? = some (.cells #[.int .i64 0, .int .i64 0, .slice none 0 0] 30 (0, 0))) ∧ (Below w.heap.size w w')) ?_ ?_
     rotate_left
     ·intro hCont
      refine two_ (i := 3) (j := 5) (Ni := some 30) (Nj := some 32) #[true, true, true, true, true, false, false, false, false] #[true, true, true, false, true, true, false, false, false] rfl rfl rfl rfl (two_of HT_.out (by kernel_rfl)) (by decide) (by decide) (fun K hK => ?_) (fun K hK => ?_)
      ·skip
       refine goes_ Try.func67 (by kernel_rfl) rfl #[.slice A0 l0.length c0] (by rfl) rfl rfl (by (try simp only [List.map_toArray, List.map_cons, List.map_nil]); first | done | rfl | (simp only [List.length_drop, List.length_take]; rfl)) ?_
       with_reducible refine (spec_l5Copy.calls _ _ l0 t131 _ ?side1 ?side2 A27.out).mono ?_
       (case side1 => repeat (first | exact (Kd.C_below HR0.out HB.out) | (with_reducible refine Kd.C_alloc ?_ _) | (with_reducible refine Kd.C_drewN ?_ _) | (with_reducible refine Kd.C_drew ?_)))
       (case side2 => exact HC0.out)
       rintro e w37 ⟨v132, rfl, ho0, hb⟩
       refine ⟨_, rfl, ?_⟩
       have n0_ := Aside0.mk (Kd.R_lower (Kd.R_newB ho0 (g := gb124) (o := .cells #[.int .i64 a1_0, .int .i64 a1_1, .int .i64 a1_2, .int .i64 a1_3] 26 (0, 0)) (by (with_reducible repeat (first | refine blk_drewN ?_ _ | refine blk_drew ?_ | refine blk_alloc ?_ _)); exact BK124.out)) (below_size (by repeat (first | (with_reducible first | exact HB.out | apply below_alloc | apply pw_below_drewN | apply below_drew1 | refine below_set ?_ GE124.out | refine below_set ?_ GE125.out) | exact HB.out))))
       have n1_ := Aside0.mk (blk_below (g := gb124) (o := .cells #[.int .i64 a1_0, .int .i64 a1_1, .int .i64 a1_2, .int .i64 a1_3] 26 (0, 0)) (by (with_reducible repeat (first | refine blk_drewN ?_ _ | refine blk_drew ?_ | refine blk_alloc ?_ _)); exact BK124.out) hb)
       have n2_ := Aside0.mk (blk_below (g := gb125) (o := .cells #[.int .i64 0, .int .i64 0, .slice none 0 0] 30 (0, 0)) (by (with_reducible repeat (first | refine blk_drewN ?_ _ | refine blk_drew ?_ | refine blk_alloc ?_ _)); exact BK125.out) hb)
       have n3_ := Aside0.mk (below_step (by repeat (first | (with_reducible first | exact HB.out | apply below_alloc | apply pw_below_drewN | apply below_drew1 | refine below_set ?_ GE124.out | refine below_set ?_ GE125.out) | exact HB.out)) hb)
       clear BK124
       clear BK125
       clear HB
       have HO133 := n0_
       have BK124 := n1_
       have BK125 := n2_
       have HB := n3_
       clear n0_ n1_ n2_ n3_
       (try clear hb)
       (try clear hb2)
       (try clear hk)
       (try clear hi)
       (try clear ho0)
       refine hK.out _ _ ⟨(blk_cell BK124.out 0).trans rfl, (blk_cell BK124.out 1).trans rfl, (blk_cell BK124.out 2).trans rfl, (blk_cell BK124.out 3).trans rfl⟩ (fun hHeld => ?_)
       clear hK K
       refine norm_ (a' := ?_) ?_ ?_
       rotate_left
       ·show Act.put _ (some 30) _ = _
        simp only [Act.put, lA_, lZ_, lS_, i64_w, i32_w]
        rfl
       refine one_ (i := 5) (N := some 32) #[true, true, true, true, true, true, false, false, false] rfl rfl (one_of HT_.out (by kernel_rfl)) (by decide) (fun K hK => ?_)
       refine Kd.R_lit_step k26 _ 26 ?hg (N := 32) ?hd (xs := ([(⟨a1_0, a1_1, a1_2, a1_3⟩ : S26)] : List (S26))) (inner := [.int .i64 a1_0, .int .i64 a1_1, .int .i64 a1_2, .int .i64 a1_3]) (ok := fun _ => True) (okp := fun _ => True) ?hr ?hp (fun _ hk => hk) trivial (Below.refl _ _) (Nat.le_refl _) (by simp) ?_; (case hd => rfl); (case hg => rfl); (case hr => first | (go_simp; done) | (go_simp; rfl)); (case hp => exact (Reps.c4 (show Kd.M k26 _ _ _ (⟨a1_0, a1_1, a1_2, a1_3⟩ : S26) [.int .i64 a1_0, .int .i64 a1_1, .int .i64 a1_2, .int .i64 a1_3] from (k26_mkM _ _ _ (⟨a1_0, a1_1, a1_2, a1_3⟩ : S26) )) (Reps.none _ _)))
       intro v135 w38 ho39 hb hg_ hnew_
       clear hg_ hnew_
       (first | rw [← Ny134.out] at ho39 | (simp only [Int.reduceToNat] at ho39; rw [← Ny134.out] at ho39))
       have n0_ := Aside0.mk (Kd.R_elder' (by (with_reducible repeat (first | apply Kd.R_alloc | apply Kd.R_drewN | apply Kd.R_drew)); exact HO133.out) (Kd.R_base ho39) hb)
       have n1_ := Aside0.mk (Kd.R_lower (Kd.R_newB (Kd.R_new' ho39 (Kd.R_lt (by (with_reducible repeat (first | apply Kd.R_alloc | apply Kd.R_drewN | apply Kd.R_drew)); exact HO133.out))) (g := gb124) (o := .cells #[.int .i64 a1_0, .int .i64 a1_1, .int .i64 a1_2, .int .i64 a1_3] 26 (0, 0)) (by (with_reducible repeat (first | refine blk_drewN ?_ _ | refine blk_drew ?_ | refine blk_alloc ?_ _)); exact BK124.out)) (below_size (by repeat (first | (with_reducible first | exact HB.out | apply below_alloc | apply pw_below_drewN | apply below_drew1 | refine below_set ?_ GE124.out | refine below_set ?_ GE125.out) | exact HB.out))))
       have n2_ := Aside0.mk (blk_below (g := gb124) (o := .cells #[.int .i64 a1_0, .int .i64 a1_1, .int .i64 a1_2, .int .i64 a1_3] 26 (0, 0)) (by (with_reducible repeat (first | refine blk_drewN ?_ _ | refine blk_drew ?_ | refine blk_alloc ?_ _)); exact BK124.out) hb)
       have n3_ := Aside0.mk (blk_below (g := gb125) (o := .cells #[.int .i64 0, .int .i64 0, .slice none 0 0] 30 (0, 0)) (by (with_reducible repeat (first | refine blk_drewN ?_ _ | refine blk_drew ?_ | refine blk_alloc ?_ _)); exact BK125.out) hb)
       have n4_ := Aside0.mk (below_step (by repeat (first | (with_reducible first | exact HB.out | apply below_alloc | apply pw_below_drewN | apply below_drew1 | refine below_set ?_ GE124.out | refine below_set ?_ GE125.out) | exact HB.out)) hb)
       clear HO133
       clear BK124
       clear BK125
       clear HB
       have HO133 := n0_
       have HO136 := n1_
       have BK124 := n2_
       have BK125 := n3_
       have HB := n4_
       clear n0_ n1_ n2_ n3_ n4_
       clear hb ho39
       refine hK.out _ _ ⟨(blk_cell BK124.out 0).trans rfl, (blk_cell BK124.out 1).trans rfl, (blk_cell BK124.out 2).trans rfl, (blk_cell BK124.out 3).trans rfl⟩ (fun hHeld => ?_)
       clear hK K
       refine norm_ (a' := ?_) ?_ ?_
       rotate_left
       ·show Act.put _ (some 32) _ = _
        simp only [Act.put, lA_, lZ_, lS_, i64_w, i32_w]
        rfl
       exact norm_ (by simp only [putAll, Act.put, lA_, lZ_, lS_]) (hCont (v132, v135) _ ⟨hHeld, (by (with_reducible repeat (first | apply Kd.R_alloc | apply Kd.R_drewN | apply Kd.R_drew)); exact Kd.R_mono HO133.out (fun _ hk => ⟨hk.2, hk.1.2⟩)), (by (with_reducible repeat (first | apply Kd.R_alloc | apply Kd.R_drewN | apply Kd.R_drew)); exact Kd.R_mono HO136.out (fun _ hk => ⟨hk.1.2, hk.2⟩)), (by (with_reducible repeat (first | refine blk_drewN ?_ _ | refine blk_drew ?_ | refine blk_alloc ?_ _)); exact BK124.out), (by (with_reducible repeat (first | refine blk_drewN ?_ _ | refine blk_drew ?_ | refine blk_alloc ?_ _)); exact BK125.out), (by repeat (first | (with_reducible first | exact HB.out | apply below_alloc | apply pw_below_drewN | apply below_drew1 | refine below_set ?_ GE124.out | refine below_set ?_ GE125.out) | exact HB.out))⟩)
      ·skip
       refine Kd.R_lit_step k26 _ 26 ?hg (N := 32) ?hd (xs := ([(⟨a1_0, a1_1, a1_2, a1_3⟩ : S26)] : List (S26))) (inner := [.int .i64 a1_0, .int .i64 a1_1, .int .i64 a1_2, .int .i64 a1_3]) (ok := fun _ => True) (okp := fun _ => True) ?hr ?hp (fun _ hk => hk) trivial (Below.refl _ _) (Nat.le_refl _) (by simp) ?_; (case hd => rfl); (case hg => rfl); (case hr => first | (go_simp; done) | (go_simp; rfl)); (case hp => exact (Reps.c4 (show Kd.M k26 _ _ _ (⟨a1_0, a1_1, a1_2, a1_3⟩ : S26) [.int .i64 a1_0, .int .i64 a1_1, .int .i64 a1_2, .int .i64 a1_3] from (k26_mkM _ _ _ (⟨a1_0, a1_1, a1_2, a1_3⟩ : S26) )) (Reps.none _ _)))
       intro v135 w37 ho38 hb hg_ hnew_
       clear hg_ hnew_
       (first | rw [← Ny134.out] at ho38 | (simp only [Int.reduceToNat] at ho38; rw [← Ny134.out] at ho38))
       have n0_ := Aside0.mk (Kd.R_lower (Kd.R_newB ho38 (g := gb124) (o := .cells #[.int .i64 a1_0, .int .i64 a1_1, .int .i64 a1_2, .int .i64 a1_3] 26 (0, 0)) (by (with_reducible repeat (first | refine blk_drewN ?_ _ | refine blk_drew ?_ | refine blk_alloc ?_ _)); exact BK124.out)) (below_size (by repeat (first | (with_reducible first | exact HB.out | apply below_alloc | apply pw_below_drewN | apply below_drew1 | refine below_set ?_ GE124.out | refine below_set ?_ GE125.out) | exact HB.out))))
       have n1_ := Aside0.mk (blk_below (g := gb124) (o := .cells #[.int .i64 a1_0, .int .i64 a1_1, .int .i64 a1_2, .int .i64 a1_3] 26 (0, 0)) (by (with_reducible repeat (first | refine blk_drewN ?_ _ | refine blk_drew ?_ | refine blk_alloc ?_ _)); exact BK124.out) hb)
       have n2_ := Aside0.mk (blk_below (g := gb125) (o := .cells #[.int .i64 0, .int .i64 0, .slice none 0 0] 30 (0, 0)) (by (with_reducible repeat (first | refine blk_drewN ?_ _ | refine blk_drew ?_ | refine blk_alloc ?_ _)); exact BK125.out) hb)
       have n3_ := Aside0.mk (below_step (by repeat (first | (with_reducible first | exact HB.out | apply below_alloc | apply pw_below_drewN | apply below_drew1 | refine below_set ?_ GE124.out | refine below_set ?_ GE125.out) | exact HB.out)) hb)
       clear BK124
       clear BK125
       clear HB
       have HO136 := n0_
       have BK124 := n1_
       have BK125 := n2_
       have HB := n3_
       clear n0_ n1_ n2_ n3_
       clear hb ho38
       refine hK.out _ _ ⟨(blk_cell BK124.out 0).trans rfl, (blk_cell BK124.out 1).trans rfl, (blk_cell BK124.out 2).trans rfl, (blk_cell BK124.out 3).trans rfl⟩ (fun hHeld => ?_)
       clear hK K
       refine norm_ (a' := ?_) ?_ ?_
       rotate_left
       ·show Act.put _ (some 32) _ = _
        simp only [Act.put, lA_, lZ_, lS_, i64_w, i32_w]
        rfl
       refine one_ (i := 3) (N := some 30) #[true, true, true, true, true, true, false, false, false] rfl rfl (one_of HT_.out (by kernel_rfl)) (by decide) (fun K hK => ?_)
       refine goes_ Try.func67 (by kernel_rfl) rfl #[.slice A0 l0.length c0] (by rfl) rfl rfl (by (try simp only [List.map_toArray, List.map_cons, List.map_nil]); first | done | rfl | (simp only [List.length_drop, List.length_take]; rfl)) ?_
       with_reducible refine (spec_l5Copy.calls _ _ l0 t131 _ ?side1 ?side2 A27.out).mono ?_
       (case side1 => repeat (first | exact (Kd.C_below HR0.out HB.out) | (with_reducible refine Kd.C_alloc ?_ _) | (with_reducible refine Kd.C_drewN ?_ _) | (with_reducible refine Kd.C_drew ?_)))
       (case side2 => exact HC0.out)
       rintro e w39 ⟨v132, rfl, ho0, hb⟩
       refine ⟨_, rfl, ?_⟩
       have n0_ := Aside0.mk (Kd.R_elder' (by (with_reducible repeat (first | apply Kd.R_alloc | apply Kd.R_drewN | apply Kd.R_drew)); exact HO136.out) (Kd.R_base ho0) hb)
       have n1_ := Aside0.mk (Kd.R_lower (Kd.R_newB (Kd.R_new' ho0 (Kd.R_lt (by (with_reducible repeat (first | apply Kd.R_alloc | apply Kd.R_drewN | apply Kd.R_drew)); exact HO136.out))) (g := gb124) (o := .cells #[.int .i64 a1_0, .int .i64 a1_1, .int .i64 a1_2, .int .i64 a1_3] 26 (0, 0)) (by (with_reducible repeat (first | refine blk_drewN ?_ _ | refine blk_drew ?_ | refine blk_alloc ?_ _)); exact BK124.out)) (below_size (by repeat (first | (with_reducible first | exact HB.out | apply below_alloc | apply pw_below_drewN | apply below_drew1 | refine below_set ?_ GE124.out | refine below_set ?_ GE125.out) | exact HB.out))))
       have n2_ := Aside0.mk (blk_below (g := gb124) (o := .cells #[.int .i64 a1_0, .int .i64 a1_1, .int .i64 a1_2, .int .i64 a1_3] 26 (0, 0)) (by (with_reducible repeat (first | refine blk_drewN ?_ _ | refine blk_drew ?_ | refine blk_alloc ?_ _)); exact BK124.out) hb)
       have n3_ := Aside0.mk (blk_below (g := gb125) (o := .cells #[.int .i64 0, .int .i64 0, .slice none 0 0] 30 (0, 0)) (by (with_reducible repeat (first | refine blk_drewN ?_ _ | refine blk_drew ?_ | refine blk_alloc ?_ _)); exact BK125.out) hb)
       have n4_ := Aside0.mk (below_step (by repeat (first | (with_reducible first | exact HB.out | apply below_alloc | apply pw_below_drewN | apply below_drew1 | refine below_set ?_ GE124.out | refine below_set ?_ GE125.out) | exact HB.out)) hb)
       clear HO136
       clear BK124
       clear BK125
       clear HB
       have HO136 := n0_
       have HO133 := n1_
       have BK124 := n2_
       have BK125 := n3_
       have HB := n4_
       clear n0_ n1_ n2_ n3_ n4_
       (try clear hb)
       (try clear hb2)
       (try clear hk)
       (try clear hi)
       (try clear ho0)
       refine hK.out _ _ ⟨(blk_cell BK124.out 0).trans rfl, (blk_cell BK124.out 1).trans rfl, (blk_cell BK124.out 2).trans rfl, (blk_cell BK124.out 3).trans rfl⟩ (fun hHeld => ?_)
       clear hK K
       refine norm_ (a' := ?_) ?_ ?_
       rotate_left
       ·show Act.put _ (some 30) _ = _
        simp only [Act.put, lA_, lZ_, lS_, i64_w, i32_w]
        rfl
       exact norm_ (by simp only [putAll, Act.put, lA_, lZ_, lS_]) (hCont (v132, v135) _ ⟨hHeld, (by (with_reducible repeat (first | apply Kd.R_alloc | apply Kd.R_drewN | apply Kd.R_drew)); exact Kd.R_mono HO133.out (fun _ hk => ⟨hk.1.2, hk.2⟩)), (by (with_reducible repeat (first | apply Kd.R_alloc | apply Kd.R_drewN | apply Kd.R_drew)); exact Kd.R_mono HO136.out (fun _ hk => ⟨hk.2, hk.1.2⟩)), (by (with_reducible repeat (first | refine blk_drewN ?_ _ | refine blk_drew ?_ | refine blk_alloc ?_ _)); exact BK124.out), (by (with_reducible repeat (first | refine blk_drewN ?_ _ | refine blk_drew ?_ | refine blk_alloc ?_ _)); exact BK125.out), (by repeat (first | (with_reducible first | exact HB.out | apply below_alloc | apply pw_below_drewN | apply below_drew1 | refine below_set ?_ GE124.out | refine below_set ?_ GE125.out) | exact HB.out))⟩)
     rintro ⟨v132, v135⟩ w40 ⟨hS_, h0_, h1_, h2_, h3_, h4_⟩
     have n0_ : Aside0 (Kd.R k26 26 w40 w.heap.size (fun k_ => some k_ ≠ (v135 : Value).ownBlock ∧ k_ ≠ gb124) v132 t131) := ⟨h0_⟩
     have n1_ : Aside0 (Kd.R k26 26 w40 w.heap.size (fun k_ => some k_ ≠ (v132 : Value).ownBlock ∧ k_ ≠ gb124) v135 y134) := ⟨h1_⟩
     have n2_ : Aside0 (w40.heap[gb124]? = some (.cells #[.int .i64 a1_0, .int .i64 a1_1, .int .i64 a1_2, .int .i64 a1_3] 26 (0, 0))) := ⟨h2_⟩
     have n3_ : Aside0 (w40.heap[gb125]? = some (.cells #[.int .i64 0, .int .i64 0, .slice none 0 0] 30 (0, 0))) := ⟨h3_⟩
     have n4_ : Aside0 (Below w.heap.size w w40) := ⟨h4_⟩
     clear BK124
     clear BK125
     clear HB
     clear h0_ h1_ h2_ h3_ h4_
     have HO133 := n0_
     have HO136 := n1_
     have BK124 := n2_
     have BK125 := n3_
     have HB := n4_
     clear n0_ n1_ n2_ n3_ n4_
     have hHeld : w40.cell? ⟨gb124, 0, none⟩ = some (.int .i64 a1_0) ∧ w40.cell? ⟨gb124, 1, none⟩ = some (.int .i64 a1_1) ∧ w40.cell? ⟨gb124, 2, none⟩ = some (.int .i64 a1_2) ∧ w40.cell? ⟨gb124, 3, none⟩ = some (.int .i64 a1_3) := hS_
     obtain ⟨Ao42, co42, eo42⟩ := Kd.R_slice HO136.out
     (first | subst eo42 | (injection eo42 with f1_ f2_ f3_; have f4_ := f1_.symm; have f5_ := f3_.symm; clear f1_ f2_ f3_; subst f4_; subst f5_))
     refine norm_ (a' := ?_) ?_ ?_
     rotate_left
     ·simp only [putAll, Act.put, lA_, lZ_, lS_]
      rfl
     refine one_ (i := 6) (N := some 33) #[true, true, true, true, true, true, true, false, false] rfl rfl (one_of HT_.out (by kernel_rfl)) (by decide) (fun K hK => ?_)
     refine Kd.R_append_rows_step k26 (w0 := w) w.heap.size (by rfl) (.tmp 30) (.tmp 32) 24 26 (.agg #[(.int .i64 0), (.int .i64 0), (.int .i64 0), (.int .i64 0)]) 32 rfl Try.underlying24 info26 rfl (by decide) (by omega) v132 t131 y134 _ _ _ (fun k_ => some k_ ≠ (.slice Ao42 y134.length co42 : Value).ownBlock ∧ k_ ≠ gb124) (fun _ => False) rfl rfl ?aO ?aR (fun _ _ h => h) (fun _ h => h.elim) ?aF ?aB ?aS ?aL ?_
     (case aR => repeat (first | exact (Kd.R_reads' HO136.out).2.2 | (with_reducible refine Kd.C_alloc ?_ _) | (with_reducible refine Kd.C_drewN ?_ _) | (with_reducible refine Kd.C_drew ?_)))
     (case aB => exact (by repeat (first | (with_reducible first | exact HB.out | apply below_alloc | apply pw_below_drewN | apply below_drew1 | refine below_set ?_ GE124.out | refine below_set ?_ GE125.out) | exact HB.out)))
     (case aF => exact (fun k_ hk => ⟨Kd.fresh' (Kd.R_lt (by (with_reducible repeat (first | apply Kd.R_alloc | apply Kd.R_drewN | apply Kd.R_drew)); exact HO136.out)) k_ hk, Kd.freshB (g := gb124) (o := .cells #[.int .i64 a1_0, .int .i64 a1_1, .int .i64 a1_2, .int .i64 a1_3] 26 (0, 0)) (by (with_reducible repeat (first | refine blk_drewN ?_ _ | refine blk_drew ?_ | refine blk_alloc ?_ _)); exact BK124.out) k_ hk⟩))
     (case aO => exact (by (with_reducible repeat (first | apply Kd.R_alloc | apply Kd.R_drewN | apply Kd.R_drew)); exact HO133.out))
     (case aS => exact (below_size (by repeat (first | (with_reducible first | exact HB.out | apply below_alloc | apply pw_below_drewN | apply below_drew1 | refine below_set ?_ GE124.out | refine below_set ?_ GE125.out) | exact HB.out))))
     (case aL => have := LMc28.out; omega)
     intro v138 w41 ho hb hg hat
     rw [← Ny137.out] at ho
     have n0_ := Aside0.mk (blk_grown (g := gb124) (o := .cells #[.int .i64 a1_0, .int .i64 a1_1, .int .i64 a1_2, .int .i64 a1_3] 26 (0, 0)) (by (with_reducible repeat (first | refine blk_drewN ?_ _ | refine blk_drew ?_ | refine blk_alloc ?_ _)); exact BK124.out) hg (Kd.R_away HO133.out (fun _ hk => hk.2)))
     have n1_ := Aside0.mk (blk_grown (g := gb125) (o := .cells #[.int .i64 0, .int .i64 0, .slice none 0 0] 30 (0, 0)) (by (with_reducible repeat (first | refine blk_drewN ?_ _ | refine blk_drew ?_ | refine blk_alloc ?_ _)); exact BK125.out) hg (Kd.R_ne HO133.out BK125.out (by decide)))
     have n2_ := Aside0.mk (Kd.R_after (ok := (fun k_ => k_ ≠ gb124)) (by (with_reducible repeat (first | apply Kd.R_alloc | apply Kd.R_drewN | apply Kd.R_drew)); exact Kd.R_mono HO136.out (fun _ hk => ⟨hk.2, hk.1⟩)) hg hat)
     have n3_ := Aside0.mk (hb)
     have n4_ := Aside0.mk (ho)
     clear BK124
     clear BK125
     clear HO136
     clear HB
     clear HO133
     have BK124 := n0_
     have BK125 := n1_
     have HO136 := n2_
     have HB := n3_
     have HO139 := n4_
     clear n0_ n1_ n2_ n3_ n4_
     clear ho hb hg hat
     obtain ⟨Ao43, co43, eo43⟩ := Kd.R_slice HO139.out
     (first | subst eo43 | (injection eo43 with f1_ f2_ f3_; have f4_ := f1_.symm; have f5_ := f3_.symm; clear f1_ f2_ f3_; subst f4_; subst f5_))
     refine hK.out _ _ ⟨(blk_cell BK124.out 0).trans rfl, (blk_cell BK124.out 1).trans rfl, (blk_cell BK124.out 2).trans rfl, (blk_cell BK124.out 3).trans rfl⟩ (fun hHeld => ?_)
     clear hK K
     refine norm_ (a' := ?_) ?_ ?_
     rotate_left
     ·show Act.put _ (some 33) _ = _
      simp only [Act.put, lA_, lZ_, lS_, i64_w, i32_w]
      rfl
     refine pure_ (i := 7) (N := some 34) (v := ?_) (a' := ?_) #[true, true, true, true, true, true, true, true, false] rfl rfl (any_of HT_.out (by kernel_rfl)) (fun _ _ _ h => h) (Or.inl ⟨by rfl, ?_⟩) ?_ ?_
     rotate_left
     ·intro w'
      go_simp
      with_reducible rfl
     rotate_left
     ·simp only [Act.put, lA_, lZ_, lS_, i64_w, i32_w]
      rfl
     refine one_ (i := 8) (N := none) #[true, true, true, true, true, true, true, true, true] rfl rfl (one_of HT_.out (by kernel_rfl)) (by decide) (fun K hK => ?_)
     have hs44 : w41.cell? ⟨gb125, 0, none⟩ = some (.int .i64 0) := (blk_cell BK125.out 0).trans rfl
     have hfs44 := blk_frozen BK125.out 0
     have hns44_0 := NB124_125.out
     have hms44_0 := NB125_124.out
     have hs45 : w41.cell? ⟨gb125, 1, none⟩ = some (.int .i64 0) := (blk_cell BK125.out 1).trans rfl
     have hfs45 := blk_frozen BK125.out 1
     have hns45_0 := NB124_125.out
     have hms45_0 := NB125_124.out
     have hs46 : w41.cell? ⟨gb125, 2, none⟩ = some (.slice none 0 0) := (blk_cell BK125.out 2).trans rfl
     have hfs46 := blk_frozen BK125.out 2
     have hns46_0 := NB124_125.out
     have hms46_0 := NB125_124.out
     refine skip_ (w1 := ?_) (by rfl) rfl ?_ ?_
     rotate_left
     ·go_simp
      rfl
     refine hK.out _ _ ⟨((cell_far (p := ⟨gb125, _, none⟩) NB124_125.out _).trans (((cell_far (p := ⟨gb125, _, none⟩) NB124_125.out _).trans (((cell_far (p := ⟨gb125, _, none⟩) NB124_125.out _).trans (hHeld.1)))))), ((cell_far (p := ⟨gb125, _, none⟩) NB124_125.out _).trans (((cell_far (p := ⟨gb125, _, none⟩) NB124_125.out _).trans (((cell_far (p := ⟨gb125, _, none⟩) NB124_125.out _).trans (hHeld.2.1)))))), ((cell_far (p := ⟨gb125, _, none⟩) NB124_125.out _).trans (((cell_far (p := ⟨gb125, _, none⟩) NB124_125.out _).trans (((cell_far (p := ⟨gb125, _, none⟩) NB124_125.out _).trans (hHeld.2.2.1)))))), ((cell_far (p := ⟨gb125, _, none⟩) NB124_125.out _).trans (((cell_far (p := ⟨gb125, _, none⟩) NB124_125.out _).trans (((cell_far (p := ⟨gb125, _, none⟩) NB124_125.out _).trans (hHeld.2.2.2))))))⟩ (fun hHeld => ?_)
     clear hK K
     refine done_ (done_of HT_.out (by kernel_rfl)) ?_
     try go_wp2
     refine bodyPost_ret (results_cell_row rfl _ _ gb125 30 #[.int .i64 0, .int .i64 (l0.length : Int), .slice Ao43 y137.length co43] (0, 0) _ rfl (by (with_reducible repeat (first | refine blk_drewN ?_ _ | refine blk_drew ?_ | refine blk_alloc ?_ _)); refine blk_put (cs := #[.int .i64 0, .int .i64 (l0.length : Int), .slice none 0 0]) ?_ 2 _ rfl; (with_reducible repeat (first | refine blk_drewN ?_ _ | refine blk_drew ?_ | refine blk_alloc ?_ _)); refine blk_put (cs := #[.int .i64 0, .int .i64 0, .slice none 0 0]) ?_ 1 _ rfl; (with_reducible repeat (first | refine blk_drewN ?_ _ | refine blk_drew ?_ | refine blk_alloc ?_ _)); refine blk_put (cs := #[.int .i64 0, .int .i64 0, .slice none 0 0]) ?_ 0 _ rfl; (with_reducible repeat (first | refine blk_drewN ?_ _ | refine blk_drew ?_ | refine blk_alloc ?_ _)); exact BK125.out) Try.underlying30 rfl (by kernel_rfl)) rfl ?_
     exact ⟨_, by first | rfl | (simp [errW_none, errW_some] <;> rfl) | (simp [*, errW_none, errW_some] <;> rfl), by (with_reducible repeat (first | apply Kd.R_alloc | apply Kd.R_drewN | apply Kd.R_drew)); exact Kd.R_mono (Kd.R_far (p := ⟨gb125, 2, none⟩) (Kd.R_far (p := ⟨gb125, 1, none⟩) (Kd.R_far (p := ⟨gb125, 0, none⟩) (Kd.R_types HO139.out BK125.out (by decide)) (fun _ hk => hk.2) (.int .i64 0)) (fun _ hk => hk.2) (.int .i64 (l0.length : Int))) (fun _ hk => hk.2) (.slice Ao43 y137.length co43)) (fun _ hk => trivial), by repeat (first | (with_reducible first | exact HB.out | apply below_alloc | apply pw_below_drewN | apply below_drew1 | refine below_set ?_ GE124.out | refine below_set ?_ GE125.out) | exact HB.out)⟩
    ·rw [if_neg c28] at H
     exact absurd H (by simp)
 ·rw [if_neg c4] at H
  have c4b0 : (t126 == 0) = false := beq_eq_false_iff_ne.mpr c4
  have c4b1 : (t126 != 0) = true := bne_iff_ne.mpr c4
  simp only [Option.some.injEq, Prod.mk.injEq] at H
  obtain ⟨rfl, rfl, rfl⟩ := H
  go_enter Try.func58, Try.ntmps58
  go_wp2_with (first | ((with_reducible refine gate_dst (N := 3) rfl ?_); refine box_event ?hg (N := 3) ?hd (cs := #[.int .i64 a1_0, .int .i64 a1_1, .int .i64 a1_2, .int .i64 a1_3]) (t := 26) ?hr ?_; (case hd => rfl); (case hg => rfl); (case hr => first | (go_simp; done) | (go_simp; rfl)); intro gb124 hg w47 hbox hb; have n0_ := Aside0.mk (below_step (by repeat (first | (with_reducible first | exact HB.out | apply below_alloc | apply pw_below_drewN | apply below_drew1) | exact HB.out)) hb); have n1_ := Aside0.mk (hbox); have n2_ := Aside0.mk ((by rw [hg]; exact (below_size (by repeat (first | (with_reducible first | exact HB.out | apply below_alloc | apply pw_below_drewN | apply below_drew1) | exact HB.out))) : w.heap.size ≤ gb124)); have n3_ := Aside0.mk ((by rw [hg]; exact (below_size (by repeat (first | (with_reducible first | exact HB.out | apply below_alloc | apply pw_below_drewN | apply below_drew1) | exact HB.out))) : w.heap.size ≤ gb124)); clear HB; have HB := n0_; have BK124 := n1_; have GW124 := n2_; have GE124 := n3_; clear n0_ n1_ n2_ n3_; clear hb hbox hg) | ((with_reducible refine gate_dst (N := 4) rfl ?_); refine box_event ?hg (N := 4) ?hd (cs := #[.int .i64 0, .int .i64 0, .slice none 0 0]) (t := 30) ?hr ?_; (case hd => rfl); (case hg => rfl); (case hr => first | (go_simp; done) | (go_simp; rfl)); intro gb125 hg w48 hbox hb; have n0_ := Aside0.mk (blk_below (g := gb124) (o := .cells #[.int .i64 a1_0, .int .i64 a1_1, .int .i64 a1_2, .int .i64 a1_3] 26 (0, 0)) (by (with_reducible repeat (first | refine blk_drewN ?_ _ | refine blk_drew ?_ | refine blk_alloc ?_ _)); exact BK124.out) hb); have n1_ := Aside0.mk (below_step (by repeat (first | (with_reducible first | exact HB.out | apply below_alloc | apply pw_below_drewN | apply below_drew1 | refine below_set ?_ GE124.out) | exact HB.out)) hb); have n2_ := Aside0.mk (hbox); have n3_ := Aside0.mk ((by rw [hg]; exact (below_size (by repeat (first | (with_reducible first | exact HB.out | apply below_alloc | apply pw_below_drewN | apply below_drew1 | refine below_set ?_ GE124.out) | exact HB.out))) : w.heap.size ≤ gb125)); have n4_ := Aside0.mk ((by rw [hg]; exact (below_size (by repeat (first | (with_reducible first | exact HB.out | apply below_alloc | apply pw_below_drewN | apply below_drew1 | refine below_set ?_ GE124.out) | exact HB.out))) : w.heap.size ≤ gb125)); have n5_ := Aside0.mk ((by rw [hg]; exact Nat.ne_of_lt (blk_lt (g := gb124) (o := .cells #[.int .i64 a1_0, .int .i64 a1_1, .int .i64 a1_2, .int .i64 a1_3] 26 (0, 0)) (by (with_reducible repeat (first | refine blk_drewN ?_ _ | refine blk_drew ?_ | refine blk_alloc ?_ _)); exact BK124.out)) : gb124 ≠ gb125)); have n6_ := Aside0.mk ((by rw [hg]; exact Nat.ne_of_gt (blk_lt (g := gb124) (o := .cells #[.int .i64 a1_0, .int .i64 a1_1, .int .i64 a1_2, .int .i64 a1_3] 26 (0, 0)) (by (with_reducible repeat (first | refine blk_drewN ?_ _ | refine blk_drew ?_ | refine blk_alloc ?_ _)); exact BK124.out)) : gb125 ≠ gb124)); clear BK124; clear HB; have BK124 := n0_; have HB := n1_; have BK125 := n2_; have GW125 := n3_; have GE125 := n4_; have NB124_125 := n5_; have NB125_124 := n6_; clear n0_ n1_ n2_ n3_ n4_ n5_ n6_; clear hb hbox hg; have hnb49 := NB124_125.out; have hnc49 := NB125_124.out; have hcz50_0 : w48.cell? ⟨gb124, 0, none⟩ = some (.int .i64 a1_0) := (blk_cell BK124.out 0).trans rfl; have hcz50_1 : w48.cell? ⟨gb124, 1, none⟩ = some (.int .i64 a1_1) := (blk_cell BK124.out 1).trans rfl; have hcz50_2 : w48.cell? ⟨gb124, 2, none⟩ = some (.int .i64 a1_2) := (blk_cell BK124.out 2).trans rfl; have hcz50_3 : w48.cell? ⟨gb124, 3, none⟩ = some (.int .i64 a1_3) := (blk_cell BK124.out 3).trans rfl; have hfz50_0 := blk_frozen BK124.out 0; have hfz50_1 := blk_frozen BK124.out 1; have hfz50_2 := blk_frozen BK124.out 2; have hfz50_3 := blk_frozen BK124.out 3) | ((with_reducible refine gate_callee (f := 92) rfl ?_); refine goesL_ (some 9) rfl rfl Try.func92 (by kernel_rfl) rfl #[.slice A0 l0.length c0, .agg #[.int .i64 a1_0, .int .i64 a1_1, .int .i64 a1_2, .int .i64 a1_3]] rfl (by (try simp only [List.map_toArray, List.map_cons, List.map_nil]); first | done | rfl | (simp only [List.length_drop, List.length_take]; rfl)) ?_; (with_reducible refine (spec_l5Term.calls k _ _ l0 a1_0 a1_1 a1_2 a1_3 t126 _ ?side1 ?side2 A3.out).mono ?_); (case side1 => repeat (first | exact (Kd.C_below HR0.out HB.out) | (with_reducible refine Kd.C_alloc ?_ _) | (with_reducible refine Kd.C_drewN ?_ _) | (with_reducible refine Kd.C_drew ?_))); (case side2 => exact HC0.out); rintro e w51 ⟨rfl, hb⟩; refine ⟨_, rfl, ?_⟩; have n0_ := Aside0.mk (blk_below (g := gb124) (o := .cells #[.int .i64 a1_0, .int .i64 a1_1, .int .i64 a1_2, .int .i64 a1_3] 26 (0, 0)) (by (with_reducible repeat (first | refine blk_drewN ?_ _ | refine blk_drew ?_ | refine blk_alloc ?_ _)); exact BK124.out) hb); have n1_ := Aside0.mk (blk_below (g := gb125) (o := .cells #[.int .i64 0, .int .i64 0, .slice none 0 0] 30 (0, 0)) (by (with_reducible repeat (first | refine blk_drewN ?_ _ | refine blk_drew ?_ | refine blk_alloc ?_ _)); exact BK125.out) hb); have n2_ := Aside0.mk (below_step (by repeat (first | (with_reducible first | exact HB.out | apply below_alloc | apply pw_below_drewN | apply below_drew1 | refine below_set ?_ GE124.out | refine below_set ?_ GE125.out) | exact HB.out)) hb); clear BK124; clear BK125; clear HB; have BK124 := n0_; have BK125 := n1_; have HB := n2_; clear n0_ n1_ n2_; (try clear hb); (try clear hb2); (try clear hk); (try clear hi); have hcz52_0 : w51.cell? ⟨gb125, 0, none⟩ = some (.int .i64 0) := (blk_cell BK125.out 0).trans rfl; have hcz52_1 : w51.cell? ⟨gb125, 1, none⟩ = some (.int .i64 0) := (blk_cell BK125.out 1).trans rfl; have hcz52_2 : w51.cell? ⟨gb125, 2, none⟩ = some (.slice none 0 0) := (blk_cell BK125.out 2).trans rfl; have hfz52_0 := blk_frozen BK125.out 0; have hfz52_1 := blk_frozen BK125.out 1; have hfz52_2 := blk_frozen BK125.out 2))
  refine bodyPost_ret (results_cell_row rfl _ _ gb125 30 #[.int .i64 t126, .int .i64 0, .slice none 0 0] (0, 0) _ rfl (by (with_reducible repeat (first | refine blk_drewN ?_ _ | refine blk_drew ?_ | refine blk_alloc ?_ _)); refine blk_put (cs := #[.int .i64 t126, .int .i64 0, .slice none 0 0]) ?_ 2 _ rfl; (with_reducible repeat (first | refine blk_drewN ?_ _ | refine blk_drew ?_ | refine blk_alloc ?_ _)); refine blk_put (cs := #[.int .i64 t126, .int .i64 0, .slice none 0 0]) ?_ 1 _ rfl; (with_reducible repeat (first | refine blk_drewN ?_ _ | refine blk_drew ?_ | refine blk_alloc ?_ _)); refine blk_put (cs := #[.int .i64 0, .int .i64 0, .slice none 0 0]) ?_ 0 _ rfl; (with_reducible repeat (first | refine blk_drewN ?_ _ | refine blk_drew ?_ | refine blk_alloc ?_ _)); exact BK125.out) Try.underlying30 rfl (by kernel_rfl)) rfl ?_
  exact ⟨_, by first | rfl | (simp [errW_none, errW_some] <;> rfl) | (simp [*, errW_none, errW_some] <;> rfl), by first | exact Kd.R_nil _ _ _ _ _ | exact Kd.N_nil _ _ _ _ _ | exact Kd.V_nil _ _ _ _ _ | exact Kd.Q_nil _ _ _ _ _ | exact Kd.S_nil _ _ _ _ _, by repeat (first | (with_reducible first | exact HB.out | apply below_alloc | apply pw_below_drewN | apply below_drew1 | refine below_set ?_ GE124.out | refine below_set ?_ GE125.out) | exact HB.out)⟩
end Go.Proofs.Ytomaeijhljpgdaa.G
namespace Go.Proofs.Ytomaeijhljpgdaa.G
open Go.RowKit Go.Proofs.YtomaeijhljpgdaaW.PrintWords Go.Proofs.YtomaeijhljpgdaaW.PrintLast Go.Proofs.YtomaeijhljpgdaaW.PrintMore
attribute [local go_sem] max2_int min2_int max_two min_two max_three min_three max_four min_four   -- for this text's walks alone
set_option linter.unusedVariables false
set_option linter.unusedSimpArgs false
def spec_l9Put.f (k : Nat) (l : List S26) (c t0 t1 t2 t3 : Int) : Option (Int × List S26 × Int) := if c = 0 then ((spec_l5Put.f k l t0 t1 t2 t3).bind fun q => (if q.1 = 0 then (some (q.2.1, q.2.2, 0)) else (some (0, l, q.1)))) else (some (0, l, c))
theorem R_okT {w : World} {b : Nat} {v : Value} {l : List S26} {p : Nat → Prop} (h : k26.R 26 w b (fun _ => True) v l) (hp : ∀ k, v.ownBlock = some k → p k) : k26.R 26 w b p v l := by
  obtain ⟨h0, inner, hown, hr⟩ := h
  exact ⟨hp, inner, hown, hr.imp_ (fun x cs hm => by obtain rfl := k26_openM hm; exact k26_mkM _ _ _ _)⟩
theorem se_keep {Q N S : Nat} {w W : World} {v x : Value} {l : List S26} (hv : StV Q w N S v x l) (hb : Below w.heap.size w W) (j : Nat) (y : Value) : KeepT Q N w (W.setCell ⟨S, j, none⟩ y) :=
  ⟨Nat.le_trans hb.size (by simp), fun i hi hn => (Below.heap_setCell W ⟨S, j, none⟩ y i (fun e => hn (by have e2 : i = S := e; rw [e2]; exact ⟨hv.2.1, _, _, hv.1, .inl rfl⟩))).trans (hb.block i hi)⟩
theorem se_set1 {Q N S : Nat} {w W : World} {v x : Value} {l : List S26} (hv : StV Q w N S v x l) (hb : Below w.heap.size w W) (y : Value) : SE Q N S w (W.setCell ⟨S, 1, none⟩ y) l y :=
  ⟨⟨v, blk_put (blk_below hv.1 hb) 1 y rfl, hv.2.1, Kd.R_far (Kd.R_below hv.2.2 hb) (p := ⟨S, 1, none⟩) (fun k hk => hk) y⟩, se_keep hv hb 1 y, (hb.mono hv.size).setCell (p := ⟨S, 1, none⟩) hv.2.1 y⟩
theorem se_set0 {Q N S : Nat} {w W : World} {v x v2 : Value} {l l2 : List S26} (hv : StV Q w N S v x l) (hb : Below w.heap.size w W) (hr : k26.R 26 W w.heap.size (fun _ => True) v2 l2) : SE Q N S w (W.setCell ⟨S, 0, none⟩ v2) l2 x :=
  ⟨⟨v2, blk_put (blk_below hv.1 hb) 0 v2 rfl, hv.2.1, Kd.R_far (R_okT (Kd.R_lower hr hv.size) (fun k hk => by have := Kd.R_base hr k hk; have := blk_lt hv.1; show k ≠ S; omega)) (p := ⟨S, 0, none⟩) (fun k hk => hk) v2⟩, se_keep hv hb 0 v2, (hb.mono hv.size).setCell (p := ⟨S, 0, none⟩) hv.2.1 v2⟩
set_option maxHeartbeats 4000000 in
set_option maxRecDepth 100000 in
theorem spec_l9Put.callsE {N S : Nat} {w0 w : World} {l : List S26} {c : Int} (k : Nat) (t0 t1 t2 t3 : Int) (r : Int × List S26 × Int) (h : SE 94 N S w0 w l (.int .i64 c)) (hr : spec_l9Put.f k l c t0 t1 t2 t3 = some r) :
    Calls Try.prog 109 #[.pointer (some ⟨S, 0, none⟩), .agg #[.int .i64 t0, .int .i64 t1, .int .i64 t2, .int .i64 t3]] w fun e w' => e = .returned (.int .i64 r.1) ∧ SE 94 N S w0 w' r.2.1 (.int .i64 r.2.2) ∧ KeepT 94 N w w' := by
  refine SE.call h (fun v hv => ?_)
  clear h
  obtain ⟨A, cc, rfl⟩ := Kd.R_slice hv.2.2
  unfold spec_l9Put.f at hr
  have HV := Aside0.mk hv
  have BS := Aside0.mk hv.1
  have HB := Aside0.mk (Below.refl w.heap.size w)
  have HC := Aside0.mk (Kd.R_reads' hv.2.2).2.2
  have HCC := Aside0.mk (Kd.R_reads' hv.2.2).2.1
  clear hv
  by_cases hz : c = 0
  · rw [if_pos hz] at hr
    subst hz
    obtain ⟨q, hq, hr⟩ := Option.bind_eq_some_iff.mp hr
    have HQ := Aside0.mk hq
    clear hq
    have p0_ : w.cell? ⟨S, 1, none⟩ = some (.int .i64 0) := (blk_cell BS.out 1).trans rfl
    go_enter Try.func109, Try.ntmps109
    go_wp2_with (first | ((with_reducible refine gate_dst (N := 3) rfl ?_); refine box_event ?hg (N := 3) ?hd (cs := #[.int .i64 t0, .int .i64 t1, .int .i64 t2, .int .i64 t3]) (t := 26) ?hr ?_; (case hd => rfl); (case hg => rfl); (case hr => first | (go_simp; done) | (go_simp; rfl)); intro g3 hg w2 hbox hb; have n0_ := Aside0.mk (below_step HB.out hb); have B3 := Aside0.mk hbox; have p1_ : w2.cell? ⟨S, 1, none⟩ = some (.int .i64 0) := (blk_cell (blk_below BS.out n0_.out) 1).trans rfl; clear HB; have HB := n0_; clear n0_ hb hbox hg))
    clear p0_ p1_
    have n0_ := Aside0.mk (below_drew HB.out)
    have n1_ := Aside0.mk (blk_drew B3.out)
    clear HB B3
    have HB := n0_; have B3 := n1_
    clear n0_ n1_
    refine start_ (n := 8) (S := fun w' => w'.cell? ⟨S, 0, none⟩ = some (.slice A l.length cc) ∧ w'.cell? ⟨g3, 0, none⟩ = some (.int .i64 t0) ∧ w'.cell? ⟨g3, 1, none⟩ = some (.int .i64 t1) ∧ w'.cell? ⟨g3, 2, none⟩ = some (.int .i64 t2) ∧ w'.cell? ⟨g3, 3, none⟩ = some (.int .i64 t3)) (ds := [7]) #[false, false, false, false, false, false, false, false] (by kernel_rfl) rfl rfl ⟨(blk_cell (blk_below BS.out HB.out) 0).trans rfl, (blk_cell B3.out 0).trans rfl, (blk_cell B3.out 1).trans rfl, (blk_cell B3.out 2).trans rfl, (blk_cell B3.out 3).trans rfl⟩ (fun hHeld => ?_)
    generalize hw3 : w2.drew = w3 at HB B3 hHeld ⊢
    clear hw3
    refine pure_ (i := 0) (N := some 11) (v := ?_) (a' := ?_) #[true, false, false, false, false, false, false, false] rfl rfl (by kernel_rfl) (fun _ _ _ h => h) (Or.inl ⟨by rfl, ?_⟩) ?_ ?_
    rotate_left
    · intro w'
      go_simp
      with_reducible rfl
    rotate_left
    · simp only [Act.put, lA_, lZ_, lS_, i64_w, i32_w]
      rfl
    refine pure_ (i := 1) (N := some 12) (v := ?_) (a' := ?_) #[true, true, false, false, false, false, false, false] rfl rfl (by kernel_rfl) (fun _ _ _ h => h) (Or.inl ⟨by rfl, ?_⟩) ?_ ?_
    rotate_left
    · intro w'
      go_simp
      with_reducible rfl
    rotate_left
    · simp only [Act.put, lA_, lZ_, lS_, i64_w, i32_w]
      rfl
    refine pure_ (i := 2) (N := some 13) (v := ?_) (a' := ?_) #[true, true, true, false, false, false, false, false] rfl rfl (by kernel_rfl) (fun _ _ _ h => h) (Or.inl ⟨by rfl, ?_⟩) ?_ ?_
    rotate_left
    · intro w'
      go_simp
      with_reducible rfl
    rotate_left
    · simp only [Act.put, lA_, lZ_, lS_, i64_w, i32_w]
      rfl
    refine take_ (i := 3) (N := some 14) (v := ?_) (a' := ?_) #[true, true, true, true, false, false, false, false] rfl rfl (by kernel_rfl) (fun _ _ _ h => h) (Or.inl ⟨by rfl, ?_⟩) hHeld ?_ ?_
    rotate_left
    · rintro w' ⟨s0, s1, s2, s3, s4⟩
      go_simp
      with_reducible rfl
    rotate_left
    · simp only [Act.put, lA_, lZ_, lS_, i64_w, i32_w]
      rfl
    refine take_ (i := 4) (N := some 15) (v := ?_) (a' := ?_) #[true, true, true, true, true, false, false, false] rfl rfl (by kernel_rfl) (fun _ _ _ h => h) (Or.inl ⟨by rfl, ?_⟩) hHeld ?_ ?_
    rotate_left
    · rintro w' ⟨s0, s1, s2, s3, s4⟩
      go_simp
      with_reducible rfl
    rotate_left
    · simp only [Act.put, lA_, lZ_, lS_, i64_w, i32_w]
      rfl
    refine join_ (σ := Nat × Value) 1 #[true, true, true, true, true, true, true, false] (fun s_ => [(16, .agg #[.int .i64 q.1, .int .i64 q.2.1, s_.2]), (5, .pointer (some ⟨s_.1, 0, none⟩))]) (fun s_ W => ( W.cell? ⟨S, 0, none⟩ = some (.slice A l.length cc) ∧ W.cell? ⟨g3, 0, none⟩ = some (.int .i64 t0) ∧ W.cell? ⟨g3, 1, none⟩ = some (.int .i64 t1) ∧ W.cell? ⟨g3, 2, none⟩ = some (.int .i64 t2) ∧ W.cell? ⟨g3, 3, none⟩ = some (.int .i64 t3)) ∧ W.heap[s_.1]? = some (.cells #[.int .i64 0, .int .i64 0, .slice none 0 0] 30 (0, 0)) ∧ w.heap.size ≤ s_.1 ∧ W.heap[g3]? = some (.cells #[.int .i64 t0, .int .i64 t1, .int .i64 t2, .int .i64 t3] 26 (0, 0)) ∧ k26.R 26 W w.heap.size (fun k => k ≠ s_.1) s_.2 q.2.2 ∧ Below w.heap.size w W) ?_ ?_
    rotate_left
    · intro hCont
      refine two_ (i := 5) (j := 6) (Ni := some 16) (Nj := some 5) #[true, true, true, true, true, true, false, false] #[true, true, true, true, true, false, true, false] rfl rfl rfl rfl (by kernel_rfl) (by decide) (by decide) (fun K hK => ?_) (fun K hK => ?_)
      · skip
        refine goes_ Try.func58 (by kernel_rfl) rfl #[.slice A l.length cc, .agg #[.int .i64 t0, .int .i64 t1, .int .i64 t2, .int .i64 t3]] (by rfl) rfl rfl (by (try simp only [List.map_toArray, List.map_cons, List.map_nil]); first | done | rfl) ?_
        refine (spec_l5Put.calls k A cc l t0 t1 t2 t3 q.1 q.2.1 q.2.2 _ (Kd.C_below HC.out HB.out) HCC.out HQ.out).mono ?_
        rintro e w5 ⟨v2, rfl, ho, hb⟩
        refine ⟨_, rfl, ?_⟩
        have HR := Aside0.mk (Kd.R_lower ho (below_size HB.out))
        have n0_ := Aside0.mk (below_step HB.out hb)
        have n1_ := Aside0.mk (blk_below B3.out hb)
        clear HB B3 ho
        have HB := n0_; have B3 := n1_
        clear n0_ n1_ hb
        refine hK.out _ _ ⟨(blk_cell (blk_below BS.out HB.out) 0).trans rfl, (blk_cell B3.out 0).trans rfl, (blk_cell B3.out 1).trans rfl, (blk_cell B3.out 2).trans rfl, (blk_cell B3.out 3).trans rfl⟩ (fun hHeld => ?_)
        clear hK K
        refine norm_ (a' := ?_) ?_ ?_
        rotate_left
        · show Act.put _ (some 16) _ = _
          simp only [Act.put, lA_, lZ_, lS_, i64_w, i32_w]
          rfl
        refine one_ (i := 6) (N := some 5) #[true, true, true, true, true, true, true, false] rfl rfl (by kernel_rfl) (by decide) (fun K hK => ?_)
        refine value_ (w1 := ?_) (v := ?_) (by rfl) rfl ?_ ?_
        rotate_left 2
        · go_simp
          first | rfl | (constructor <;> rfl)
        have B5 := Aside0.mk (blk_new w5 (.cells #[.int .i64 0, .int .i64 0, .slice none 0 0] 30))
        have GE := Aside0.mk (below_size HB.out)
        have n0_ := Aside0.mk (below_alloc HB.out (.cells #[.int .i64 0, .int .i64 0, .slice none 0 0] 30))
        have n1_ := Aside0.mk (blk_alloc B3.out (.cells #[.int .i64 0, .int .i64 0, .slice none 0 0] 30))
        have HG := Aside0.mk (show ∀ k, v2.ownBlock = some k → k ≠ w5.heap.size from fun k hk => by obtain ⟨_, hi⟩ := Kd.R_own HR.out; have := own_lt hi k hk; omega)
        have n2_ := Aside0.mk (Kd.R_alloc HR.out (.cells #[.int .i64 0, .int .i64 0, .slice none 0 0] 30))
        clear HR
        have HR := n2_
        clear HB B3
        have HB := n0_; have B3 := n1_
        clear n0_ n1_
        refine hK.out _ _ ⟨(blk_cell (blk_below BS.out HB.out) 0).trans rfl, (blk_cell B3.out 0).trans rfl, (blk_cell B3.out 1).trans rfl, (blk_cell B3.out 2).trans rfl, (blk_cell B3.out 3).trans rfl⟩ (fun hHeld => ?_)
        clear hK K
        refine norm_ (a' := ?_) ?_ ?_
        rotate_left
        · show Act.put _ (some 5) _ = _
          simp only [Act.put, lA_, lZ_, lS_, i64_w, i32_w]
          rfl
        exact norm_ (by simp only [putAll, Act.put, lA_, lZ_, lS_]) (hCont (w5.heap.size, v2) _ ⟨hHeld, B5.out, GE.out, B3.out, R_okT HR.out HG.out, HB.out⟩)
      · skip
        refine value_ (w1 := ?_) (v := ?_) (by rfl) rfl ?_ ?_
        rotate_left 2
        · go_simp
          first | rfl | (constructor <;> rfl)
        have B5 := Aside0.mk (blk_new w3 (.cells #[.int .i64 0, .int .i64 0, .slice none 0 0] 30))
        have GE := Aside0.mk (below_size HB.out)
        have n0_ := Aside0.mk (below_alloc HB.out (.cells #[.int .i64 0, .int .i64 0, .slice none 0 0] 30))
        have n1_ := Aside0.mk (blk_alloc B3.out (.cells #[.int .i64 0, .int .i64 0, .slice none 0 0] 30))
        clear HB B3
        have HB := n0_; have B3 := n1_
        clear n0_ n1_
        refine hK.out _ _ ⟨(blk_cell (blk_below BS.out HB.out) 0).trans rfl, (blk_cell B3.out 0).trans rfl, (blk_cell B3.out 1).trans rfl, (blk_cell B3.out 2).trans rfl, (blk_cell B3.out 3).trans rfl⟩ (fun hHeld => ?_)
        clear hK K
        refine norm_ (a' := ?_) ?_ ?_
        rotate_left
        · show Act.put _ (some 5) _ = _
          simp only [Act.put, lA_, lZ_, lS_, i64_w, i32_w]
          rfl
        refine one_ (i := 5) (N := some 16) #[true, true, true, true, true, true, true, false] rfl rfl (by kernel_rfl) (by decide) (fun K hK => ?_)
        refine goes_ Try.func58 (by kernel_rfl) rfl #[.slice A l.length cc, .agg #[.int .i64 t0, .int .i64 t1, .int .i64 t2, .int .i64 t3]] (by rfl) rfl rfl (by (try simp only [List.map_toArray, List.map_cons, List.map_nil]); first | done | rfl) ?_
        refine (spec_l5Put.calls k A cc l t0 t1 t2 t3 q.1 q.2.1 q.2.2 _ (Kd.C_below HC.out HB.out) HCC.out HQ.out).mono ?_
        rintro e w5 ⟨v2, rfl, ho, hb⟩
        refine ⟨_, rfl, ?_⟩
        have HR := Aside0.mk (Kd.R_lower ho (below_size HB.out))
        have HG := Aside0.mk (Kd.R_base ho)
        have n0_ := Aside0.mk (below_step HB.out hb)
        have n1_ := Aside0.mk (blk_below B3.out hb)
        have n2_ := Aside0.mk (blk_below B5.out hb)
        clear B5
        clear HB B3 ho
        have HB := n0_; have B3 := n1_
        have B5 := n2_
        clear n2_
        clear n0_ n1_ hb
        refine hK.out _ _ ⟨(blk_cell (blk_below BS.out HB.out) 0).trans rfl, (blk_cell B3.out 0).trans rfl, (blk_cell B3.out 1).trans rfl, (blk_cell B3.out 2).trans rfl, (blk_cell B3.out 3).trans rfl⟩ (fun hHeld => ?_)
        clear hK K
        refine norm_ (a' := ?_) ?_ ?_
        rotate_left
        · show Act.put _ (some 16) _ = _
          simp only [Act.put, lA_, lZ_, lS_, i64_w, i32_w]
          rfl
        exact norm_ (by simp only [putAll, Act.put, lA_, lZ_, lS_]) (hCont (w3.heap.size, v2) _ ⟨hHeld, B5.out, GE.out, B3.out, R_okT HR.out (fun k hk e => by have := HG.out k hk; simp at this; omega), HB.out⟩)
    rintro ⟨g5, v2⟩ w6 ⟨hHeld, b5, ge5, b3, ho2, hb⟩
    obtain ⟨A2, c2, e2⟩ := Kd.R_slice ho2
    dsimp only at e2
    subst e2
    clear HB B3
    have B5 := Aside0.mk b5; have GE := Aside0.mk ge5; have HR := Aside0.mk ho2; have HB := Aside0.mk hb
    clear b5 ge5 b3 ho2 hb hHeld
    dsimp only at B5 GE HR HB ⊢
    refine norm_ (a' := ?_) ?_ ?_
    rotate_left
    · simp only [putAll, Act.put, lA_, lZ_, lS_]
      rfl
    refine last_ (i := 7) (N := none) #[true, true, true, true, true, true, true, true] rfl rfl (by kernel_rfl) (by decide) (fun K hK => ?_)
    have x0_ : w6.cell? ⟨g5, 0, none⟩ = some (.int .i64 0) := (blk_cell B5.out 0).trans rfl; have x1_ : w6.cell? ⟨g5, 1, none⟩ = some (.int .i64 0) := (blk_cell B5.out 1).trans rfl; have x2_ : w6.cell? ⟨g5, 2, none⟩ = some (.slice none 0 0) := (blk_cell B5.out 2).trans rfl
    have y0_ := blk_frozen B5.out 0; have y1_ := blk_frozen B5.out 1; have y2_ := blk_frozen B5.out 2
    refine skip_ (w1 := ?_) (by rfl) rfl ?_ ?_
    rotate_left
    · go_simp
      rfl
    refine hK.out _ _ ?_
    clear hK K
    refine done_ (by kernel_rfl) ?_
    have n0_ := Aside0.mk (below_set (j := 2) (v := (.slice A2 q.2.2.length c2)) (below_set (j := 1) (v := .int .i64 q.2.1) (below_set (j := 0) (v := .int .i64 q.1) HB.out GE.out) GE.out) GE.out)
    have n1_ := Aside0.mk (Kd.R_mono (Kd.R_far (Kd.R_far (Kd.R_far HR.out (p := ⟨g5, 0, none⟩) (fun k hk => hk) (.int .i64 q.1)) (p := ⟨g5, 1, none⟩) (fun k hk => hk) (.int .i64 q.2.1)) (p := ⟨g5, 2, none⟩) (fun k hk => hk) (.slice A2 q.2.2.length c2)) (fun _ _ => trivial))
    have n2_ : Aside0 ((((w6.setCell ⟨g5, 0, none⟩ (.int .i64 q.1)).setCell ⟨g5, 1, none⟩ (.int .i64 q.2.1)).setCell ⟨g5, 2, none⟩ (.slice A2 q.2.2.length c2)).heap[g5]? = some (.cells #[.int .i64 q.1, .int .i64 q.2.1, .slice A2 q.2.2.length c2] 30 (0, 0))) := Aside0.mk (blk_put (blk_put (blk_put B5.out 0 _ rfl) 1 _ rfl) 2 _ rfl)
    clear HB HR B5 x0_ x1_ x2_ y0_ y1_ y2_
    have HB := n0_; have HR := n1_; have B5 := n2_
    clear n0_ n1_ n2_
    generalize ((w6.setCell ⟨g5, 0, none⟩ (.int .i64 q.1)).setCell ⟨g5, 1, none⟩ (.int .i64 q.2.1)).setCell ⟨g5, 2, none⟩ (.slice A2 q.2.2.length c2) = w7 at HB HR B5 ⊢
    have x0_ : w7.cell? ⟨g5, 0, none⟩ = some (.int .i64 q.1) := (blk_cell B5.out 0).trans rfl
    have x1_ : w7.cell? ⟨g5, 1, none⟩ = some (.int .i64 q.2.1) := (blk_cell B5.out 1).trans rfl
    have x2_ : w7.cell? ⟨g5, 2, none⟩ = some (.slice A2 q.2.2.length c2) := (blk_cell B5.out 2).trans rfl
    have z0_ : w7.cell? ⟨S, 0, none⟩ = some (.slice A l.length cc) := (blk_cell (blk_below BS.out HB.out) 0).trans rfl
    have z1_ : w7.cell? ⟨S, 1, none⟩ = some (.int .i64 0) := (blk_cell (blk_below BS.out HB.out) 1).trans rfl
    have f0_ := blk_frozen (blk_below BS.out HB.out) 0
    have f1_ := blk_frozen (blk_below BS.out HB.out) 1
    by_cases hq : q.1 = 0
    · rw [if_pos hq] at hr
      injection hr with hr
      subst hr
      have hq0 : (q.1 == 0) = true := by simpa using hq
      have hq1 : (q.1 != 0) = false := by simpa using hq
      have hne : S ≠ g5 := by have := GE.out; have := blk_lt BS.out; omega
      have hne2 : g5 ≠ S := hne.symm
      go_wp2
      go_ret
      exact ⟨rfl, se_set0 HV.out HB.out HR.out⟩
    · rw [if_neg hq] at hr
      injection hr with hr
      subst hr
      have hq0 : (q.1 == 0) = false := by simpa using hq
      have hq1 : (q.1 != 0) = true := by simpa using hq
      go_wp2
      go_ret
      exact ⟨rfl, se_set1 HV.out HB.out _⟩
  · rw [if_neg hz] at hr
    injection hr with hr
    subst hr
    have hz0 : (c == 0) = false := by simpa using hz
    have hz1 : (c != 0) = true := by simpa using hz
    have p0_ : w.cell? ⟨S, 1, none⟩ = some (.int .i64 c) := (blk_cell BS.out 1).trans rfl
    go_enter Try.func109, Try.ntmps109
    go_wp2_with (first | ((with_reducible refine gate_dst (N := 3) rfl ?_); refine box_event ?hg (N := 3) ?hd (cs := #[.int .i64 t0, .int .i64 t1, .int .i64 t2, .int .i64 t3]) (t := 26) ?hr ?_; (case hd => rfl); (case hg => rfl); (case hr => first | (go_simp; done) | (go_simp; rfl)); intro g3 hg w2 hbox hb; have n0_ := Aside0.mk (below_step HB.out hb); have p1_ : w2.cell? ⟨S, 1, none⟩ = some (.int .i64 c) := (blk_cell (blk_below BS.out n0_.out) 1).trans rfl; clear HB; have HB := n0_; clear n0_ hb hbox hg))
    go_ret
    exact ⟨rfl, (SE.start HV.out).below HB.out⟩
theorem st_new {Q N M : Nat} {w : World} {a b v x : Value} {l : List S26} (h : w.heap[M]? = some (.cells #[a, b] Q (0, 0))) (hN : N ≤ M) (hr : k26.R 26 w N (fun k => k ≠ M) v l) : StV Q ((w.setCell ⟨M, 0, none⟩ v).setCell ⟨M, 1, none⟩ x) N M v x l :=
  ⟨blk_put (blk_put h 0 v rfl) 1 x rfl, hN, Kd.R_far (Kd.R_far hr (p := ⟨M, 0, none⟩) (fun k hk => hk) v) (p := ⟨M, 1, none⟩) (fun k hk => hk) x⟩
theorem R_below_ne {w W : World} {b g : Nat} {v : Value} {l : List S26} (h : k26.R 26 w b (fun _ => True) v l) (hb : Below w.heap.size w W) (hg : w.heap.size ≤ g) : k26.R 26 W b (fun k => k ≠ g) v l :=
  Kd.R_below (R_okT h (fun k hk => by obtain ⟨_, hi⟩ := Kd.R_own h; have := own_lt hi k hk; show k ≠ g; omega)) hb
end Go.Proofs.Ytomaeijhljpgdaa.G
namespace Go.Proofs.Ytomaeijhljpgdaa.G
open Go.RowKit Go.Proofs.YtomaeijhljpgdaaW.PrintWords Go.Proofs.YtomaeijhljpgdaaW.PrintLast Go.Proofs.YtomaeijhljpgdaaW.PrintMore
attribute [local go_sem] max2_int min2_int max_two min_two max_three min_three max_four min_four   -- for this text's walks alone
set_option linter.unusedVariables false
set_option linter.unusedSimpArgs false
set_option maxHeartbeats 4000000 in
set_option maxRecDepth 100000 in
theorem impl_sheet_pair.callsV (S N : Nat) (v : Value) (l : List S26) (full : Bool) (a b : Int) (w : World) (hS : SheetV w N S v l full) (hN : N ≤ w.heap.size) (hl : l.length ≤ 400) :
    Calls Try.prog 97 #[.pointer (some ⟨S, 0, none⟩), .int .i64 a, .int .i64 b] w fun e w' => e = .returned (.int .i64 (putT l full ⟨3, a, b, 0⟩).1) ∧ (∃ v', SheetV w' N S v' (putT l full ⟨3, a, b, 0⟩).2.1 (putT l full ⟨3, a, b, 0⟩).2.2 ∧ ∀ k, v'.ownBlock = some k → v.ownBlock = some k ∨ w.heap.size ≤ k) ∧ KeepV w w' S v ∧ Below N w w' := by
  have HC := Aside0.mk (impl_sheet_put.callsV 402 S N v l full 3 a b 0 _ w hS hN (tix_f l hl ⟨3, a, b, 0⟩))
  unfold putT
  clear hS hN
  generalize putP l full ⟨3, a, b, 0⟩ (tix l ⟨3, a, b, 0⟩ 0) = r at HC ⊢
  go_enter Try.func97, Try.ntmps97
  go_wp2_with (go_at_call 56; refine HC.out.mono ?_; rintro e w' ⟨rfl, hs, hk, hb⟩)
  go_ret
  exact ⟨rfl, hs, hk, hb⟩
end Go.Proofs.Ytomaeijhljpgdaa.G
namespace Go.Proofs.Ytomaeijhljpgdaa.G
open Go.RowKit Go.Proofs.YtomaeijhljpgdaaW.PrintWords Go.Proofs.YtomaeijhljpgdaaW.PrintLast Go.Proofs.YtomaeijhljpgdaaW.PrintMore
attribute [local go_sem] max2_int min2_int max_two min_two max_three min_three max_four min_four   -- for this text's walks alone
set_option linter.unusedVariables false
set_option linter.unusedSimpArgs false
section
open Go.Shelf
attribute [local go_sem] Oper.semAt_some
def pairT (st : Int × List S26 × Bool) (x : Int) : Int × List S26 × Bool := putT st.2.1 st.2.2 ⟨3, x, st.1, 0⟩
def listP (l : List S26) (full : Bool) (xs : List Int) : Int × List S26 × Bool :=
  if xs.length = 0 then putT l full ⟨1, 0, 0, 0⟩ else ((backTo (xs.take (xs.length - 1)) (xs.length - 1)).map Prod.snd).foldl pairT (xs[xs.length - 1]?.getD 0, l, full)
theorem sheetV_below {W W' : World} {N S : Nat} {v : Value} {l : List S26} {full : Bool} (h : SheetV W N S v l full) (hb : Below W.heap.size W W') : SheetV W' N S v l full := ⟨blk_below h.1 hb, h.2.1, Kd.R_below h.2.2 hb⟩
theorem sheetV_alloc {W : World} {N S : Nat} {v : Value} {l : List S26} {full : Bool} (h : SheetV W N S v l full) (o : Obj) : SheetV (W.alloc o) N S v l full := sheetV_below h (below_alloc (Below.refl _ _) o)
def ListI (N S z b : Nat) (v0 : Value) (st : Int × List S26 × Bool) (w W : World) : Prop := ∃ v, W.heap[z]? = some (.cells #[.pointer (some ⟨S, 0, none⟩)] 79 (0, 0)) ∧ W.heap[z + 1]? = some (.cells #[.int .i64 st.1] 2 (0, 0)) ∧ SheetV W N S v st.2.1 st.2.2 ∧ st.2.1.length ≤ 400 ∧ (∀ k, v.ownBlock = some k → k ≠ z ∧ k ≠ z + 1 ∧ k ≠ z + 1 + 1 ∧ k ≠ b) ∧ z + 3 ≤ W.heap.size ∧ KeepV w W S v0 ∧ (∀ k, v.ownBlock = some k → v0.ownBlock = some k ∨ w.heap.size ≤ k) ∧ Below N w W
theorem R_and {W : World} {N : Nat} {ok : Nat → Prop} {q : Nat → Prop} {v : Value} {l : List S26} (h : k26.R 26 W N ok v l) (hq : ∀ k, v.ownBlock = some k → q k) : k26.R 26 W N (fun k => ok k ∧ q k) v l := by
  obtain ⟨h0, inner, hown, hr⟩ := h
  exact ⟨fun k hk => ⟨h0 k hk, hq k hk⟩, inner, hown, hr.imp_ (fun x cs hm => by obtain rfl := k26_openM hm; exact k26_mkM _ _ _ _)⟩
theorem R_cellsRow {W : World} {N : Nat} {ok : Nat → Prop} {v : Value} {l : List S26} (h : k26.R 26 W N ok v l) (k : Nat) (hk : v.ownBlock = some k) : ∃ cells, W.heap[k]? = some (.cells cells 26 (0, 0)) := by
  obtain ⟨_, hi⟩ := Kd.R_own h
  exact own_typed hi k hk
theorem R_heap {W W' : World} {N : Nat} {ok : Nat → Prop} {v : Value} {l : List S26} (h : k26.R 26 W N ok v l) (hm : ∀ k, v.ownBlock = some k → W'.heap[k]? = W.heap[k]?) : k26.R 26 W' N ok v l := by
  obtain ⟨h0, inner, hown, hr⟩ := h
  exact ⟨h0, inner, own_move hown hm, hr.imp_ (fun x cs hm => by obtain rfl := k26_openM hm; exact k26_mkM _ _ _ _)⟩
theorem R_putObj {W : World} {N D : Nat} {ok : Nat → Prop} {v : Value} {l : List S26} {o o' : Obj} (h : k26.R 26 W N ok v l) (hD : W.heap[D]? = some o) (ho : o.isCells = false) : k26.R 26 (W.putObj D o') N ok v l :=
  R_heap h (fun k hk => World.putObj_heap_other (fun e => by
    obtain ⟨cells, hc⟩ := R_cellsRow h k hk
    rw [e, hD] at hc
    injection hc with hc
    rw [hc] at ho
    cases ho))
theorem listI_own {α : Type} (N S z b B : Nat) (v0 : Value) (hN : N ≤ B) (hS : S < B) (hz : z + 3 ≤ B) (f : α → Int × List S26 × Bool) (w : World) (hw : w.heap.size ≤ B) : OwnFrom B (fun s W => ListI N S z b v0 (f s) w W) := by
  rintro s W W' row ⟨v, q2, q6, ⟨h1, h2, h3⟩, hl, ho, hs, hkp, hov, hb⟩ hg hr
  have far : ∀ k, k < B → some k ≠ row := fun k hk e => by have := (hr k e.symm).1; omega
  have blk : ∀ k, k < W.heap.size → k < B → W'.heap[k]? = W.heap[k]? := fun k h1 h2 => hg.block k h1 (far k h2)
  have hNW : N ≤ W.heap.size := Nat.le_trans h2 (Nat.le_of_lt (blk_lt h1))
  refine ⟨v, (blk _ (by omega) (by omega)).trans q2, (blk _ (by omega) (by omega)).trans q6, ⟨(blk _ (blk_lt h1) hS).trans h1, h2, R_heap h3 (fun k hk => ?_)⟩, hl, ho, by have := hg.size; omega, fun k h1 h2 h3 => (blk k (Nat.lt_of_lt_of_le h1 hb.size) (by omega)).trans (hkp k h1 h2 h3), hov, ?_⟩
  · obtain ⟨cells, hc⟩ := R_cellsRow h3 k hk
    refine hg.block k (blk_lt hc) (fun e => ?_)
    obtain ⟨_, o, ho1, ho2⟩ := hr k e.symm
    rw [hc] at ho1
    injection ho1 with ho1
    rw [← ho1] at ho2
    cases ho2
  · exact pw_below_grown hb row (by omega) hg (fun k e => by have := (hr k e).1; omega)
theorem keepsOthers_put {W W' : World} {N S : Nat} {v : Value} {l : List S26} {full : Bool} (h : SheetV W N S v l full) (hk : KeepV W W' S v) (hs : W.heap.size ≤ W'.heap.size) : KeepsOthers W W' :=
  ⟨hs, fun k o ho hc => by
    refine (hk k (blk_lt ho) (fun e => ?_) (fun e => ?_)).trans ho
    · rw [e, h.1] at ho
      injection ho with ho
      rw [← ho] at hc
      cases hc
    · obtain ⟨cells, hcc⟩ := R_cellsRow h.2.2 k e
      rw [hcc] at ho
      injection ho with ho
      rw [← ho] at hc
      cases hc⟩
set_option maxRecDepth 100000 in
set_option maxHeartbeats 4000000 in
theorem impl_sheet_list.callsV (S N : Nat) (v : Value) (l : List S26) (full : Bool) (A1 : Option Addr) (c1 : Nat) (xs : List Int) (w : World) (hS : SheetV w N S v l full) (hN : N ≤ w.heap.size) (hl : l.length ≤ 400) (hr1 : Kd.C (Kd.int .i64) w A1 xs.length xs) (hc1 : xs.length ≤ c1) (hfar : 0 < xs.length → ∀ ad, A1 = some ad → ad.block ≠ S ∧ v.ownBlock ≠ some ad.block) :
    Calls Try.prog 61 #[.pointer (some ⟨S, 0, none⟩), .slice A1 xs.length c1] w fun e w' => e = .returned (.int .i64 (listP l full xs).1) ∧ (∃ v', SheetV w' N S v' (listP l full xs).2.1 (listP l full xs).2.2 ∧ ∀ k, v'.ownBlock = some k → v.ownBlock = some k ∨ w.heap.size ≤ k) ∧ KeepV w w' S v ∧ Below N w w' := by
  have hF_a : Fence.wide.fn 95 := trivial
  have hF_b : Fence.wide.fn 96 := trivial
  have hF_c : Fence.wide.fn 97 := trivial
  have hF_d : Fence.wide.fn 108 := trivial
  by_cases h0 : xs.length = 0
  · have hnm := fun (W : World) (h : SheetV W N S v l full) (h2 : N ≤ W.heap.size) => impl_sheet_name.callsV S N v l full 0 W h h2 hl
    have hP : listP l full xs = putT l full ⟨1, 0, 0, 0⟩ := by unfold listP; rw [if_pos h0]
    rw [hP, h0]
    generalize putT l full ⟨1, 0, 0, 0⟩ = r at hnm ⊢
    go_enter Try.func61, Try.ntmps61
    go_wp2_with (go_at_call 95; refine (hnm _ (sheetV_alloc hS _) (Nat.le_trans hN (by simp))).mono ?_; rintro e w' ⟨rfl, hs, hk, hb⟩)
    go_ret
    refine ⟨rfl, ?_, ?_, ((Below.refl N w).alloc hN _).trans hb⟩
    · obtain ⟨v', hv, ho⟩ := hs
      exact ⟨v', hv, fun k hk => (ho k hk).imp id (fun h => by simp at h; omega)⟩
    · exact fun b h1 h2 h3 => (hk b (by simp; omega) h2 h3).trans ((below_alloc (Below.refl _ _) _).block b h1)
  · obtain ⟨m, hm⟩ : ∃ m, xs.length = m + 1 := ⟨xs.length - 1, by omega⟩
    obtain ⟨ad, e, hx0⟩ := Kd.at_int hr1 (m : Int) (by omega) (by omega)
    subst e
    rw [Int.toNat_natCast] at hx0
    have hmx : m ≤ 9223372036854775807 := by have := hr1.2.1; omega
    generalize hx : rd xs (m : Int) = x at hx0
    rw [hm]
    refine (callsIn_wide (n := 6)).1 ?_
    refine callsIn_of_wp_marks Try.func61 rfl trivial ?_ rfl
    simp only [Try.ntmps61, List.size_toArray, List.length_cons, List.length_nil, Nat.reduceAdd, Nat.reduceSub, Array.replicate_succ, Array.replicate_zero, List.push_toArray, List.append_toArray, List.nil_append, List.cons_append]
    have hw1 : wrap64 (((m + 1 : Nat) : Int) - 1) = (m : Int) := by unfold wrap64; omega
    have hadl := World.block_lt_of_cell? w _ hx0
    gi_wp2_with (gi_at_call 96; refine (callsIn_wide.2 (backward_in _ _ _ _)).mono ?_; rintro e w' ⟨rfl, rfl⟩)
    obtain ⟨hadS, hadV⟩ := hfar (by omega) ad rfl
    have hSl := blk_lt hS.1
    obtain ⟨W0, hW0⟩ : ∃ W0, ((w.alloc (.cells #[.pointer (some ⟨S, 0, none⟩)] 79)).alloc (.cells #[.int .i64 x] 2)).alloc (.cells #[.slice (some ad) m c1] 33) = W0 := ⟨_, rfl⟩
    have hb0 : Below w.heap.size w W0 := by rw [← hW0]; exact below_alloc (below_alloc (below_alloc (Below.refl _ _) _) _) _
    have hz0 : W0.heap.size = w.heap.size + 3 := by rw [← hW0]; simp
    have k2 : W0.heap[w.heap.size]? = some (.cells #[.pointer (some ⟨S, 0, none⟩)] 79 (0, 0)) := by
      rw [← hW0]; exact blk_alloc (blk_alloc Array.getElem?_push_size _) _
    have k6 : W0.heap[w.heap.size + 1]? = some (.cells #[.int .i64 x] 2 (0, 0)) := by
      have h : ((w.alloc (.cells #[.pointer (some ⟨S, 0, none⟩)] 79)).alloc (.cells #[.int .i64 x] 2)).heap[w.heap.size + 1]? = some (.cells #[.int .i64 x] 2 (0, 0)) := by
        have := Array.getElem?_push_size (xs := (w.alloc (.cells #[.pointer (some ⟨S, 0, none⟩)] 79)).heap) (x := Obj.cells #[.int .i64 x] 2 (0, 0))
        rw [show (w.alloc (.cells #[.pointer (some ⟨S, 0, none⟩)] 79)).heap.size = w.heap.size + 1 by simp] at this
        exact this
      rw [← hW0]; exact blk_alloc h _
    have kB : W0.cell? ⟨w.heap.size + 1 + 1, 0, none⟩ = some (.slice (some ad) m c1) := by
      have h : W0.heap[w.heap.size + 1 + 1]? = some (.cells #[.slice (some ad) m c1] 33 (0, 0)) := by
        have := Array.getElem?_push_size (xs := ((w.alloc (.cells #[.pointer (some ⟨S, 0, none⟩)] 79)).alloc (.cells #[.int .i64 x] 2)).heap) (x := Obj.cells #[.slice (some ad) m c1] 33 (0, 0))
        rw [show ((w.alloc (.cells #[.pointer (some ⟨S, 0, none⟩)] 79)).alloc (.cells #[.int .i64 x] 2)).heap.size = w.heap.size + 1 + 1 by simp] at this
        rw [← hW0]; exact this
      exact (blk_cell h 0).trans rfl
    obtain ⟨zs, hzs⟩ : ∃ zs, zs = xs.take m := ⟨_, rfl⟩
    have hzl : zs.length = m := by rw [hzs, List.length_take]; omega
    have hcz : ∀ j, j < zs.length → W0.cell? (ad.add j) = some (.int .i64 (zs[j]?.getD 0)) := by
      intro j hj
      obtain ⟨ad2, e2, hx2⟩ := Kd.at_int hr1 (j : Int) (by omega) (by omega)
      obtain rfl : ad = ad2 := by injection e2
      rw [Int.toNat_natCast] at hx2
      have e3 : zs[j]?.getD 0 = rd xs (j : Int) := by rw [hzs, List.getElem?_take, if_pos (by omega)]; simp [rd, List.getD]
      rw [e3]
      exact (hb0.cell (World.block_lt_of_cell? w _ hx2)).trans hx2
    rw [hW0]
    have kB' : W0.cell? ⟨w.heap.size + 1 + 1, 0, none⟩ = some (.slice (some ad) zs.length c1) := by rw [hzl]; exact kB
    have hadw : ad.block < w.heap.size := by rw [add_block_] at hadl; exact hadl
    refine wpIn_rangeFunc_ownG (F := Fence.wide) (n := 6) rfl (by omega) (gf := 108) (lb := #[.pointer (some ⟨w.heap.size + 1 + 1, 0, none⟩)]) rfl trivial (enters_of Try.func108 (by kernel_rfl) rfl)
      (backward_stops 5 (by omega) (w.heap.size + 1 + 1) c1 ad zs (by omega) W0 kB' (by omega) hcz)
      (fun h1 h2 => ⟨h2.1.trans h1.1, h2.2.trans h1.2⟩) (fun W l' o o' hl' _ _ _ => ⟨World.putObj_heap_other (by omega), World.putObj_heap_other (by omega)⟩) (Below.refl _ _) (fun _ => rfl)
      (fun (pre : List (Int × Int)) W => ListI N S w.heap.size ad.block v ((pre.map Prod.snd).foldl pairT (x, l, full)) w W)
      (fun _ _ _ => False)
      (listI_own N S w.heap.size ad.block W0.heap.size v (by omega) (by omega) (by omega) (fun (pre : List (Int × Int)) => (pre.map Prod.snd).foldl pairT (x, l, full)) w (by omega))
      (fun _ _ _ _ _ hs _ _ => hs)
      ⟨v, k2, k6, sheetV_below hS hb0, hl, fun k hk => by obtain ⟨_, hi⟩ := Kd.R_own hS.2.2; have hlt := own_lt hi k hk; exact ⟨by omega, by omega, by omega, fun e => hadV (e ▸ hk)⟩, by omega, fun b h1 _ _ => hb0.block b h1, fun k hk => .inl hk, hb0.mono hN⟩
      (fun x' => { tmps := #[.pointer (some ⟨S, 0, none⟩), .slice (some ad) (m + 1) c1, .pointer (some ⟨w.heap.size, 0, none⟩), undef, .int .i64 0, .int .i64 m, .pointer (some ⟨w.heap.size + 1, 0, none⟩), undef, .int .i64 x'.2, .slice (some ad) (m + 1) c1, .int .i64 ((m : Int) + 1), .bool false, undef, undef, .slice (some ad) (m + 1) c1, .int .i64 ((m : Int) + 1), .int .i64 m, .slice (some ad) (m + 1) c1, .int .i64 m, .pointer (some (ad.add m)), .int .i64 x, .slice (some ad) (m + 1) c1, .int .i64 m, .slice (some ad) m c1, .func (.func 108) #[] #[.pointer (some ⟨w.heap.size + 1 + 1, 0, none⟩)], .int .i64 x'.1, .int .i64 x'.2, undef, undef, undef, undef, undef], defers := [] }) ?assign ?body ?done ?stop
    case assign =>
      intro l' x' W K hK
      gi_wp2
      exact hK
    case body =>
      rintro l' pre x' W ⟨v', q2, q6, hSV, hlen, hown, hsz, hkp, hov, hB⟩ hlt
      have hst : ((pre ++ [x']).map Prod.snd).foldl pairT (x, l, full) = pairT ((pre.map Prod.snd).foldl pairT (x, l, full)) x'.2 := by simp
      generalize (pre.map Prod.snd).foldl pairT (x, l, full) = st at q2 q6 hSV hlen hst
      have c2 : W.cell? ⟨w.heap.size, 0, none⟩ = some (.pointer (some ⟨S, 0, none⟩)) := (blk_cell q2 0).trans rfl
      have c6 : W.cell? ⟨w.heap.size + 1, 0, none⟩ = some (.int .i64 st.1) := (blk_cell q6 0).trans rfl
      have hpr := impl_sheet_pair.callsV S N v' st.2.1 st.2.2 x'.2 st.1 W hSV (by omega) hlen
      have hpT : putT st.2.1 st.2.2 ⟨3, x'.2, st.1, 0⟩ = pairT st x'.2 := rfl
      rw [hpT] at hpr
      have hlen2 : (pairT st x'.2).2.1.length ≤ 400 := putT_len hlen
      generalize pairT st x'.2 = st2 at hpr hlen2 hst
      gi_wp2_with (gi_at_call 97; refine (CallsIn.inRound l' (callsIn_wide.2 hpr)).mono ?_; rintro e W2 ⟨rfl, hs2, hk2, hb2⟩; have d6 : W2.cell? ⟨w.heap.size + 1, 0, none⟩ = some (.int .i64 st.1) := (cell_block_ (hk2 (w.heap.size + 1) (by omega) (by omega) (fun e => (hown _ e).2.1 rfl))).trans c6; have d6f : W2.frozen? ⟨w.heap.size + 1, 0, none⟩ = false := blk_frozen ((hk2 (w.heap.size + 1) (by omega) (by omega) (fun e => (hown _ e).2.1 rfl)).trans q6) 0)
      obtain ⟨v2, hSV2, hown2⟩ := hs2
      have e2 := (hk2 w.heap.size (by omega) (by omega) (fun e => (hown _ e).1 rfl)).trans q2
      have e6 := (hk2 (w.heap.size + 1) (by omega) (by omega) (fun e => (hown _ e).2.1 rfl)).trans q6
      refine ⟨?_, ?_, ?_⟩
      rotate_left 2
      · show ListI N S w.heap.size ad.block v (((pre ++ [x']).map Prod.snd).foldl pairT (x, l, full)) w _
        rw [hst]
        refine ⟨v2, ?_, ?_, ?_, hlen2, ?_, ?_, ?_, ?_, ?_⟩
        · exact (Below.heap_setCell W2 ⟨w.heap.size + 1, 0, none⟩ _ _ (by simp)).trans e2
        · exact blk_put e6 0 _ rfl
        · exact ⟨(Below.heap_setCell W2 ⟨w.heap.size + 1, 0, none⟩ _ _ (by simp; omega)).trans hSV2.1, hSV2.2.1, Kd.R_mono (Kd.R_far (Kd.R_mono (R_and hSV2.2.2 (fun k hk => show k ≠ w.heap.size + 1 by rcases hown2 k hk with h | h; exact (hown k h).2.1; omega)) (fun k hk => hk)) (p := ⟨w.heap.size + 1, 0, none⟩) (fun k hk => hk.2) _) (fun k hk => hk.1)⟩
        · intro k hk
          rcases hown2 k hk with h | h
          · exact hown k h
          · exact ⟨by omega, by omega, by omega, by omega⟩
        · simp; have := hb2.size; omega
        · intro b h1 h2 h3
          refine (Below.heap_setCell W2 ⟨w.heap.size + 1, 0, none⟩ _ _ (by simp; omega)).trans ((hk2 b (by omega) h2 (fun e => ?_)).trans (hkp b h1 h2 h3))
          rcases hov b e with h | h
          · exact h3 h
          · omega
        · intro k hk
          rcases hown2 k hk with h | h
          · exact hov k h
          · exact .inr (by omega)
        · exact (hB.trans hb2).setCell (p := ⟨w.heap.size + 1, 0, none⟩) (by simp; omega) _
      · exact ((keepsOthers_put hSV hk2 hb2.size).trans (KeepsOthers.setCell _ _ _)).from _
      · exact ⟨(Below.heap_setCell W2 ⟨w.heap.size + 1, 0, none⟩ _ _ (by simp)).trans (hk2 _ (by omega) (by omega) (fun e => (hown _ e).2.2.1 rfl)), (Below.heap_setCell W2 ⟨w.heap.size + 1, 0, none⟩ _ _ (by simp; omega)).trans (hk2 _ (by omega) hadS (fun e => (hown _ e).2.2.2 rfl))⟩
    case done =>
      rintro D ys W hD rfl ⟨v', q2, q6, hSV, hlen, hown, hsz, hkp, hov, hB⟩ hK
      have hlp : listP l full xs = ((backTo zs zs.length).map Prod.snd).foldl pairT (x, l, full) := by
        unfold listP
        rw [if_neg h0, hm, Nat.add_sub_cancel, ← hzs, hzl]
        have : xs[m]?.getD 0 = x := by rw [← hx]; simp [rd, List.getD]
        rw [this]
      obtain ⟨st, hst⟩ : ∃ st, st = ((backTo zs zs.length).map Prod.snd).foldl pairT (x, l, full) := ⟨_, rfl⟩
      rw [← hst] at hlp q6 hSV hlen
      clear hst
      have c6 : W.cell? ⟨w.heap.size + 1, 0, none⟩ = some (.int .i64 st.1) := (blk_cell q6 0).trans rfl
      gi_wp2
      refine ⟨by simp, .inl ⟨_, _, rfl, run_takeDeferred hK, ?_⟩⟩
      rw [hlp]
      refine ⟨_, results_tmp rfl _ _ _, rfl, ⟨v', ?_, hov⟩, ?_, ?_⟩
      · have hDS : S ≠ D := by omega
        exact ⟨(World.putObj_heap_other hDS).trans hSV.1, hSV.2.1, Kd.R_mono (R_putObj hSV.2.2 hK rfl) (fun k hk => hk)⟩
      · exact fun b h1 h2 h3 => (World.putObj_heap_other (by omega)).trans (hkp b h1 h2 h3)
      · exact hB.trans (belowK_b (w := w) hN W D _ _ (by omega) hK rfl rfl)
    case stop =>
      rintro D c pre W _ _ h _
      exact h.elim
end
theorem fold_len : ∀ (ys : List Int) (st : Int × List S26 × Bool), st.2.1.length ≤ 400 → (ys.foldl pairT st).2.1.length ≤ 400
  | [], _, h => h
  | y :: ys, st, h => fold_len ys (pairT st y) (putT_len h)
theorem listP_len {l : List S26} {full : Bool} {xs : List Int} (hl : l.length ≤ 400) : (listP l full xs).2.1.length ≤ 400 := by
  unfold listP
  split
  · exact putT_len hl
  · exact fold_len _ _ hl
theorem impl_sheet_list.callsE {N S : Nat} {w0 w : World} {l : List S26} {full : Bool} (A1 : Option Addr) (c1 : Nat) (xs : List Int) (n : Nat) (r : Int × List S26 × Bool) (h : SE 107 N S w0 w l (.bool full)) (hl : l.length ≤ 400) (hn : xs.length = n) (hC : Kd.C (Kd.int .i64) w A1 xs.length xs) (hc : xs.length ≤ c1) (hf : FarT 107 N w A1 xs.length) (hr : listP l full xs = r) :
    Calls Try.prog 61 #[.pointer (some ⟨S, 0, none⟩), .slice A1 n c1] w fun e w' => e = .returned (.int .i64 r.1) ∧ SE 107 N S w0 w' r.2.1 (.bool r.2.2) ∧ KeepT 107 N w w' := by
  subst hr
  subst hn
  refine SE.call h (fun v hv => (impl_sheet_list.callsV S N v l full A1 c1 xs w hv hv.size hl hC hc (fun h0 ad e => ?_)).mono (fun e w' ⟨h1, h2⟩ => ⟨h1, se_of_V hv h2⟩))
  obtain ⟨_, ho⟩ := Kd.R_own hv.2.2
  rcases hf h0 ad e with hlt | ⟨cs, q, h4, h5, h6⟩
  · exact ⟨by have := hv.2.1; omega, fun e2 => by have := own_base ho _ e2; omega⟩
  · refine ⟨fun e2 => ?_, fun e2 => ?_⟩
    · rw [e2, hv.1] at h4
      injection h4 with h4
      injection h4 with _ h4
      exact h5 h4.symm
    · obtain ⟨cells, hcc⟩ := own_typed ho _ e2
      rw [hcc] at h4
      injection h4 with h4
      injection h4 with _ h4
      exact h6 h4.symm
end Go.Proofs.Ytomaeijhljpgdaa.G
namespace Go.Proofs.Ytomaeijhljpgdaa.G
open Go.RowKit Go.Proofs.YtomaeijhljpgdaaW.PrintWords Go.Proofs.YtomaeijhljpgdaaW.PrintLast Go.Proofs.YtomaeijhljpgdaaW.PrintMore
attribute [local go_sem] max2_int min2_int max_two min_two max_three min_three max_four min_four   -- for this text's walks alone
set_option linter.unusedVariables false
set_option linter.unusedSimpArgs false
theorem reps_ints {w : World} {base : Nat} {ok : Nat → Prop} : ∀ xs : List Int, Reps ((Kd.int .i64).M w base ok) (Kd.int .i64).sz xs (xs.map (Value.int .i64))
  | xs => ⟨by simp [Kd.int, Kd.scalar], fun j p h => by
    obtain ⟨hj, rfl⟩ := List.getElem?_eq_some_iff.1 h
    show ((xs.map (Value.int .i64)).drop (j * 1)).take 1 = [Value.int .i64 xs[j]]
    rw [Nat.mul_one, List.drop_eq_getElem_cons (by simpa using hj)]
    simp⟩
theorem far_row {T N : Nat} {w : World} {α : Type} {d : Kd α} {e base n c : Nat} {ok : Nat → Prop} {A : Option Addr} {xs : List α} (h : d.R e w base ok (.slice A n c) xs) (h1 : e ≠ T) (h2 : e ≠ 26) : FarT T N w A xs.length := fun _ ad he => by
  obtain ⟨_, hi⟩ := Kd.R_own h
  subst he
  obtain ⟨cells, hc⟩ := own_typed hi ad.block (by simp [Value.ownBlock])
  exact .inr ⟨cells, e, hc, h1, h2⟩
theorem R_not_ {w : World} {b g : Nat} {p : Nat → Prop} {v : Value} {l : List S26} (h : k26.R 26 w b p v l) (hp : ∀ k, v.ownBlock = some k → k ≠ g) : k26.R 26 w b (fun k => p k ∧ k ≠ g) v l := by
  obtain ⟨h0, inner, hown, hr⟩ := h
  exact ⟨fun k hk => ⟨h0 k hk, hp k hk⟩, inner, hown, hr.imp_ (fun x cs hm => by obtain rfl := k26_openM hm; exact k26_mkM _ _ _ _)⟩
theorem SE.far {Q N S : Nat} {w0 w : World} {x : Value} {l : List S26} {g q : Nat} {cs : Array Value} (h : SE Q N S w0 w l x) (hb : w.heap[g]? = some (.cells cs q (0, 0))) (h1 : q ≠ Q) (h2 : q ≠ 26) (h0 : w0.heap.size ≤ g) (hN : N ≤ g) (j : Nat) (u : Value) : SE Q N S w0 (w.setCell ⟨g, j, none⟩ u) l x := by
  obtain ⟨⟨v, hv⟩, hk, hB⟩ := h
  have hne : S ≠ g := fun e => by
    rw [← e, hv.1] at hb
    injection hb with hb
    injection hb with _ hb
    exact h1 hb.symm
  refine ⟨⟨v, blk_far hv.1 (p := ⟨g, j, none⟩) hne u, hv.2.1, Kd.R_mono (Kd.R_far (p := ⟨g, j, none⟩) (R_not_ hv.2.2 (fun k hk e => (Kd.R_ne hv.2.2 hb h2.symm) (by have e2 : k = g := e; rw [← e2]; exact hk.symm))) (fun k hk => hk.2) u) (fun _ hk => hk.1)⟩, hk.set (p := ⟨g, j, none⟩) h0 u, hB.setCell (p := ⟨g, j, none⟩) hN u⟩
end Go.Proofs.Ytomaeijhljpgdaa.G
