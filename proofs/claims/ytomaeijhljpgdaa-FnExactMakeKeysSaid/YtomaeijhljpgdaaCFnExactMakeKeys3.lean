/- Part 5 of the proof of FnExactMakeKeys: what the functions on its road do, and the plain laws. -/
import Derived.Test.YtomaeijhljpgdaaCFnExactMakeKeys2
namespace Go.Proofs.Ytomaeijhljpgdaa.G
open Go.RowKit Go.Proofs.YtomaeijhljpgdaaW.PrintWords Go.Proofs.YtomaeijhljpgdaaW.PrintLast Go.Proofs.YtomaeijhljpgdaaW.PrintMore
attribute [local go_sem] max2_int min2_int max_two min_two max_three min_three max_four min_four   -- for this text's walks alone
set_option linter.unusedVariables false
set_option linter.unusedSimpArgs false
def spec_MakeKeys.f (k : Nat) (l0 : List S26) (a1 a2 a3 a4 a5 a6 : Int) : Option (Int × Int × Int × Int × Int × List S26) := (spec_l9Asked.f k l0 [a1, a2, a3, a4]).bind fun c => (if c = 0 then ((spec_l9Word.f a5).bind fun u0 => (if u0 = true then ((spec_l9Word.f a6).bind fun u1 => (if u1 = true then (if (0 ≤ a3 ∧ a3 < (l0.length : Int)) ∧ (0 ≤ a4 ∧ a4 < (l0.length : Int)) then (if (rd_T26 l0 a3).f0 = 2 then (if (rd_T26 l0 a4).f0 = 6 then ((spec_l5Copy.f l0).bind fun lc => ((spec_l9Keys.f k lc 0 a1 a2 a3 a4 a5 a6).bind fun r => (if r.2.2.2.2.2 = 0 then (some (0, r.1, r.2.1, r.2.2.1, r.2.2.2.1, r.2.2.2.2.1)) else (some (r.2.2.2.2.2, 0, 0, 0, 0, []))))) else (some (1, 0, 0, 0, 0, []))) else (some (1, 0, 0, 0, 0, []))) else none) else (some (3, 0, 0, 0, 0, [])))) else (some (3, 0, 0, 0, 0, [])))) else (some (c, 0, 0, 0, 0, [])))
set_option maxHeartbeats 8000000 in
set_option maxRecDepth 100000 in
theorem spec_MakeKeys.calls (k : Nat) (A0 : Option Addr) (c0 : Nat) (l0 : List (S26)) (a1 a2 a3 a4 a5 a6 : Int) (r1 : Int) (r2 : Int) (r3 : Int) (r4 : Int) (r5 : Int) (r6 : List (S26)) (w : World) (hr0 : Kd.C k26 w A0 l0.length l0) (hc0 : l0.length ≤ c0) (h : spec_MakeKeys.f k l0 a1 a2 a3 a4 a5 a6 = some (r1, r2, r3, r4, r5, r6)) :
    Calls Try.prog 40 #[.slice A0 l0.length c0, .int .i64 a1, .int .i64 a2, .int .i64 a3, .int .i64 a4, .int .i64 a5, .int .i64 a6] w fun e w' => ∃ v5_ : Value, e = .returned (.agg #[.int .i64 r1, .int .i64 r2, .int .i64 r3, .int .i64 r4, .int .i64 r5, v5_]) ∧ Kd.R k26 26 w' w.heap.size (fun _ => True) v5_ r6 ∧ Below w.heap.size w w' := by
  unfold spec_MakeKeys.f at h
  obtain ⟨c, hf, h⟩ := Option.bind_eq_some_iff.mp h
  have HF := Aside0.mk hf
  clear hf
  have HR := Aside0.mk hr0
  have HC := Aside0.mk hc0
  have HB := Aside0.mk (Below.refl w.heap.size w)
  clear hr0 hc0
  by_cases hz : c = 0
  · rw [if_pos hz] at h
    subst hz
    obtain ⟨u0, hu0, h⟩ := Option.bind_eq_some_iff.mp h
    have HU0 := Aside0.mk hu0
    clear hu0
    cases u0 with
    | false =>
      rw [if_neg (by decide)] at h
      simp only [Option.some.injEq, Prod.mk.injEq] at h
      obtain ⟨rfl, rfl, rfl, rfl, rfl, rfl⟩ := h
      go_enter Try.func40, Try.ntmps40
      go_wp2_with (first | ((with_reducible refine gate_dst (N := 14) rfl ?_); refine box_event ?hg (N := 14) ?hd (cs := #[.int .i64 0, .int .i64 0, .int .i64 0, .int .i64 0, .int .i64 0, .slice none 0 0]) (t := 64) ?hr ?_; (case hd => rfl); (case hg => rfl); (case hr => first | (go_simp; done) | (go_simp; rfl)); intro g14 hg w2 hbox hb; have n0_ := Aside0.mk (below_step HB.out hb); have BK := Aside0.mk hbox; have GE := Aside0.mk (show w.heap.size ≤ g14 by rw [hg]; exact below_size HB.out); clear HB; have HB := n0_; clear n0_ hb hbox hg; (try clear q0_ q1_ q2_ q3_ q4_ q5_ f0_ f1_ f2_ f3_ f4_ f5_); have q0_ : w2.cell? ⟨g14, 0, none⟩ = some (.int .i64 0) := (blk_cell BK.out 0).trans rfl; have q1_ : w2.cell? ⟨g14, 1, none⟩ = some (.int .i64 0) := (blk_cell BK.out 1).trans rfl; have q2_ : w2.cell? ⟨g14, 2, none⟩ = some (.int .i64 0) := (blk_cell BK.out 2).trans rfl; have q3_ : w2.cell? ⟨g14, 3, none⟩ = some (.int .i64 0) := (blk_cell BK.out 3).trans rfl; have q4_ : w2.cell? ⟨g14, 4, none⟩ = some (.int .i64 0) := (blk_cell BK.out 4).trans rfl; have q5_ : w2.cell? ⟨g14, 5, none⟩ = some (.slice none 0 0) := (blk_cell BK.out 5).trans rfl; have f0_ := blk_frozen BK.out 0; have f1_ := blk_frozen BK.out 1; have f2_ := blk_frozen BK.out 2; have f3_ := blk_frozen BK.out 3; have f4_ := blk_frozen BK.out 4; have f5_ := blk_frozen BK.out 5) | ((with_reducible refine gate_dst (N := 23) rfl ?_); refine Kd.R_lit (Kd.int .i64) _ 2 ?hg (N := 23) ?hd (xs := ([a1, a2, a3, a4] : List Int)) (inner := [.int .i64 a1, .int .i64 a2, .int .i64 a3, .int .i64 a4]) (ok := fun _ => True) (okp := fun _ => True) ?hr ?hp (fun _ hk => hk) trivial (Below.refl _ _) (Nat.le_refl _) (by simp) ?_; (case hd => rfl); (case hg => rfl); (case hr => first | (go_simp; done) | (go_simp; rfl)); (case hp => exact reps_ints _); intro v1 w1 ho hb hg hn; clear hg hn; obtain ⟨AP, cP, eP⟩ := Kd.R_slice ho; subst eP; have HP := Aside0.mk ho; clear ho; have n0_ := Aside0.mk (below_step HB.out hb); have n1_ := Aside0.mk (blk_below BK.out hb); clear HB BK; have HB := n0_; have BK := n1_; clear n0_ n1_; clear hb; (try clear q0_ q1_ q2_ q3_ q4_ q5_ f0_ f1_ f2_ f3_ f4_ f5_); have q0_ : w1.cell? ⟨g14, 0, none⟩ = some (.int .i64 0) := (blk_cell BK.out 0).trans rfl; have q1_ : w1.cell? ⟨g14, 1, none⟩ = some (.int .i64 0) := (blk_cell BK.out 1).trans rfl; have q2_ : w1.cell? ⟨g14, 2, none⟩ = some (.int .i64 0) := (blk_cell BK.out 2).trans rfl; have q3_ : w1.cell? ⟨g14, 3, none⟩ = some (.int .i64 0) := (blk_cell BK.out 3).trans rfl; have q4_ : w1.cell? ⟨g14, 4, none⟩ = some (.int .i64 0) := (blk_cell BK.out 4).trans rfl; have q5_ : w1.cell? ⟨g14, 5, none⟩ = some (.slice none 0 0) := (blk_cell BK.out 5).trans rfl; have f0_ := blk_frozen BK.out 0; have f1_ := blk_frozen BK.out 1; have f2_ := blk_frozen BK.out 2; have f3_ := blk_frozen BK.out 3; have f4_ := blk_frozen BK.out 4; have f5_ := blk_frozen BK.out 5) | (go_at_call 74; refine (spec_l9Asked.calls k A0 c0 l0 AP cP [a1, a2, a3, a4] _ _ (Kd.C_below HR.out HB.out) HC.out (Kd.R_reads' HP.out).2.2 (Kd.R_reads' HP.out).2.1 HF.out).mono ?_; rintro e w4 ⟨rfl, hb⟩; have n0_ := Aside0.mk (below_step HB.out hb); have n1_ := Aside0.mk (blk_below BK.out hb); have n2_ := Aside0.mk (Kd.R_below HP.out hb); clear HB BK HP; have HB := n0_; have BK := n1_; have HP := n2_; clear n0_ n1_ n2_; clear hb; (try clear q0_ q1_ q2_ q3_ q4_ q5_ f0_ f1_ f2_ f3_ f4_ f5_); have q0_ : w4.cell? ⟨g14, 0, none⟩ = some (.int .i64 0) := (blk_cell BK.out 0).trans rfl; have q1_ : w4.cell? ⟨g14, 1, none⟩ = some (.int .i64 0) := (blk_cell BK.out 1).trans rfl; have q2_ : w4.cell? ⟨g14, 2, none⟩ = some (.int .i64 0) := (blk_cell BK.out 2).trans rfl; have q3_ : w4.cell? ⟨g14, 3, none⟩ = some (.int .i64 0) := (blk_cell BK.out 3).trans rfl; have q4_ : w4.cell? ⟨g14, 4, none⟩ = some (.int .i64 0) := (blk_cell BK.out 4).trans rfl; have q5_ : w4.cell? ⟨g14, 5, none⟩ = some (.slice none 0 0) := (blk_cell BK.out 5).trans rfl; have f0_ := blk_frozen BK.out 0; have f1_ := blk_frozen BK.out 1; have f2_ := blk_frozen BK.out 2; have f3_ := blk_frozen BK.out 3; have f4_ := blk_frozen BK.out 4; have f5_ := blk_frozen BK.out 5) | (go_at_call 66; refine (spec_l9Word.calls a5 _ _ HU0.out).mono ?_; rintro e w4 ⟨rfl, hd⟩; have hb := hd.below; clear hd; have n0_ := Aside0.mk (below_step HB.out hb); have n1_ := Aside0.mk (blk_below BK.out hb); clear HB BK; have HB := n0_; have BK := n1_; clear n0_ n1_; clear hb; (try clear q0_ q1_ q2_ q3_ q4_ q5_ f0_ f1_ f2_ f3_ f4_ f5_); have q0_ : w4.cell? ⟨g14, 0, none⟩ = some (.int .i64 0) := (blk_cell BK.out 0).trans rfl; have q1_ : w4.cell? ⟨g14, 1, none⟩ = some (.int .i64 0) := (blk_cell BK.out 1).trans rfl; have q2_ : w4.cell? ⟨g14, 2, none⟩ = some (.int .i64 0) := (blk_cell BK.out 2).trans rfl; have q3_ : w4.cell? ⟨g14, 3, none⟩ = some (.int .i64 0) := (blk_cell BK.out 3).trans rfl; have q4_ : w4.cell? ⟨g14, 4, none⟩ = some (.int .i64 0) := (blk_cell BK.out 4).trans rfl; have q5_ : w4.cell? ⟨g14, 5, none⟩ = some (.slice none 0 0) := (blk_cell BK.out 5).trans rfl; have f0_ := blk_frozen BK.out 0; have f1_ := blk_frozen BK.out 1; have f2_ := blk_frozen BK.out 2; have f3_ := blk_frozen BK.out 3; have f4_ := blk_frozen BK.out 4; have f5_ := blk_frozen BK.out 5))
      refine bodyPost_ret (results_cell_row rfl _ _ g14 64 #[.int .i64 3, .int .i64 0, .int .i64 0, .int .i64 0, .int .i64 0, .slice none 0 0] (0, 0) _ rfl (blk_put (blk_put (blk_put (blk_put (blk_put (blk_put BK.out 0 _ rfl) 1 _ rfl) 2 _ rfl) 3 _ rfl) 4 _ rfl) 5 _ rfl) Try.underlying64 rfl (by kernel_rfl)) rfl ?_
      exact ⟨_, rfl, Kd.R_nil _ _ _ _ _, below_set (below_set (below_set (below_set (below_set (below_set HB.out GE.out) GE.out) GE.out) GE.out) GE.out) GE.out⟩
    | true =>
      rw [if_pos rfl] at h
      obtain ⟨u1, hu1, h⟩ := Option.bind_eq_some_iff.mp h
      have HU1 := Aside0.mk hu1
      clear hu1
      cases u1 with
      | false =>
        rw [if_neg (by decide)] at h
        simp only [Option.some.injEq, Prod.mk.injEq] at h
        obtain ⟨rfl, rfl, rfl, rfl, rfl, rfl⟩ := h
        go_enter Try.func40, Try.ntmps40
        go_wp2_with (first | ((with_reducible refine gate_dst (N := 14) rfl ?_); refine box_event ?hg (N := 14) ?hd (cs := #[.int .i64 0, .int .i64 0, .int .i64 0, .int .i64 0, .int .i64 0, .slice none 0 0]) (t := 64) ?hr ?_; (case hd => rfl); (case hg => rfl); (case hr => first | (go_simp; done) | (go_simp; rfl)); intro g14 hg w2 hbox hb; have n0_ := Aside0.mk (below_step HB.out hb); have BK := Aside0.mk hbox; have GE := Aside0.mk (show w.heap.size ≤ g14 by rw [hg]; exact below_size HB.out); clear HB; have HB := n0_; clear n0_ hb hbox hg; (try clear q0_ q1_ q2_ q3_ q4_ q5_ f0_ f1_ f2_ f3_ f4_ f5_); have q0_ : w2.cell? ⟨g14, 0, none⟩ = some (.int .i64 0) := (blk_cell BK.out 0).trans rfl; have q1_ : w2.cell? ⟨g14, 1, none⟩ = some (.int .i64 0) := (blk_cell BK.out 1).trans rfl; have q2_ : w2.cell? ⟨g14, 2, none⟩ = some (.int .i64 0) := (blk_cell BK.out 2).trans rfl; have q3_ : w2.cell? ⟨g14, 3, none⟩ = some (.int .i64 0) := (blk_cell BK.out 3).trans rfl; have q4_ : w2.cell? ⟨g14, 4, none⟩ = some (.int .i64 0) := (blk_cell BK.out 4).trans rfl; have q5_ : w2.cell? ⟨g14, 5, none⟩ = some (.slice none 0 0) := (blk_cell BK.out 5).trans rfl; have f0_ := blk_frozen BK.out 0; have f1_ := blk_frozen BK.out 1; have f2_ := blk_frozen BK.out 2; have f3_ := blk_frozen BK.out 3; have f4_ := blk_frozen BK.out 4; have f5_ := blk_frozen BK.out 5) | ((with_reducible refine gate_dst (N := 23) rfl ?_); refine Kd.R_lit (Kd.int .i64) _ 2 ?hg (N := 23) ?hd (xs := ([a1, a2, a3, a4] : List Int)) (inner := [.int .i64 a1, .int .i64 a2, .int .i64 a3, .int .i64 a4]) (ok := fun _ => True) (okp := fun _ => True) ?hr ?hp (fun _ hk => hk) trivial (Below.refl _ _) (Nat.le_refl _) (by simp) ?_; (case hd => rfl); (case hg => rfl); (case hr => first | (go_simp; done) | (go_simp; rfl)); (case hp => exact reps_ints _); intro v1 w1 ho hb hg hn; clear hg hn; obtain ⟨AP, cP, eP⟩ := Kd.R_slice ho; subst eP; have HP := Aside0.mk ho; clear ho; have n0_ := Aside0.mk (below_step HB.out hb); have n1_ := Aside0.mk (blk_below BK.out hb); clear HB BK; have HB := n0_; have BK := n1_; clear n0_ n1_; clear hb; (try clear q0_ q1_ q2_ q3_ q4_ q5_ f0_ f1_ f2_ f3_ f4_ f5_); have q0_ : w1.cell? ⟨g14, 0, none⟩ = some (.int .i64 0) := (blk_cell BK.out 0).trans rfl; have q1_ : w1.cell? ⟨g14, 1, none⟩ = some (.int .i64 0) := (blk_cell BK.out 1).trans rfl; have q2_ : w1.cell? ⟨g14, 2, none⟩ = some (.int .i64 0) := (blk_cell BK.out 2).trans rfl; have q3_ : w1.cell? ⟨g14, 3, none⟩ = some (.int .i64 0) := (blk_cell BK.out 3).trans rfl; have q4_ : w1.cell? ⟨g14, 4, none⟩ = some (.int .i64 0) := (blk_cell BK.out 4).trans rfl; have q5_ : w1.cell? ⟨g14, 5, none⟩ = some (.slice none 0 0) := (blk_cell BK.out 5).trans rfl; have f0_ := blk_frozen BK.out 0; have f1_ := blk_frozen BK.out 1; have f2_ := blk_frozen BK.out 2; have f3_ := blk_frozen BK.out 3; have f4_ := blk_frozen BK.out 4; have f5_ := blk_frozen BK.out 5) | (go_at_call 74; refine (spec_l9Asked.calls k A0 c0 l0 AP cP [a1, a2, a3, a4] _ _ (Kd.C_below HR.out HB.out) HC.out (Kd.R_reads' HP.out).2.2 (Kd.R_reads' HP.out).2.1 HF.out).mono ?_; rintro e w4 ⟨rfl, hb⟩; have n0_ := Aside0.mk (below_step HB.out hb); have n1_ := Aside0.mk (blk_below BK.out hb); have n2_ := Aside0.mk (Kd.R_below HP.out hb); clear HB BK HP; have HB := n0_; have BK := n1_; have HP := n2_; clear n0_ n1_ n2_; clear hb; (try clear q0_ q1_ q2_ q3_ q4_ q5_ f0_ f1_ f2_ f3_ f4_ f5_); have q0_ : w4.cell? ⟨g14, 0, none⟩ = some (.int .i64 0) := (blk_cell BK.out 0).trans rfl; have q1_ : w4.cell? ⟨g14, 1, none⟩ = some (.int .i64 0) := (blk_cell BK.out 1).trans rfl; have q2_ : w4.cell? ⟨g14, 2, none⟩ = some (.int .i64 0) := (blk_cell BK.out 2).trans rfl; have q3_ : w4.cell? ⟨g14, 3, none⟩ = some (.int .i64 0) := (blk_cell BK.out 3).trans rfl; have q4_ : w4.cell? ⟨g14, 4, none⟩ = some (.int .i64 0) := (blk_cell BK.out 4).trans rfl; have q5_ : w4.cell? ⟨g14, 5, none⟩ = some (.slice none 0 0) := (blk_cell BK.out 5).trans rfl; have f0_ := blk_frozen BK.out 0; have f1_ := blk_frozen BK.out 1; have f2_ := blk_frozen BK.out 2; have f3_ := blk_frozen BK.out 3; have f4_ := blk_frozen BK.out 4; have f5_ := blk_frozen BK.out 5) | (go_at_call 66; refine (spec_l9Word.calls a5 _ _ HU0.out).mono ?_; rintro e w4 ⟨rfl, hd⟩; have hb := hd.below; clear hd; have n0_ := Aside0.mk (below_step HB.out hb); have n1_ := Aside0.mk (blk_below BK.out hb); clear HB BK; have HB := n0_; have BK := n1_; clear n0_ n1_; clear hb; (try clear q0_ q1_ q2_ q3_ q4_ q5_ f0_ f1_ f2_ f3_ f4_ f5_); have q0_ : w4.cell? ⟨g14, 0, none⟩ = some (.int .i64 0) := (blk_cell BK.out 0).trans rfl; have q1_ : w4.cell? ⟨g14, 1, none⟩ = some (.int .i64 0) := (blk_cell BK.out 1).trans rfl; have q2_ : w4.cell? ⟨g14, 2, none⟩ = some (.int .i64 0) := (blk_cell BK.out 2).trans rfl; have q3_ : w4.cell? ⟨g14, 3, none⟩ = some (.int .i64 0) := (blk_cell BK.out 3).trans rfl; have q4_ : w4.cell? ⟨g14, 4, none⟩ = some (.int .i64 0) := (blk_cell BK.out 4).trans rfl; have q5_ : w4.cell? ⟨g14, 5, none⟩ = some (.slice none 0 0) := (blk_cell BK.out 5).trans rfl; have f0_ := blk_frozen BK.out 0; have f1_ := blk_frozen BK.out 1; have f2_ := blk_frozen BK.out 2; have f3_ := blk_frozen BK.out 3; have f4_ := blk_frozen BK.out 4; have f5_ := blk_frozen BK.out 5) | (go_at_call 66; refine (spec_l9Word.calls a6 _ _ HU1.out).mono ?_; rintro e w4 ⟨rfl, hd⟩; have hb := hd.below; clear hd; have n0_ := Aside0.mk (below_step HB.out hb); have n1_ := Aside0.mk (blk_below BK.out hb); clear HB BK; have HB := n0_; have BK := n1_; clear n0_ n1_; clear hb; (try clear q0_ q1_ q2_ q3_ q4_ q5_ f0_ f1_ f2_ f3_ f4_ f5_); have q0_ : w4.cell? ⟨g14, 0, none⟩ = some (.int .i64 0) := (blk_cell BK.out 0).trans rfl; have q1_ : w4.cell? ⟨g14, 1, none⟩ = some (.int .i64 0) := (blk_cell BK.out 1).trans rfl; have q2_ : w4.cell? ⟨g14, 2, none⟩ = some (.int .i64 0) := (blk_cell BK.out 2).trans rfl; have q3_ : w4.cell? ⟨g14, 3, none⟩ = some (.int .i64 0) := (blk_cell BK.out 3).trans rfl; have q4_ : w4.cell? ⟨g14, 4, none⟩ = some (.int .i64 0) := (blk_cell BK.out 4).trans rfl; have q5_ : w4.cell? ⟨g14, 5, none⟩ = some (.slice none 0 0) := (blk_cell BK.out 5).trans rfl; have f0_ := blk_frozen BK.out 0; have f1_ := blk_frozen BK.out 1; have f2_ := blk_frozen BK.out 2; have f3_ := blk_frozen BK.out 3; have f4_ := blk_frozen BK.out 4; have f5_ := blk_frozen BK.out 5))
        refine bodyPost_ret (results_cell_row rfl _ _ g14 64 #[.int .i64 3, .int .i64 0, .int .i64 0, .int .i64 0, .int .i64 0, .slice none 0 0] (0, 0) _ rfl (blk_put (blk_put (blk_put (blk_put (blk_put (blk_put BK.out 0 _ rfl) 1 _ rfl) 2 _ rfl) 3 _ rfl) 4 _ rfl) 5 _ rfl) Try.underlying64 rfl (by kernel_rfl)) rfl ?_
        exact ⟨_, rfl, Kd.R_nil _ _ _ _ _, below_set (below_set (below_set (below_set (below_set (below_set HB.out GE.out) GE.out) GE.out) GE.out) GE.out) GE.out⟩
      | true =>
        rw [if_pos rfl] at h
        by_cases hg : ((0 ≤ a3 ∧ a3 < (l0.length : Int)) ∧ (0 ≤ a4 ∧ a4 < (l0.length : Int)))
        rotate_left
        · rw [if_neg hg] at h; cases h
        rw [if_pos hg] at h
        obtain ⟨hg3, hg4⟩ := hg
        obtain ⟨adT, e, o0, o1, o2, o3⟩ := at_T26 HR.out a3 hg3.1 hg3.2
        obtain ⟨adU, e2, u0, u1, u2, u3⟩ := at_T26 HR.out a4 hg4.1 hg4.2
        subst e
        obtain rfl : adT = adU := by injection e2
        have HXO := Aside0.mk o0
        have HXH := Aside0.mk u0
        have p1 := eq_true hg3.1; have p2 := eq_true hg3.2; have p3 := eq_true hg4.1; have p4 := eq_true hg4.2
        clear o0 o1 o2 o3 u0 u1 u2 u3 e2 hg3 hg4
        generalize (rd_T26 l0 a3).f0 = oa at HXO h
        generalize (rd_T26 l0 a4).f0 = ob at HXH h
        by_cases h2 : oa = 2
        rotate_left
        · rw [if_neg h2] at h
          have b0 : (oa == 2) = false := by simpa using h2
          have b1 : (oa != 2) = true := by simpa using h2
          simp only [Option.some.injEq, Prod.mk.injEq] at h
          obtain ⟨rfl, rfl, rfl, rfl, rfl, rfl⟩ := h
          go_enter Try.func40, Try.ntmps40
          go_wp2_with (first | ((with_reducible refine gate_dst (N := 14) rfl ?_); refine box_event ?hg (N := 14) ?hd (cs := #[.int .i64 0, .int .i64 0, .int .i64 0, .int .i64 0, .int .i64 0, .slice none 0 0]) (t := 64) ?hr ?_; (case hd => rfl); (case hg => rfl); (case hr => first | (go_simp; done) | (go_simp; rfl)); intro g14 hg w2 hbox hb; have n0_ := Aside0.mk (below_step HB.out hb); have BK := Aside0.mk hbox; have GE := Aside0.mk (show w.heap.size ≤ g14 by rw [hg]; exact below_size HB.out); clear HB; have HB := n0_; clear n0_ hb hbox hg; (try clear q0_ q1_ q2_ q3_ q4_ q5_ f0_ f1_ f2_ f3_ f4_ f5_); have q0_ : w2.cell? ⟨g14, 0, none⟩ = some (.int .i64 0) := (blk_cell BK.out 0).trans rfl; have q1_ : w2.cell? ⟨g14, 1, none⟩ = some (.int .i64 0) := (blk_cell BK.out 1).trans rfl; have q2_ : w2.cell? ⟨g14, 2, none⟩ = some (.int .i64 0) := (blk_cell BK.out 2).trans rfl; have q3_ : w2.cell? ⟨g14, 3, none⟩ = some (.int .i64 0) := (blk_cell BK.out 3).trans rfl; have q4_ : w2.cell? ⟨g14, 4, none⟩ = some (.int .i64 0) := (blk_cell BK.out 4).trans rfl; have q5_ : w2.cell? ⟨g14, 5, none⟩ = some (.slice none 0 0) := (blk_cell BK.out 5).trans rfl; have f0_ := blk_frozen BK.out 0; have f1_ := blk_frozen BK.out 1; have f2_ := blk_frozen BK.out 2; have f3_ := blk_frozen BK.out 3; have f4_ := blk_frozen BK.out 4; have f5_ := blk_frozen BK.out 5) | ((with_reducible refine gate_dst (N := 23) rfl ?_); refine Kd.R_lit (Kd.int .i64) _ 2 ?hg (N := 23) ?hd (xs := ([a1, a2, a3, a4] : List Int)) (inner := [.int .i64 a1, .int .i64 a2, .int .i64 a3, .int .i64 a4]) (ok := fun _ => True) (okp := fun _ => True) ?hr ?hp (fun _ hk => hk) trivial (Below.refl _ _) (Nat.le_refl _) (by simp) ?_; (case hd => rfl); (case hg => rfl); (case hr => first | (go_simp; done) | (go_simp; rfl)); (case hp => exact reps_ints _); intro v1 w1 ho hb hg hn; clear hg hn; obtain ⟨AP, cP, eP⟩ := Kd.R_slice ho; subst eP; have HP := Aside0.mk ho; clear ho; have n0_ := Aside0.mk (below_step HB.out hb); have n1_ := Aside0.mk (blk_below BK.out hb); clear HB BK; have HB := n0_; have BK := n1_; clear n0_ n1_; clear hb; (try clear q0_ q1_ q2_ q3_ q4_ q5_ f0_ f1_ f2_ f3_ f4_ f5_); have q0_ : w1.cell? ⟨g14, 0, none⟩ = some (.int .i64 0) := (blk_cell BK.out 0).trans rfl; have q1_ : w1.cell? ⟨g14, 1, none⟩ = some (.int .i64 0) := (blk_cell BK.out 1).trans rfl; have q2_ : w1.cell? ⟨g14, 2, none⟩ = some (.int .i64 0) := (blk_cell BK.out 2).trans rfl; have q3_ : w1.cell? ⟨g14, 3, none⟩ = some (.int .i64 0) := (blk_cell BK.out 3).trans rfl; have q4_ : w1.cell? ⟨g14, 4, none⟩ = some (.int .i64 0) := (blk_cell BK.out 4).trans rfl; have q5_ : w1.cell? ⟨g14, 5, none⟩ = some (.slice none 0 0) := (blk_cell BK.out 5).trans rfl; have f0_ := blk_frozen BK.out 0; have f1_ := blk_frozen BK.out 1; have f2_ := blk_frozen BK.out 2; have f3_ := blk_frozen BK.out 3; have f4_ := blk_frozen BK.out 4; have f5_ := blk_frozen BK.out 5) | (go_at_call 74; refine (spec_l9Asked.calls k (some adT) c0 l0 AP cP [a1, a2, a3, a4] _ _ (Kd.C_below HR.out HB.out) HC.out (Kd.R_reads' HP.out).2.2 (Kd.R_reads' HP.out).2.1 HF.out).mono ?_; rintro e w4 ⟨rfl, hb⟩; have n0_ := Aside0.mk (below_step HB.out hb); have n1_ := Aside0.mk (blk_below BK.out hb); have n2_ := Aside0.mk (Kd.R_below HP.out hb); clear HB BK HP; have HB := n0_; have BK := n1_; have HP := n2_; clear n0_ n1_ n2_; clear hb; (try clear q0_ q1_ q2_ q3_ q4_ q5_ f0_ f1_ f2_ f3_ f4_ f5_); have q0_ : w4.cell? ⟨g14, 0, none⟩ = some (.int .i64 0) := (blk_cell BK.out 0).trans rfl; have q1_ : w4.cell? ⟨g14, 1, none⟩ = some (.int .i64 0) := (blk_cell BK.out 1).trans rfl; have q2_ : w4.cell? ⟨g14, 2, none⟩ = some (.int .i64 0) := (blk_cell BK.out 2).trans rfl; have q3_ : w4.cell? ⟨g14, 3, none⟩ = some (.int .i64 0) := (blk_cell BK.out 3).trans rfl; have q4_ : w4.cell? ⟨g14, 4, none⟩ = some (.int .i64 0) := (blk_cell BK.out 4).trans rfl; have q5_ : w4.cell? ⟨g14, 5, none⟩ = some (.slice none 0 0) := (blk_cell BK.out 5).trans rfl; have f0_ := blk_frozen BK.out 0; have f1_ := blk_frozen BK.out 1; have f2_ := blk_frozen BK.out 2; have f3_ := blk_frozen BK.out 3; have f4_ := blk_frozen BK.out 4; have f5_ := blk_frozen BK.out 5) | (go_at_call 66; refine (spec_l9Word.calls a5 _ _ HU0.out).mono ?_; rintro e w4 ⟨rfl, hd⟩; have hb := hd.below; clear hd; have n0_ := Aside0.mk (below_step HB.out hb); have n1_ := Aside0.mk (blk_below BK.out hb); clear HB BK; have HB := n0_; have BK := n1_; clear n0_ n1_; clear hb; (try clear q0_ q1_ q2_ q3_ q4_ q5_ f0_ f1_ f2_ f3_ f4_ f5_); have q0_ : w4.cell? ⟨g14, 0, none⟩ = some (.int .i64 0) := (blk_cell BK.out 0).trans rfl; have q1_ : w4.cell? ⟨g14, 1, none⟩ = some (.int .i64 0) := (blk_cell BK.out 1).trans rfl; have q2_ : w4.cell? ⟨g14, 2, none⟩ = some (.int .i64 0) := (blk_cell BK.out 2).trans rfl; have q3_ : w4.cell? ⟨g14, 3, none⟩ = some (.int .i64 0) := (blk_cell BK.out 3).trans rfl; have q4_ : w4.cell? ⟨g14, 4, none⟩ = some (.int .i64 0) := (blk_cell BK.out 4).trans rfl; have q5_ : w4.cell? ⟨g14, 5, none⟩ = some (.slice none 0 0) := (blk_cell BK.out 5).trans rfl; have f0_ := blk_frozen BK.out 0; have f1_ := blk_frozen BK.out 1; have f2_ := blk_frozen BK.out 2; have f3_ := blk_frozen BK.out 3; have f4_ := blk_frozen BK.out 4; have f5_ := blk_frozen BK.out 5) | (go_at_call 66; refine (spec_l9Word.calls a6 _ _ HU1.out).mono ?_; rintro e w4 ⟨rfl, hd⟩; have hb := hd.below; clear hd; have n0_ := Aside0.mk (below_step HB.out hb); have n1_ := Aside0.mk (blk_below BK.out hb); clear HB BK; have HB := n0_; have BK := n1_; clear n0_ n1_; clear hb; (try clear q0_ q1_ q2_ q3_ q4_ q5_ f0_ f1_ f2_ f3_ f4_ f5_); have q0_ : w4.cell? ⟨g14, 0, none⟩ = some (.int .i64 0) := (blk_cell BK.out 0).trans rfl; have q1_ : w4.cell? ⟨g14, 1, none⟩ = some (.int .i64 0) := (blk_cell BK.out 1).trans rfl; have q2_ : w4.cell? ⟨g14, 2, none⟩ = some (.int .i64 0) := (blk_cell BK.out 2).trans rfl; have q3_ : w4.cell? ⟨g14, 3, none⟩ = some (.int .i64 0) := (blk_cell BK.out 3).trans rfl; have q4_ : w4.cell? ⟨g14, 4, none⟩ = some (.int .i64 0) := (blk_cell BK.out 4).trans rfl; have q5_ : w4.cell? ⟨g14, 5, none⟩ = some (.slice none 0 0) := (blk_cell BK.out 5).trans rfl; have f0_ := blk_frozen BK.out 0; have f1_ := blk_frozen BK.out 1; have f2_ := blk_frozen BK.out 2; have f3_ := blk_frozen BK.out 3; have f4_ := blk_frozen BK.out 4; have f5_ := blk_frozen BK.out 5; have ho_ := pw_cell_below HB.out HXO.out; have hh_ := pw_cell_below HB.out HXH.out))
          refine bodyPost_ret (results_cell_row rfl _ _ g14 64 #[.int .i64 1, .int .i64 0, .int .i64 0, .int .i64 0, .int .i64 0, .slice none 0 0] (0, 0) _ rfl (blk_put (blk_put (blk_put (blk_put (blk_put (blk_put BK.out 0 _ rfl) 1 _ rfl) 2 _ rfl) 3 _ rfl) 4 _ rfl) 5 _ rfl) Try.underlying64 rfl (by kernel_rfl)) rfl ?_
          exact ⟨_, rfl, Kd.R_nil _ _ _ _ _, below_set (below_set (below_set (below_set (below_set (below_set HB.out GE.out) GE.out) GE.out) GE.out) GE.out) GE.out⟩
        rw [if_pos h2] at h
        subst h2
        by_cases h6 : ob = 6
        rotate_left
        · rw [if_neg h6] at h
          have b0 : (ob == 6) = false := by simpa using h6
          have b1 : (ob != 6) = true := by simpa using h6
          simp only [Option.some.injEq, Prod.mk.injEq] at h
          obtain ⟨rfl, rfl, rfl, rfl, rfl, rfl⟩ := h
          go_enter Try.func40, Try.ntmps40
          go_wp2_with (first | ((with_reducible refine gate_dst (N := 14) rfl ?_); refine box_event ?hg (N := 14) ?hd (cs := #[.int .i64 0, .int .i64 0, .int .i64 0, .int .i64 0, .int .i64 0, .slice none 0 0]) (t := 64) ?hr ?_; (case hd => rfl); (case hg => rfl); (case hr => first | (go_simp; done) | (go_simp; rfl)); intro g14 hg w2 hbox hb; have n0_ := Aside0.mk (below_step HB.out hb); have BK := Aside0.mk hbox; have GE := Aside0.mk (show w.heap.size ≤ g14 by rw [hg]; exact below_size HB.out); clear HB; have HB := n0_; clear n0_ hb hbox hg; (try clear q0_ q1_ q2_ q3_ q4_ q5_ f0_ f1_ f2_ f3_ f4_ f5_); have q0_ : w2.cell? ⟨g14, 0, none⟩ = some (.int .i64 0) := (blk_cell BK.out 0).trans rfl; have q1_ : w2.cell? ⟨g14, 1, none⟩ = some (.int .i64 0) := (blk_cell BK.out 1).trans rfl; have q2_ : w2.cell? ⟨g14, 2, none⟩ = some (.int .i64 0) := (blk_cell BK.out 2).trans rfl; have q3_ : w2.cell? ⟨g14, 3, none⟩ = some (.int .i64 0) := (blk_cell BK.out 3).trans rfl; have q4_ : w2.cell? ⟨g14, 4, none⟩ = some (.int .i64 0) := (blk_cell BK.out 4).trans rfl; have q5_ : w2.cell? ⟨g14, 5, none⟩ = some (.slice none 0 0) := (blk_cell BK.out 5).trans rfl; have f0_ := blk_frozen BK.out 0; have f1_ := blk_frozen BK.out 1; have f2_ := blk_frozen BK.out 2; have f3_ := blk_frozen BK.out 3; have f4_ := blk_frozen BK.out 4; have f5_ := blk_frozen BK.out 5) | ((with_reducible refine gate_dst (N := 23) rfl ?_); refine Kd.R_lit (Kd.int .i64) _ 2 ?hg (N := 23) ?hd (xs := ([a1, a2, a3, a4] : List Int)) (inner := [.int .i64 a1, .int .i64 a2, .int .i64 a3, .int .i64 a4]) (ok := fun _ => True) (okp := fun _ => True) ?hr ?hp (fun _ hk => hk) trivial (Below.refl _ _) (Nat.le_refl _) (by simp) ?_; (case hd => rfl); (case hg => rfl); (case hr => first | (go_simp; done) | (go_simp; rfl)); (case hp => exact reps_ints _); intro v1 w1 ho hb hg hn; clear hg hn; obtain ⟨AP, cP, eP⟩ := Kd.R_slice ho; subst eP; have HP := Aside0.mk ho; clear ho; have n0_ := Aside0.mk (below_step HB.out hb); have n1_ := Aside0.mk (blk_below BK.out hb); clear HB BK; have HB := n0_; have BK := n1_; clear n0_ n1_; clear hb; (try clear q0_ q1_ q2_ q3_ q4_ q5_ f0_ f1_ f2_ f3_ f4_ f5_); have q0_ : w1.cell? ⟨g14, 0, none⟩ = some (.int .i64 0) := (blk_cell BK.out 0).trans rfl; have q1_ : w1.cell? ⟨g14, 1, none⟩ = some (.int .i64 0) := (blk_cell BK.out 1).trans rfl; have q2_ : w1.cell? ⟨g14, 2, none⟩ = some (.int .i64 0) := (blk_cell BK.out 2).trans rfl; have q3_ : w1.cell? ⟨g14, 3, none⟩ = some (.int .i64 0) := (blk_cell BK.out 3).trans rfl; have q4_ : w1.cell? ⟨g14, 4, none⟩ = some (.int .i64 0) := (blk_cell BK.out 4).trans rfl; have q5_ : w1.cell? ⟨g14, 5, none⟩ = some (.slice none 0 0) := (blk_cell BK.out 5).trans rfl; have f0_ := blk_frozen BK.out 0; have f1_ := blk_frozen BK.out 1; have f2_ := blk_frozen BK.out 2; have f3_ := blk_frozen BK.out 3; have f4_ := blk_frozen BK.out 4; have f5_ := blk_frozen BK.out 5) | (go_at_call 74; refine (spec_l9Asked.calls k (some adT) c0 l0 AP cP [a1, a2, a3, a4] _ _ (Kd.C_below HR.out HB.out) HC.out (Kd.R_reads' HP.out).2.2 (Kd.R_reads' HP.out).2.1 HF.out).mono ?_; rintro e w4 ⟨rfl, hb⟩; have n0_ := Aside0.mk (below_step HB.out hb); have n1_ := Aside0.mk (blk_below BK.out hb); have n2_ := Aside0.mk (Kd.R_below HP.out hb); clear HB BK HP; have HB := n0_; have BK := n1_; have HP := n2_; clear n0_ n1_ n2_; clear hb; (try clear q0_ q1_ q2_ q3_ q4_ q5_ f0_ f1_ f2_ f3_ f4_ f5_); have q0_ : w4.cell? ⟨g14, 0, none⟩ = some (.int .i64 0) := (blk_cell BK.out 0).trans rfl; have q1_ : w4.cell? ⟨g14, 1, none⟩ = some (.int .i64 0) := (blk_cell BK.out 1).trans rfl; have q2_ : w4.cell? ⟨g14, 2, none⟩ = some (.int .i64 0) := (blk_cell BK.out 2).trans rfl; have q3_ : w4.cell? ⟨g14, 3, none⟩ = some (.int .i64 0) := (blk_cell BK.out 3).trans rfl; have q4_ : w4.cell? ⟨g14, 4, none⟩ = some (.int .i64 0) := (blk_cell BK.out 4).trans rfl; have q5_ : w4.cell? ⟨g14, 5, none⟩ = some (.slice none 0 0) := (blk_cell BK.out 5).trans rfl; have f0_ := blk_frozen BK.out 0; have f1_ := blk_frozen BK.out 1; have f2_ := blk_frozen BK.out 2; have f3_ := blk_frozen BK.out 3; have f4_ := blk_frozen BK.out 4; have f5_ := blk_frozen BK.out 5) | (go_at_call 66; refine (spec_l9Word.calls a5 _ _ HU0.out).mono ?_; rintro e w4 ⟨rfl, hd⟩; have hb := hd.below; clear hd; have n0_ := Aside0.mk (below_step HB.out hb); have n1_ := Aside0.mk (blk_below BK.out hb); clear HB BK; have HB := n0_; have BK := n1_; clear n0_ n1_; clear hb; (try clear q0_ q1_ q2_ q3_ q4_ q5_ f0_ f1_ f2_ f3_ f4_ f5_); have q0_ : w4.cell? ⟨g14, 0, none⟩ = some (.int .i64 0) := (blk_cell BK.out 0).trans rfl; have q1_ : w4.cell? ⟨g14, 1, none⟩ = some (.int .i64 0) := (blk_cell BK.out 1).trans rfl; have q2_ : w4.cell? ⟨g14, 2, none⟩ = some (.int .i64 0) := (blk_cell BK.out 2).trans rfl; have q3_ : w4.cell? ⟨g14, 3, none⟩ = some (.int .i64 0) := (blk_cell BK.out 3).trans rfl; have q4_ : w4.cell? ⟨g14, 4, none⟩ = some (.int .i64 0) := (blk_cell BK.out 4).trans rfl; have q5_ : w4.cell? ⟨g14, 5, none⟩ = some (.slice none 0 0) := (blk_cell BK.out 5).trans rfl; have f0_ := blk_frozen BK.out 0; have f1_ := blk_frozen BK.out 1; have f2_ := blk_frozen BK.out 2; have f3_ := blk_frozen BK.out 3; have f4_ := blk_frozen BK.out 4; have f5_ := blk_frozen BK.out 5) | (go_at_call 66; refine (spec_l9Word.calls a6 _ _ HU1.out).mono ?_; rintro e w4 ⟨rfl, hd⟩; have hb := hd.below; clear hd; have n0_ := Aside0.mk (below_step HB.out hb); have n1_ := Aside0.mk (blk_below BK.out hb); clear HB BK; have HB := n0_; have BK := n1_; clear n0_ n1_; clear hb; (try clear q0_ q1_ q2_ q3_ q4_ q5_ f0_ f1_ f2_ f3_ f4_ f5_); have q0_ : w4.cell? ⟨g14, 0, none⟩ = some (.int .i64 0) := (blk_cell BK.out 0).trans rfl; have q1_ : w4.cell? ⟨g14, 1, none⟩ = some (.int .i64 0) := (blk_cell BK.out 1).trans rfl; have q2_ : w4.cell? ⟨g14, 2, none⟩ = some (.int .i64 0) := (blk_cell BK.out 2).trans rfl; have q3_ : w4.cell? ⟨g14, 3, none⟩ = some (.int .i64 0) := (blk_cell BK.out 3).trans rfl; have q4_ : w4.cell? ⟨g14, 4, none⟩ = some (.int .i64 0) := (blk_cell BK.out 4).trans rfl; have q5_ : w4.cell? ⟨g14, 5, none⟩ = some (.slice none 0 0) := (blk_cell BK.out 5).trans rfl; have f0_ := blk_frozen BK.out 0; have f1_ := blk_frozen BK.out 1; have f2_ := blk_frozen BK.out 2; have f3_ := blk_frozen BK.out 3; have f4_ := blk_frozen BK.out 4; have f5_ := blk_frozen BK.out 5; have ho_ := pw_cell_below HB.out HXO.out; have hh_ := pw_cell_below HB.out HXH.out))
          refine bodyPost_ret (results_cell_row rfl _ _ g14 64 #[.int .i64 1, .int .i64 0, .int .i64 0, .int .i64 0, .int .i64 0, .slice none 0 0] (0, 0) _ rfl (blk_put (blk_put (blk_put (blk_put (blk_put (blk_put BK.out 0 _ rfl) 1 _ rfl) 2 _ rfl) 3 _ rfl) 4 _ rfl) 5 _ rfl) Try.underlying64 rfl (by kernel_rfl)) rfl ?_
          exact ⟨_, rfl, Kd.R_nil _ _ _ _ _, below_set (below_set (below_set (below_set (below_set (below_set HB.out GE.out) GE.out) GE.out) GE.out) GE.out) GE.out⟩
        rw [if_pos h6] at h
        subst h6
        obtain ⟨lc, hcp, h⟩ := Option.bind_eq_some_iff.mp h
        have HCP := Aside0.mk hcp
        obtain ⟨r, hk, h⟩ := Option.bind_eq_some_iff.mp h
        obtain ⟨k1, k2, k3, k4, lt, fl⟩ := r
        have HKK := Aside0.mk hk
        clear hk hcp
        dsimp only at h
        by_cases hc : fl = 0
        rotate_left
        · rw [if_neg hc] at h
          have hc0 : (fl == 0) = false := by simpa using hc
          have hc1 : (fl != 0) = true := by simpa using hc
          simp only [Option.some.injEq, Prod.mk.injEq] at h
          obtain ⟨rfl, rfl, rfl, rfl, rfl, rfl⟩ := h
          go_enter Try.func40, Try.ntmps40
          go_wp2_with (first | ((with_reducible refine gate_dst (N := 14) rfl ?_); refine box_event ?hg (N := 14) ?hd (cs := #[.int .i64 0, .int .i64 0, .int .i64 0, .int .i64 0, .int .i64 0, .slice none 0 0]) (t := 64) ?hr ?_; (case hd => rfl); (case hg => rfl); (case hr => first | (go_simp; done) | (go_simp; rfl)); intro g14 hg w2 hbox hb; have n0_ := Aside0.mk (below_step HB.out hb); have BK := Aside0.mk hbox; have GE := Aside0.mk (show w.heap.size ≤ g14 by rw [hg]; exact below_size HB.out); clear HB; have HB := n0_; clear n0_ hb hbox hg; (try clear q0_ q1_ q2_ q3_ q4_ q5_ f0_ f1_ f2_ f3_ f4_ f5_); have q0_ : w2.cell? ⟨g14, 0, none⟩ = some (.int .i64 0) := (blk_cell BK.out 0).trans rfl; have q1_ : w2.cell? ⟨g14, 1, none⟩ = some (.int .i64 0) := (blk_cell BK.out 1).trans rfl; have q2_ : w2.cell? ⟨g14, 2, none⟩ = some (.int .i64 0) := (blk_cell BK.out 2).trans rfl; have q3_ : w2.cell? ⟨g14, 3, none⟩ = some (.int .i64 0) := (blk_cell BK.out 3).trans rfl; have q4_ : w2.cell? ⟨g14, 4, none⟩ = some (.int .i64 0) := (blk_cell BK.out 4).trans rfl; have q5_ : w2.cell? ⟨g14, 5, none⟩ = some (.slice none 0 0) := (blk_cell BK.out 5).trans rfl; have f0_ := blk_frozen BK.out 0; have f1_ := blk_frozen BK.out 1; have f2_ := blk_frozen BK.out 2; have f3_ := blk_frozen BK.out 3; have f4_ := blk_frozen BK.out 4; have f5_ := blk_frozen BK.out 5) | ((with_reducible refine gate_dst (N := 23) rfl ?_); refine Kd.R_lit (Kd.int .i64) _ 2 ?hg (N := 23) ?hd (xs := ([a1, a2, a3, a4] : List Int)) (inner := [.int .i64 a1, .int .i64 a2, .int .i64 a3, .int .i64 a4]) (ok := fun _ => True) (okp := fun _ => True) ?hr ?hp (fun _ hk => hk) trivial (Below.refl _ _) (Nat.le_refl _) (by simp) ?_; (case hd => rfl); (case hg => rfl); (case hr => first | (go_simp; done) | (go_simp; rfl)); (case hp => exact reps_ints _); intro v1 w1 ho hb hg hn; clear hg hn; obtain ⟨AP, cP, eP⟩ := Kd.R_slice ho; subst eP; have HP := Aside0.mk ho; clear ho; have n0_ := Aside0.mk (below_step HB.out hb); have n1_ := Aside0.mk (blk_below BK.out hb); clear HB BK; have HB := n0_; have BK := n1_; clear n0_ n1_; clear hb; (try clear q0_ q1_ q2_ q3_ q4_ q5_ f0_ f1_ f2_ f3_ f4_ f5_); have q0_ : w1.cell? ⟨g14, 0, none⟩ = some (.int .i64 0) := (blk_cell BK.out 0).trans rfl; have q1_ : w1.cell? ⟨g14, 1, none⟩ = some (.int .i64 0) := (blk_cell BK.out 1).trans rfl; have q2_ : w1.cell? ⟨g14, 2, none⟩ = some (.int .i64 0) := (blk_cell BK.out 2).trans rfl; have q3_ : w1.cell? ⟨g14, 3, none⟩ = some (.int .i64 0) := (blk_cell BK.out 3).trans rfl; have q4_ : w1.cell? ⟨g14, 4, none⟩ = some (.int .i64 0) := (blk_cell BK.out 4).trans rfl; have q5_ : w1.cell? ⟨g14, 5, none⟩ = some (.slice none 0 0) := (blk_cell BK.out 5).trans rfl; have f0_ := blk_frozen BK.out 0; have f1_ := blk_frozen BK.out 1; have f2_ := blk_frozen BK.out 2; have f3_ := blk_frozen BK.out 3; have f4_ := blk_frozen BK.out 4; have f5_ := blk_frozen BK.out 5) | (go_at_call 74; refine (spec_l9Asked.calls k (some adT) c0 l0 AP cP [a1, a2, a3, a4] _ _ (Kd.C_below HR.out HB.out) HC.out (Kd.R_reads' HP.out).2.2 (Kd.R_reads' HP.out).2.1 HF.out).mono ?_; rintro e w4 ⟨rfl, hb⟩; have n0_ := Aside0.mk (below_step HB.out hb); have n1_ := Aside0.mk (blk_below BK.out hb); have n2_ := Aside0.mk (Kd.R_below HP.out hb); clear HB BK HP; have HB := n0_; have BK := n1_; have HP := n2_; clear n0_ n1_ n2_; clear hb; (try clear q0_ q1_ q2_ q3_ q4_ q5_ f0_ f1_ f2_ f3_ f4_ f5_); have q0_ : w4.cell? ⟨g14, 0, none⟩ = some (.int .i64 0) := (blk_cell BK.out 0).trans rfl; have q1_ : w4.cell? ⟨g14, 1, none⟩ = some (.int .i64 0) := (blk_cell BK.out 1).trans rfl; have q2_ : w4.cell? ⟨g14, 2, none⟩ = some (.int .i64 0) := (blk_cell BK.out 2).trans rfl; have q3_ : w4.cell? ⟨g14, 3, none⟩ = some (.int .i64 0) := (blk_cell BK.out 3).trans rfl; have q4_ : w4.cell? ⟨g14, 4, none⟩ = some (.int .i64 0) := (blk_cell BK.out 4).trans rfl; have q5_ : w4.cell? ⟨g14, 5, none⟩ = some (.slice none 0 0) := (blk_cell BK.out 5).trans rfl; have f0_ := blk_frozen BK.out 0; have f1_ := blk_frozen BK.out 1; have f2_ := blk_frozen BK.out 2; have f3_ := blk_frozen BK.out 3; have f4_ := blk_frozen BK.out 4; have f5_ := blk_frozen BK.out 5) | (go_at_call 66; refine (spec_l9Word.calls a5 _ _ HU0.out).mono ?_; rintro e w4 ⟨rfl, hd⟩; have hb := hd.below; clear hd; have n0_ := Aside0.mk (below_step HB.out hb); have n1_ := Aside0.mk (blk_below BK.out hb); clear HB BK; have HB := n0_; have BK := n1_; clear n0_ n1_; clear hb; (try clear q0_ q1_ q2_ q3_ q4_ q5_ f0_ f1_ f2_ f3_ f4_ f5_); have q0_ : w4.cell? ⟨g14, 0, none⟩ = some (.int .i64 0) := (blk_cell BK.out 0).trans rfl; have q1_ : w4.cell? ⟨g14, 1, none⟩ = some (.int .i64 0) := (blk_cell BK.out 1).trans rfl; have q2_ : w4.cell? ⟨g14, 2, none⟩ = some (.int .i64 0) := (blk_cell BK.out 2).trans rfl; have q3_ : w4.cell? ⟨g14, 3, none⟩ = some (.int .i64 0) := (blk_cell BK.out 3).trans rfl; have q4_ : w4.cell? ⟨g14, 4, none⟩ = some (.int .i64 0) := (blk_cell BK.out 4).trans rfl; have q5_ : w4.cell? ⟨g14, 5, none⟩ = some (.slice none 0 0) := (blk_cell BK.out 5).trans rfl; have f0_ := blk_frozen BK.out 0; have f1_ := blk_frozen BK.out 1; have f2_ := blk_frozen BK.out 2; have f3_ := blk_frozen BK.out 3; have f4_ := blk_frozen BK.out 4; have f5_ := blk_frozen BK.out 5) | (go_at_call 66; refine (spec_l9Word.calls a6 _ _ HU1.out).mono ?_; rintro e w4 ⟨rfl, hd⟩; have hb := hd.below; clear hd; have n0_ := Aside0.mk (below_step HB.out hb); have n1_ := Aside0.mk (blk_below BK.out hb); clear HB BK; have HB := n0_; have BK := n1_; clear n0_ n1_; clear hb; (try clear q0_ q1_ q2_ q3_ q4_ q5_ f0_ f1_ f2_ f3_ f4_ f5_); have q0_ : w4.cell? ⟨g14, 0, none⟩ = some (.int .i64 0) := (blk_cell BK.out 0).trans rfl; have q1_ : w4.cell? ⟨g14, 1, none⟩ = some (.int .i64 0) := (blk_cell BK.out 1).trans rfl; have q2_ : w4.cell? ⟨g14, 2, none⟩ = some (.int .i64 0) := (blk_cell BK.out 2).trans rfl; have q3_ : w4.cell? ⟨g14, 3, none⟩ = some (.int .i64 0) := (blk_cell BK.out 3).trans rfl; have q4_ : w4.cell? ⟨g14, 4, none⟩ = some (.int .i64 0) := (blk_cell BK.out 4).trans rfl; have q5_ : w4.cell? ⟨g14, 5, none⟩ = some (.slice none 0 0) := (blk_cell BK.out 5).trans rfl; have f0_ := blk_frozen BK.out 0; have f1_ := blk_frozen BK.out 1; have f2_ := blk_frozen BK.out 2; have f3_ := blk_frozen BK.out 3; have f4_ := blk_frozen BK.out 4; have f5_ := blk_frozen BK.out 5; have ho_ := pw_cell_below HB.out HXO.out; have hh_ := pw_cell_below HB.out HXH.out) | (go_at_call 67; refine (spec_l5Copy.calls (some adT) c0 l0 lc _ (Kd.C_below HR.out HB.out) HC.out HCP.out).mono ?_; rintro e w4 ⟨v5, rfl, ho, hb⟩; obtain ⟨A5, c5, e5⟩ := Kd.R_slice ho; subst e5; have HO := Aside0.mk (Kd.R_lower ho (below_size HB.out)); clear ho; have n0_ := Aside0.mk (below_step HB.out hb); have n1_ := Aside0.mk (blk_below BK.out hb); clear HB BK; have HB := n0_; have BK := n1_; clear n0_ n1_; clear hb; (try clear q0_ q1_ q2_ q3_ q4_ q5_ f0_ f1_ f2_ f3_ f4_ f5_); have q0_ : w4.cell? ⟨g14, 0, none⟩ = some (.int .i64 0) := (blk_cell BK.out 0).trans rfl; have q1_ : w4.cell? ⟨g14, 1, none⟩ = some (.int .i64 0) := (blk_cell BK.out 1).trans rfl; have q2_ : w4.cell? ⟨g14, 2, none⟩ = some (.int .i64 0) := (blk_cell BK.out 2).trans rfl; have q3_ : w4.cell? ⟨g14, 3, none⟩ = some (.int .i64 0) := (blk_cell BK.out 3).trans rfl; have q4_ : w4.cell? ⟨g14, 4, none⟩ = some (.int .i64 0) := (blk_cell BK.out 4).trans rfl; have q5_ : w4.cell? ⟨g14, 5, none⟩ = some (.slice none 0 0) := (blk_cell BK.out 5).trans rfl; have f0_ := blk_frozen BK.out 0; have f1_ := blk_frozen BK.out 1; have f2_ := blk_frozen BK.out 2; have f3_ := blk_frozen BK.out 3; have f4_ := blk_frozen BK.out 4; have f5_ := blk_frozen BK.out 5) | ((with_reducible refine gate_dst (N := 16) rfl ?_); refine box_event ?hg (N := 16) ?hd (cs := #[.slice none 0 0, .int .i64 0]) (t := 94) ?hr ?_; (case hd => rfl); (case hg => rfl); (case hr => first | (go_simp; done) | (go_simp; rfl)); intro gm hg w3 hbox hb; have BM := Aside0.mk hbox; have GM := Aside0.mk (show w.heap.size ≤ gm by rw [hg]; exact below_size HB.out); have NEM := Aside0.mk (show g14 ≠ gm by rw [hg]; exact Nat.ne_of_lt (blk_lt BK.out)); have NEM1 := NEM.out; have NEM2 := NEM.out.symm; have n9_ := Aside0.mk (R_below_ne HO.out hb (Nat.le_of_eq hg.symm)); clear HO; have HO := n9_; clear n9_; have n0_ := Aside0.mk (below_step HB.out hb); have n1_ := Aside0.mk (blk_below BK.out hb); clear HB BK; have HB := n0_; have BK := n1_; clear n0_ n1_; clear hb hbox hg; have m0_ : w3.cell? ⟨gm, 0, none⟩ = some (.slice none 0 0) := (blk_cell BM.out 0).trans rfl; have m1_ : w3.cell? ⟨gm, 1, none⟩ = some (.int .i64 0) := (blk_cell BM.out 1).trans rfl; have mf0_ := blk_frozen BM.out 0; have mf1_ := blk_frozen BM.out 1; (try clear q0_ q1_ q2_ q3_ q4_ q5_ f0_ f1_ f2_ f3_ f4_ f5_); have q0_ : w3.cell? ⟨g14, 0, none⟩ = some (.int .i64 0) := (blk_cell BK.out 0).trans rfl; have q1_ : w3.cell? ⟨g14, 1, none⟩ = some (.int .i64 0) := (blk_cell BK.out 1).trans rfl; have q2_ : w3.cell? ⟨g14, 2, none⟩ = some (.int .i64 0) := (blk_cell BK.out 2).trans rfl; have q3_ : w3.cell? ⟨g14, 3, none⟩ = some (.int .i64 0) := (blk_cell BK.out 3).trans rfl; have q4_ : w3.cell? ⟨g14, 4, none⟩ = some (.int .i64 0) := (blk_cell BK.out 4).trans rfl; have q5_ : w3.cell? ⟨g14, 5, none⟩ = some (.slice none 0 0) := (blk_cell BK.out 5).trans rfl; have f0_ := blk_frozen BK.out 0; have f1_ := blk_frozen BK.out 1; have f2_ := blk_frozen BK.out 2; have f3_ := blk_frozen BK.out 3; have f4_ := blk_frozen BK.out 4; have f5_ := blk_frozen BK.out 5) | (go_at_call 79; refine (spec_l9Keys.callsE k a1 a2 a3 a4 a5 a6 _ (SE.start (st_new BM.out GM.out HO.out)) HKK.out).mono ?_; rintro e w9 ⟨rfl, hs, hk⟩; clear hk; obtain ⟨⟨v9, hv⟩, hk, hB⟩ := hs; obtain ⟨A9, c9, e9⟩ := Kd.R_slice hv.2.2; subst e9; have HV := Aside0.mk hv; have BW := Aside0.mk (blk_keepT (blk_far (blk_far BK.out (p := ⟨gm, 0, none⟩) NEM.out _) (p := ⟨gm, 1, none⟩) NEM.out _) hk (by decide) (by decide)); have n0_ := Aside0.mk ((below_set (j := 1) (v := .int .i64 0) (below_set (j := 0) (v := .slice A5 lc.length c5) HB.out GM.out) GM.out).trans hB); clear HB BK HO BM hk hB hv; have HB := n0_; have BK := BW; clear n0_ BW; (try clear m0_ m1_ mf0_ mf1_); have m0_ : w9.cell? ⟨gm, 0, none⟩ = some _ := (blk_cell HV.out.1 0).trans rfl; have m1_ : w9.cell? ⟨gm, 1, none⟩ = some (.int .i64 fl) := (blk_cell HV.out.1 1).trans rfl; (try clear q0_ q1_ q2_ q3_ q4_ q5_ f0_ f1_ f2_ f3_ f4_ f5_); have q0_ : w9.cell? ⟨g14, 0, none⟩ = some (.int .i64 0) := (blk_cell BK.out 0).trans rfl; have q1_ : w9.cell? ⟨g14, 1, none⟩ = some (.int .i64 0) := (blk_cell BK.out 1).trans rfl; have q2_ : w9.cell? ⟨g14, 2, none⟩ = some (.int .i64 0) := (blk_cell BK.out 2).trans rfl; have q3_ : w9.cell? ⟨g14, 3, none⟩ = some (.int .i64 0) := (blk_cell BK.out 3).trans rfl; have q4_ : w9.cell? ⟨g14, 4, none⟩ = some (.int .i64 0) := (blk_cell BK.out 4).trans rfl; have q5_ : w9.cell? ⟨g14, 5, none⟩ = some (.slice none 0 0) := (blk_cell BK.out 5).trans rfl; have f0_ := blk_frozen BK.out 0; have f1_ := blk_frozen BK.out 1; have f2_ := blk_frozen BK.out 2; have f3_ := blk_frozen BK.out 3; have f4_ := blk_frozen BK.out 4; have f5_ := blk_frozen BK.out 5) | ((with_reducible refine gate_dst (N := 17) rfl ?_); refine box_event ?hg (N := 17) ?hd (cs := #[.int .i64 0, .int .i64 0, .int .i64 0, .int .i64 0]) (t := 62) ?hr ?_; (case hd => rfl); (case hg => rfl); (case hr => first | (go_simp; done) | (go_simp; rfl)); intro gl hg w11 hbox hb; have BL := Aside0.mk hbox; have GL := Aside0.mk (show w.heap.size ≤ gl by rw [hg]; exact below_size HB.out); have NE := Aside0.mk (show g14 ≠ gl by rw [hg]; exact Nat.ne_of_lt (blk_lt BK.out)); have NES := Aside0.mk (show gm ≠ gl by rw [hg]; exact Nat.ne_of_lt (blk_lt HV.out.1)); have ne1_ := NE.out; have ne2_ := NE.out.symm; have ne3_ := NES.out; have ne4_ := NES.out.symm; have n2_ := Aside0.mk (st_below HV.out hb); clear HV; have HV := n2_; clear n2_; have n0_ := Aside0.mk (below_step HB.out hb); have n1_ := Aside0.mk (blk_below BK.out hb); clear HB BK; have HB := n0_; have BK := n1_; clear n0_ n1_; clear hb hbox hg; have y0_ : w11.cell? ⟨gl, 0, none⟩ = some (.int .i64 0) := (blk_cell BL.out 0).trans rfl; have y1_ : w11.cell? ⟨gl, 1, none⟩ = some (.int .i64 0) := (blk_cell BL.out 1).trans rfl; have y2_ : w11.cell? ⟨gl, 2, none⟩ = some (.int .i64 0) := (blk_cell BL.out 2).trans rfl; have y3_ : w11.cell? ⟨gl, 3, none⟩ = some (.int .i64 0) := (blk_cell BL.out 3).trans rfl; have z0_ := blk_frozen BL.out 0; have z1_ := blk_frozen BL.out 1; have z2_ := blk_frozen BL.out 2; have z3_ := blk_frozen BL.out 3; (try clear m0_ m1_); have m0_ : w11.cell? ⟨gm, 0, none⟩ = some _ := (blk_cell HV.out.1 0).trans rfl; have m1_ : w11.cell? ⟨gm, 1, none⟩ = some _ := (blk_cell HV.out.1 1).trans rfl; (try clear q0_ q1_ q2_ q3_ q4_ q5_ f0_ f1_ f2_ f3_ f4_ f5_); have q0_ : w11.cell? ⟨g14, 0, none⟩ = some (.int .i64 0) := (blk_cell BK.out 0).trans rfl; have q1_ : w11.cell? ⟨g14, 1, none⟩ = some (.int .i64 0) := (blk_cell BK.out 1).trans rfl; have q2_ : w11.cell? ⟨g14, 2, none⟩ = some (.int .i64 0) := (blk_cell BK.out 2).trans rfl; have q3_ : w11.cell? ⟨g14, 3, none⟩ = some (.int .i64 0) := (blk_cell BK.out 3).trans rfl; have q4_ : w11.cell? ⟨g14, 4, none⟩ = some (.int .i64 0) := (blk_cell BK.out 4).trans rfl; have q5_ : w11.cell? ⟨g14, 5, none⟩ = some (.slice none 0 0) := (blk_cell BK.out 5).trans rfl; have f0_ := blk_frozen BK.out 0; have f1_ := blk_frozen BK.out 1; have f2_ := blk_frozen BK.out 2; have f3_ := blk_frozen BK.out 3; have f4_ := blk_frozen BK.out 4; have f5_ := blk_frozen BK.out 5))
          have n0_ := Aside0.mk (below_set (j := 3) (v := .int .i64 k4) (below_set (j := 2) (v := .int .i64 k3) (below_set (j := 1) (v := .int .i64 k2) (below_set (j := 0) (v := .int .i64 k1) HB.out GL.out) GL.out) GL.out) GL.out)
          have n1_ := Aside0.mk (blk_far (blk_far (blk_far (blk_far BK.out (p := ⟨gl, 0, none⟩) NE.out (.int .i64 k1)) (p := ⟨gl, 1, none⟩) NE.out (.int .i64 k2)) (p := ⟨gl, 2, none⟩) NE.out (.int .i64 k3)) (p := ⟨gl, 3, none⟩) NE.out (.int .i64 k4))
          have n2_ := Aside0.mk (st_far (st_far (st_far (st_far HV.out BL.out (by decide) (by decide) 0 (.int .i64 k1)) (blk_put BL.out 0 (.int .i64 k1) rfl) (by decide) (by decide) 1 (.int .i64 k2)) (blk_put (blk_put BL.out 0 (.int .i64 k1) rfl) 1 (.int .i64 k2) rfl) (by decide) (by decide) 2 (.int .i64 k3)) (blk_put (blk_put (blk_put BL.out 0 (.int .i64 k1) rfl) 1 (.int .i64 k2) rfl) 2 (.int .i64 k3) rfl) (by decide) (by decide) 3 (.int .i64 k4))
          have n3_ : Aside0 (((((w11.setCell ⟨gl, 0, none⟩ (.int .i64 k1)).setCell ⟨gl, 1, none⟩ (.int .i64 k2)).setCell ⟨gl, 2, none⟩ (.int .i64 k3)).setCell ⟨gl, 3, none⟩ (.int .i64 k4)).heap[gl]? = some (.cells #[.int .i64 k1, .int .i64 k2, .int .i64 k3, .int .i64 k4] 62 (0, 0))) := Aside0.mk (blk_put (blk_put (blk_put (blk_put BL.out 0 (.int .i64 k1) rfl) 1 (.int .i64 k2) rfl) 2 (.int .i64 k3) rfl) 3 (.int .i64 k4) rfl)
          clear HB BK HV BL
          have HB := n0_; have BK := n1_; have HV := n2_; have BL := n3_
          clear n0_ n1_ n2_ n3_
          refine bodyPost_ret (results_cell_row rfl _ _ g14 64 #[.int .i64 fl, .int .i64 0, .int .i64 0, .int .i64 0, .int .i64 0, .slice none 0 0] (0, 0) _ rfl (blk_put (blk_put (blk_put (blk_put (blk_put (blk_put BK.out 0 _ rfl) 1 _ rfl) 2 _ rfl) 3 _ rfl) 4 _ rfl) 5 _ rfl) Try.underlying64 rfl (by kernel_rfl)) rfl ?_
          exact ⟨_, rfl, Kd.R_nil _ _ _ _ _, below_set (below_set (below_set (below_set (below_set (below_set HB.out GE.out) GE.out) GE.out) GE.out) GE.out) GE.out⟩
        · rw [if_pos hc] at h
          have hc0 : (fl == 0) = true := by simpa using hc
          have hc1 : (fl != 0) = false := by simpa using hc
          simp only [Option.some.injEq, Prod.mk.injEq] at h
          obtain ⟨rfl, rfl, rfl, rfl, rfl, rfl⟩ := h
          go_enter Try.func40, Try.ntmps40
          go_wp2_with (first | ((with_reducible refine gate_dst (N := 14) rfl ?_); refine box_event ?hg (N := 14) ?hd (cs := #[.int .i64 0, .int .i64 0, .int .i64 0, .int .i64 0, .int .i64 0, .slice none 0 0]) (t := 64) ?hr ?_; (case hd => rfl); (case hg => rfl); (case hr => first | (go_simp; done) | (go_simp; rfl)); intro g14 hg w2 hbox hb; have n0_ := Aside0.mk (below_step HB.out hb); have BK := Aside0.mk hbox; have GE := Aside0.mk (show w.heap.size ≤ g14 by rw [hg]; exact below_size HB.out); clear HB; have HB := n0_; clear n0_ hb hbox hg; (try clear q0_ q1_ q2_ q3_ q4_ q5_ f0_ f1_ f2_ f3_ f4_ f5_); have q0_ : w2.cell? ⟨g14, 0, none⟩ = some (.int .i64 0) := (blk_cell BK.out 0).trans rfl; have q1_ : w2.cell? ⟨g14, 1, none⟩ = some (.int .i64 0) := (blk_cell BK.out 1).trans rfl; have q2_ : w2.cell? ⟨g14, 2, none⟩ = some (.int .i64 0) := (blk_cell BK.out 2).trans rfl; have q3_ : w2.cell? ⟨g14, 3, none⟩ = some (.int .i64 0) := (blk_cell BK.out 3).trans rfl; have q4_ : w2.cell? ⟨g14, 4, none⟩ = some (.int .i64 0) := (blk_cell BK.out 4).trans rfl; have q5_ : w2.cell? ⟨g14, 5, none⟩ = some (.slice none 0 0) := (blk_cell BK.out 5).trans rfl; have f0_ := blk_frozen BK.out 0; have f1_ := blk_frozen BK.out 1; have f2_ := blk_frozen BK.out 2; have f3_ := blk_frozen BK.out 3; have f4_ := blk_frozen BK.out 4; have f5_ := blk_frozen BK.out 5) | ((with_reducible refine gate_dst (N := 23) rfl ?_); refine Kd.R_lit (Kd.int .i64) _ 2 ?hg (N := 23) ?hd (xs := ([a1, a2, a3, a4] : List Int)) (inner := [.int .i64 a1, .int .i64 a2, .int .i64 a3, .int .i64 a4]) (ok := fun _ => True) (okp := fun _ => True) ?hr ?hp (fun _ hk => hk) trivial (Below.refl _ _) (Nat.le_refl _) (by simp) ?_; (case hd => rfl); (case hg => rfl); (case hr => first | (go_simp; done) | (go_simp; rfl)); (case hp => exact reps_ints _); intro v1 w1 ho hb hg hn; clear hg hn; obtain ⟨AP, cP, eP⟩ := Kd.R_slice ho; subst eP; have HP := Aside0.mk ho; clear ho; have n0_ := Aside0.mk (below_step HB.out hb); have n1_ := Aside0.mk (blk_below BK.out hb); clear HB BK; have HB := n0_; have BK := n1_; clear n0_ n1_; clear hb; (try clear q0_ q1_ q2_ q3_ q4_ q5_ f0_ f1_ f2_ f3_ f4_ f5_); have q0_ : w1.cell? ⟨g14, 0, none⟩ = some (.int .i64 0) := (blk_cell BK.out 0).trans rfl; have q1_ : w1.cell? ⟨g14, 1, none⟩ = some (.int .i64 0) := (blk_cell BK.out 1).trans rfl; have q2_ : w1.cell? ⟨g14, 2, none⟩ = some (.int .i64 0) := (blk_cell BK.out 2).trans rfl; have q3_ : w1.cell? ⟨g14, 3, none⟩ = some (.int .i64 0) := (blk_cell BK.out 3).trans rfl; have q4_ : w1.cell? ⟨g14, 4, none⟩ = some (.int .i64 0) := (blk_cell BK.out 4).trans rfl; have q5_ : w1.cell? ⟨g14, 5, none⟩ = some (.slice none 0 0) := (blk_cell BK.out 5).trans rfl; have f0_ := blk_frozen BK.out 0; have f1_ := blk_frozen BK.out 1; have f2_ := blk_frozen BK.out 2; have f3_ := blk_frozen BK.out 3; have f4_ := blk_frozen BK.out 4; have f5_ := blk_frozen BK.out 5) | (go_at_call 74; refine (spec_l9Asked.calls k (some adT) c0 l0 AP cP [a1, a2, a3, a4] _ _ (Kd.C_below HR.out HB.out) HC.out (Kd.R_reads' HP.out).2.2 (Kd.R_reads' HP.out).2.1 HF.out).mono ?_; rintro e w4 ⟨rfl, hb⟩; have n0_ := Aside0.mk (below_step HB.out hb); have n1_ := Aside0.mk (blk_below BK.out hb); have n2_ := Aside0.mk (Kd.R_below HP.out hb); clear HB BK HP; have HB := n0_; have BK := n1_; have HP := n2_; clear n0_ n1_ n2_; clear hb; (try clear q0_ q1_ q2_ q3_ q4_ q5_ f0_ f1_ f2_ f3_ f4_ f5_); have q0_ : w4.cell? ⟨g14, 0, none⟩ = some (.int .i64 0) := (blk_cell BK.out 0).trans rfl; have q1_ : w4.cell? ⟨g14, 1, none⟩ = some (.int .i64 0) := (blk_cell BK.out 1).trans rfl; have q2_ : w4.cell? ⟨g14, 2, none⟩ = some (.int .i64 0) := (blk_cell BK.out 2).trans rfl; have q3_ : w4.cell? ⟨g14, 3, none⟩ = some (.int .i64 0) := (blk_cell BK.out 3).trans rfl; have q4_ : w4.cell? ⟨g14, 4, none⟩ = some (.int .i64 0) := (blk_cell BK.out 4).trans rfl; have q5_ : w4.cell? ⟨g14, 5, none⟩ = some (.slice none 0 0) := (blk_cell BK.out 5).trans rfl; have f0_ := blk_frozen BK.out 0; have f1_ := blk_frozen BK.out 1; have f2_ := blk_frozen BK.out 2; have f3_ := blk_frozen BK.out 3; have f4_ := blk_frozen BK.out 4; have f5_ := blk_frozen BK.out 5) | (go_at_call 66; refine (spec_l9Word.calls a5 _ _ HU0.out).mono ?_; rintro e w4 ⟨rfl, hd⟩; have hb := hd.below; clear hd; have n0_ := Aside0.mk (below_step HB.out hb); have n1_ := Aside0.mk (blk_below BK.out hb); clear HB BK; have HB := n0_; have BK := n1_; clear n0_ n1_; clear hb; (try clear q0_ q1_ q2_ q3_ q4_ q5_ f0_ f1_ f2_ f3_ f4_ f5_); have q0_ : w4.cell? ⟨g14, 0, none⟩ = some (.int .i64 0) := (blk_cell BK.out 0).trans rfl; have q1_ : w4.cell? ⟨g14, 1, none⟩ = some (.int .i64 0) := (blk_cell BK.out 1).trans rfl; have q2_ : w4.cell? ⟨g14, 2, none⟩ = some (.int .i64 0) := (blk_cell BK.out 2).trans rfl; have q3_ : w4.cell? ⟨g14, 3, none⟩ = some (.int .i64 0) := (blk_cell BK.out 3).trans rfl; have q4_ : w4.cell? ⟨g14, 4, none⟩ = some (.int .i64 0) := (blk_cell BK.out 4).trans rfl; have q5_ : w4.cell? ⟨g14, 5, none⟩ = some (.slice none 0 0) := (blk_cell BK.out 5).trans rfl; have f0_ := blk_frozen BK.out 0; have f1_ := blk_frozen BK.out 1; have f2_ := blk_frozen BK.out 2; have f3_ := blk_frozen BK.out 3; have f4_ := blk_frozen BK.out 4; have f5_ := blk_frozen BK.out 5) | (go_at_call 66; refine (spec_l9Word.calls a6 _ _ HU1.out).mono ?_; rintro e w4 ⟨rfl, hd⟩; have hb := hd.below; clear hd; have n0_ := Aside0.mk (below_step HB.out hb); have n1_ := Aside0.mk (blk_below BK.out hb); clear HB BK; have HB := n0_; have BK := n1_; clear n0_ n1_; clear hb; (try clear q0_ q1_ q2_ q3_ q4_ q5_ f0_ f1_ f2_ f3_ f4_ f5_); have q0_ : w4.cell? ⟨g14, 0, none⟩ = some (.int .i64 0) := (blk_cell BK.out 0).trans rfl; have q1_ : w4.cell? ⟨g14, 1, none⟩ = some (.int .i64 0) := (blk_cell BK.out 1).trans rfl; have q2_ : w4.cell? ⟨g14, 2, none⟩ = some (.int .i64 0) := (blk_cell BK.out 2).trans rfl; have q3_ : w4.cell? ⟨g14, 3, none⟩ = some (.int .i64 0) := (blk_cell BK.out 3).trans rfl; have q4_ : w4.cell? ⟨g14, 4, none⟩ = some (.int .i64 0) := (blk_cell BK.out 4).trans rfl; have q5_ : w4.cell? ⟨g14, 5, none⟩ = some (.slice none 0 0) := (blk_cell BK.out 5).trans rfl; have f0_ := blk_frozen BK.out 0; have f1_ := blk_frozen BK.out 1; have f2_ := blk_frozen BK.out 2; have f3_ := blk_frozen BK.out 3; have f4_ := blk_frozen BK.out 4; have f5_ := blk_frozen BK.out 5; have ho_ := pw_cell_below HB.out HXO.out; have hh_ := pw_cell_below HB.out HXH.out) | (go_at_call 67; refine (spec_l5Copy.calls (some adT) c0 l0 lc _ (Kd.C_below HR.out HB.out) HC.out HCP.out).mono ?_; rintro e w4 ⟨v5, rfl, ho, hb⟩; obtain ⟨A5, c5, e5⟩ := Kd.R_slice ho; subst e5; have HO := Aside0.mk (Kd.R_lower ho (below_size HB.out)); clear ho; have n0_ := Aside0.mk (below_step HB.out hb); have n1_ := Aside0.mk (blk_below BK.out hb); clear HB BK; have HB := n0_; have BK := n1_; clear n0_ n1_; clear hb; (try clear q0_ q1_ q2_ q3_ q4_ q5_ f0_ f1_ f2_ f3_ f4_ f5_); have q0_ : w4.cell? ⟨g14, 0, none⟩ = some (.int .i64 0) := (blk_cell BK.out 0).trans rfl; have q1_ : w4.cell? ⟨g14, 1, none⟩ = some (.int .i64 0) := (blk_cell BK.out 1).trans rfl; have q2_ : w4.cell? ⟨g14, 2, none⟩ = some (.int .i64 0) := (blk_cell BK.out 2).trans rfl; have q3_ : w4.cell? ⟨g14, 3, none⟩ = some (.int .i64 0) := (blk_cell BK.out 3).trans rfl; have q4_ : w4.cell? ⟨g14, 4, none⟩ = some (.int .i64 0) := (blk_cell BK.out 4).trans rfl; have q5_ : w4.cell? ⟨g14, 5, none⟩ = some (.slice none 0 0) := (blk_cell BK.out 5).trans rfl; have f0_ := blk_frozen BK.out 0; have f1_ := blk_frozen BK.out 1; have f2_ := blk_frozen BK.out 2; have f3_ := blk_frozen BK.out 3; have f4_ := blk_frozen BK.out 4; have f5_ := blk_frozen BK.out 5) | ((with_reducible refine gate_dst (N := 16) rfl ?_); refine box_event ?hg (N := 16) ?hd (cs := #[.slice none 0 0, .int .i64 0]) (t := 94) ?hr ?_; (case hd => rfl); (case hg => rfl); (case hr => first | (go_simp; done) | (go_simp; rfl)); intro gm hg w3 hbox hb; have BM := Aside0.mk hbox; have GM := Aside0.mk (show w.heap.size ≤ gm by rw [hg]; exact below_size HB.out); have NEM := Aside0.mk (show g14 ≠ gm by rw [hg]; exact Nat.ne_of_lt (blk_lt BK.out)); have NEM1 := NEM.out; have NEM2 := NEM.out.symm; have n9_ := Aside0.mk (R_below_ne HO.out hb (Nat.le_of_eq hg.symm)); clear HO; have HO := n9_; clear n9_; have n0_ := Aside0.mk (below_step HB.out hb); have n1_ := Aside0.mk (blk_below BK.out hb); clear HB BK; have HB := n0_; have BK := n1_; clear n0_ n1_; clear hb hbox hg; have m0_ : w3.cell? ⟨gm, 0, none⟩ = some (.slice none 0 0) := (blk_cell BM.out 0).trans rfl; have m1_ : w3.cell? ⟨gm, 1, none⟩ = some (.int .i64 0) := (blk_cell BM.out 1).trans rfl; have mf0_ := blk_frozen BM.out 0; have mf1_ := blk_frozen BM.out 1; (try clear q0_ q1_ q2_ q3_ q4_ q5_ f0_ f1_ f2_ f3_ f4_ f5_); have q0_ : w3.cell? ⟨g14, 0, none⟩ = some (.int .i64 0) := (blk_cell BK.out 0).trans rfl; have q1_ : w3.cell? ⟨g14, 1, none⟩ = some (.int .i64 0) := (blk_cell BK.out 1).trans rfl; have q2_ : w3.cell? ⟨g14, 2, none⟩ = some (.int .i64 0) := (blk_cell BK.out 2).trans rfl; have q3_ : w3.cell? ⟨g14, 3, none⟩ = some (.int .i64 0) := (blk_cell BK.out 3).trans rfl; have q4_ : w3.cell? ⟨g14, 4, none⟩ = some (.int .i64 0) := (blk_cell BK.out 4).trans rfl; have q5_ : w3.cell? ⟨g14, 5, none⟩ = some (.slice none 0 0) := (blk_cell BK.out 5).trans rfl; have f0_ := blk_frozen BK.out 0; have f1_ := blk_frozen BK.out 1; have f2_ := blk_frozen BK.out 2; have f3_ := blk_frozen BK.out 3; have f4_ := blk_frozen BK.out 4; have f5_ := blk_frozen BK.out 5) | (go_at_call 79; refine (spec_l9Keys.callsE k a1 a2 a3 a4 a5 a6 _ (SE.start (st_new BM.out GM.out HO.out)) HKK.out).mono ?_; rintro e w9 ⟨rfl, hs, hk⟩; clear hk; obtain ⟨⟨v9, hv⟩, hk, hB⟩ := hs; obtain ⟨A9, c9, e9⟩ := Kd.R_slice hv.2.2; subst e9; have HV := Aside0.mk hv; have BW := Aside0.mk (blk_keepT (blk_far (blk_far BK.out (p := ⟨gm, 0, none⟩) NEM.out _) (p := ⟨gm, 1, none⟩) NEM.out _) hk (by decide) (by decide)); have n0_ := Aside0.mk ((below_set (j := 1) (v := .int .i64 0) (below_set (j := 0) (v := .slice A5 lc.length c5) HB.out GM.out) GM.out).trans hB); clear HB BK HO BM hk hB hv; have HB := n0_; have BK := BW; clear n0_ BW; (try clear m0_ m1_ mf0_ mf1_); have m0_ : w9.cell? ⟨gm, 0, none⟩ = some _ := (blk_cell HV.out.1 0).trans rfl; have m1_ : w9.cell? ⟨gm, 1, none⟩ = some (.int .i64 fl) := (blk_cell HV.out.1 1).trans rfl; (try clear q0_ q1_ q2_ q3_ q4_ q5_ f0_ f1_ f2_ f3_ f4_ f5_); have q0_ : w9.cell? ⟨g14, 0, none⟩ = some (.int .i64 0) := (blk_cell BK.out 0).trans rfl; have q1_ : w9.cell? ⟨g14, 1, none⟩ = some (.int .i64 0) := (blk_cell BK.out 1).trans rfl; have q2_ : w9.cell? ⟨g14, 2, none⟩ = some (.int .i64 0) := (blk_cell BK.out 2).trans rfl; have q3_ : w9.cell? ⟨g14, 3, none⟩ = some (.int .i64 0) := (blk_cell BK.out 3).trans rfl; have q4_ : w9.cell? ⟨g14, 4, none⟩ = some (.int .i64 0) := (blk_cell BK.out 4).trans rfl; have q5_ : w9.cell? ⟨g14, 5, none⟩ = some (.slice none 0 0) := (blk_cell BK.out 5).trans rfl; have f0_ := blk_frozen BK.out 0; have f1_ := blk_frozen BK.out 1; have f2_ := blk_frozen BK.out 2; have f3_ := blk_frozen BK.out 3; have f4_ := blk_frozen BK.out 4; have f5_ := blk_frozen BK.out 5) | ((with_reducible refine gate_dst (N := 17) rfl ?_); refine box_event ?hg (N := 17) ?hd (cs := #[.int .i64 0, .int .i64 0, .int .i64 0, .int .i64 0]) (t := 62) ?hr ?_; (case hd => rfl); (case hg => rfl); (case hr => first | (go_simp; done) | (go_simp; rfl)); intro gl hg w11 hbox hb; have BL := Aside0.mk hbox; have GL := Aside0.mk (show w.heap.size ≤ gl by rw [hg]; exact below_size HB.out); have NE := Aside0.mk (show g14 ≠ gl by rw [hg]; exact Nat.ne_of_lt (blk_lt BK.out)); have NES := Aside0.mk (show gm ≠ gl by rw [hg]; exact Nat.ne_of_lt (blk_lt HV.out.1)); have ne1_ := NE.out; have ne2_ := NE.out.symm; have ne3_ := NES.out; have ne4_ := NES.out.symm; have n2_ := Aside0.mk (st_below HV.out hb); clear HV; have HV := n2_; clear n2_; have n0_ := Aside0.mk (below_step HB.out hb); have n1_ := Aside0.mk (blk_below BK.out hb); clear HB BK; have HB := n0_; have BK := n1_; clear n0_ n1_; clear hb hbox hg; have y0_ : w11.cell? ⟨gl, 0, none⟩ = some (.int .i64 0) := (blk_cell BL.out 0).trans rfl; have y1_ : w11.cell? ⟨gl, 1, none⟩ = some (.int .i64 0) := (blk_cell BL.out 1).trans rfl; have y2_ : w11.cell? ⟨gl, 2, none⟩ = some (.int .i64 0) := (blk_cell BL.out 2).trans rfl; have y3_ : w11.cell? ⟨gl, 3, none⟩ = some (.int .i64 0) := (blk_cell BL.out 3).trans rfl; have z0_ := blk_frozen BL.out 0; have z1_ := blk_frozen BL.out 1; have z2_ := blk_frozen BL.out 2; have z3_ := blk_frozen BL.out 3; (try clear m0_ m1_); have m0_ : w11.cell? ⟨gm, 0, none⟩ = some _ := (blk_cell HV.out.1 0).trans rfl; have m1_ : w11.cell? ⟨gm, 1, none⟩ = some _ := (blk_cell HV.out.1 1).trans rfl; (try clear q0_ q1_ q2_ q3_ q4_ q5_ f0_ f1_ f2_ f3_ f4_ f5_); have q0_ : w11.cell? ⟨g14, 0, none⟩ = some (.int .i64 0) := (blk_cell BK.out 0).trans rfl; have q1_ : w11.cell? ⟨g14, 1, none⟩ = some (.int .i64 0) := (blk_cell BK.out 1).trans rfl; have q2_ : w11.cell? ⟨g14, 2, none⟩ = some (.int .i64 0) := (blk_cell BK.out 2).trans rfl; have q3_ : w11.cell? ⟨g14, 3, none⟩ = some (.int .i64 0) := (blk_cell BK.out 3).trans rfl; have q4_ : w11.cell? ⟨g14, 4, none⟩ = some (.int .i64 0) := (blk_cell BK.out 4).trans rfl; have q5_ : w11.cell? ⟨g14, 5, none⟩ = some (.slice none 0 0) := (blk_cell BK.out 5).trans rfl; have f0_ := blk_frozen BK.out 0; have f1_ := blk_frozen BK.out 1; have f2_ := blk_frozen BK.out 2; have f3_ := blk_frozen BK.out 3; have f4_ := blk_frozen BK.out 4; have f5_ := blk_frozen BK.out 5))
          have n0_ := Aside0.mk (below_set (j := 3) (v := .int .i64 k4) (below_set (j := 2) (v := .int .i64 k3) (below_set (j := 1) (v := .int .i64 k2) (below_set (j := 0) (v := .int .i64 k1) HB.out GL.out) GL.out) GL.out) GL.out)
          have n1_ := Aside0.mk (blk_far (blk_far (blk_far (blk_far BK.out (p := ⟨gl, 0, none⟩) NE.out (.int .i64 k1)) (p := ⟨gl, 1, none⟩) NE.out (.int .i64 k2)) (p := ⟨gl, 2, none⟩) NE.out (.int .i64 k3)) (p := ⟨gl, 3, none⟩) NE.out (.int .i64 k4))
          have n2_ := Aside0.mk (st_far (st_far (st_far (st_far HV.out BL.out (by decide) (by decide) 0 (.int .i64 k1)) (blk_put BL.out 0 (.int .i64 k1) rfl) (by decide) (by decide) 1 (.int .i64 k2)) (blk_put (blk_put BL.out 0 (.int .i64 k1) rfl) 1 (.int .i64 k2) rfl) (by decide) (by decide) 2 (.int .i64 k3)) (blk_put (blk_put (blk_put BL.out 0 (.int .i64 k1) rfl) 1 (.int .i64 k2) rfl) 2 (.int .i64 k3) rfl) (by decide) (by decide) 3 (.int .i64 k4))
          have n3_ : Aside0 (((((w11.setCell ⟨gl, 0, none⟩ (.int .i64 k1)).setCell ⟨gl, 1, none⟩ (.int .i64 k2)).setCell ⟨gl, 2, none⟩ (.int .i64 k3)).setCell ⟨gl, 3, none⟩ (.int .i64 k4)).heap[gl]? = some (.cells #[.int .i64 k1, .int .i64 k2, .int .i64 k3, .int .i64 k4] 62 (0, 0))) := Aside0.mk (blk_put (blk_put (blk_put (blk_put BL.out 0 (.int .i64 k1) rfl) 1 (.int .i64 k2) rfl) 2 (.int .i64 k3) rfl) 3 (.int .i64 k4) rfl)
          clear HB BK HV BL
          have HB := n0_; have BK := n1_; have HV := n2_; have BL := n3_
          clear n0_ n1_ n2_ n3_
          have HOA := Aside0.mk (show ∀ k, (.slice A9 lt.length c9 : Value).ownBlock = some k → k ≠ g14 from fun k hk e => (Kd.R_ne HV.out.2.2 BK.out (by decide)) (by rw [← e]; exact hk.symm))
          refine bodyPost_ret (results_cell_row rfl _ _ g14 64 #[.int .i64 0, .int .i64 k1, .int .i64 k2, .int .i64 k3, .int .i64 k4, .slice A9 lt.length c9] (0, 0) _ rfl (blk_put (blk_put (blk_put (blk_put (blk_put (blk_put BK.out 0 _ rfl) 1 _ rfl) 2 _ rfl) 3 _ rfl) 4 _ rfl) 5 _ rfl) Try.underlying64 rfl (by kernel_rfl)) rfl ?_
          exact ⟨_, rfl, Kd.R_mono (Kd.R_far (Kd.R_far (Kd.R_far (Kd.R_far (Kd.R_far (Kd.R_far (R_not HV.out.2.2 HOA.out) (p := ⟨g14, 0, none⟩) (fun k hk => hk) _) (p := ⟨g14, 1, none⟩) (fun k hk => hk) _) (p := ⟨g14, 2, none⟩) (fun k hk => hk) _) (p := ⟨g14, 3, none⟩) (fun k hk => hk) _) (p := ⟨g14, 4, none⟩) (fun k hk => hk) _) (p := ⟨g14, 5, none⟩) (fun k hk => hk) _) (fun _ _ => trivial), below_set (below_set (below_set (below_set (below_set (below_set HB.out GE.out) GE.out) GE.out) GE.out) GE.out) GE.out⟩
  · rw [if_neg hz] at h
    have hz0 : (c == 0) = false := by simpa using hz
    have hz1 : (c != 0) = true := by simpa using hz
    simp only [Option.some.injEq, Prod.mk.injEq] at h
    obtain ⟨rfl, rfl, rfl, rfl, rfl, rfl⟩ := h
    go_enter Try.func40, Try.ntmps40
    go_wp2_with (first | ((with_reducible refine gate_dst (N := 14) rfl ?_); refine box_event ?hg (N := 14) ?hd (cs := #[.int .i64 0, .int .i64 0, .int .i64 0, .int .i64 0, .int .i64 0, .slice none 0 0]) (t := 64) ?hr ?_; (case hd => rfl); (case hg => rfl); (case hr => first | (go_simp; done) | (go_simp; rfl)); intro g14 hg w2 hbox hb; have n0_ := Aside0.mk (below_step HB.out hb); have BK := Aside0.mk hbox; have GE := Aside0.mk (show w.heap.size ≤ g14 by rw [hg]; exact below_size HB.out); clear HB; have HB := n0_; clear n0_ hb hbox hg; (try clear q0_ q1_ q2_ q3_ q4_ q5_ f0_ f1_ f2_ f3_ f4_ f5_); have q0_ : w2.cell? ⟨g14, 0, none⟩ = some (.int .i64 0) := (blk_cell BK.out 0).trans rfl; have q1_ : w2.cell? ⟨g14, 1, none⟩ = some (.int .i64 0) := (blk_cell BK.out 1).trans rfl; have q2_ : w2.cell? ⟨g14, 2, none⟩ = some (.int .i64 0) := (blk_cell BK.out 2).trans rfl; have q3_ : w2.cell? ⟨g14, 3, none⟩ = some (.int .i64 0) := (blk_cell BK.out 3).trans rfl; have q4_ : w2.cell? ⟨g14, 4, none⟩ = some (.int .i64 0) := (blk_cell BK.out 4).trans rfl; have q5_ : w2.cell? ⟨g14, 5, none⟩ = some (.slice none 0 0) := (blk_cell BK.out 5).trans rfl; have f0_ := blk_frozen BK.out 0; have f1_ := blk_frozen BK.out 1; have f2_ := blk_frozen BK.out 2; have f3_ := blk_frozen BK.out 3; have f4_ := blk_frozen BK.out 4; have f5_ := blk_frozen BK.out 5) | ((with_reducible refine gate_dst (N := 23) rfl ?_); refine Kd.R_lit (Kd.int .i64) _ 2 ?hg (N := 23) ?hd (xs := ([a1, a2, a3, a4] : List Int)) (inner := [.int .i64 a1, .int .i64 a2, .int .i64 a3, .int .i64 a4]) (ok := fun _ => True) (okp := fun _ => True) ?hr ?hp (fun _ hk => hk) trivial (Below.refl _ _) (Nat.le_refl _) (by simp) ?_; (case hd => rfl); (case hg => rfl); (case hr => first | (go_simp; done) | (go_simp; rfl)); (case hp => exact reps_ints _); intro v1 w1 ho hb hg hn; clear hg hn; obtain ⟨AP, cP, eP⟩ := Kd.R_slice ho; subst eP; have HP := Aside0.mk ho; clear ho; have n0_ := Aside0.mk (below_step HB.out hb); have n1_ := Aside0.mk (blk_below BK.out hb); clear HB BK; have HB := n0_; have BK := n1_; clear n0_ n1_; clear hb; (try clear q0_ q1_ q2_ q3_ q4_ q5_ f0_ f1_ f2_ f3_ f4_ f5_); have q0_ : w1.cell? ⟨g14, 0, none⟩ = some (.int .i64 0) := (blk_cell BK.out 0).trans rfl; have q1_ : w1.cell? ⟨g14, 1, none⟩ = some (.int .i64 0) := (blk_cell BK.out 1).trans rfl; have q2_ : w1.cell? ⟨g14, 2, none⟩ = some (.int .i64 0) := (blk_cell BK.out 2).trans rfl; have q3_ : w1.cell? ⟨g14, 3, none⟩ = some (.int .i64 0) := (blk_cell BK.out 3).trans rfl; have q4_ : w1.cell? ⟨g14, 4, none⟩ = some (.int .i64 0) := (blk_cell BK.out 4).trans rfl; have q5_ : w1.cell? ⟨g14, 5, none⟩ = some (.slice none 0 0) := (blk_cell BK.out 5).trans rfl; have f0_ := blk_frozen BK.out 0; have f1_ := blk_frozen BK.out 1; have f2_ := blk_frozen BK.out 2; have f3_ := blk_frozen BK.out 3; have f4_ := blk_frozen BK.out 4; have f5_ := blk_frozen BK.out 5) | (go_at_call 74; refine (spec_l9Asked.calls k A0 c0 l0 AP cP [a1, a2, a3, a4] _ _ (Kd.C_below HR.out HB.out) HC.out (Kd.R_reads' HP.out).2.2 (Kd.R_reads' HP.out).2.1 HF.out).mono ?_; rintro e w4 ⟨rfl, hb⟩; have n0_ := Aside0.mk (below_step HB.out hb); have n1_ := Aside0.mk (blk_below BK.out hb); have n2_ := Aside0.mk (Kd.R_below HP.out hb); clear HB BK HP; have HB := n0_; have BK := n1_; have HP := n2_; clear n0_ n1_ n2_; clear hb; (try clear q0_ q1_ q2_ q3_ q4_ q5_ f0_ f1_ f2_ f3_ f4_ f5_); have q0_ : w4.cell? ⟨g14, 0, none⟩ = some (.int .i64 0) := (blk_cell BK.out 0).trans rfl; have q1_ : w4.cell? ⟨g14, 1, none⟩ = some (.int .i64 0) := (blk_cell BK.out 1).trans rfl; have q2_ : w4.cell? ⟨g14, 2, none⟩ = some (.int .i64 0) := (blk_cell BK.out 2).trans rfl; have q3_ : w4.cell? ⟨g14, 3, none⟩ = some (.int .i64 0) := (blk_cell BK.out 3).trans rfl; have q4_ : w4.cell? ⟨g14, 4, none⟩ = some (.int .i64 0) := (blk_cell BK.out 4).trans rfl; have q5_ : w4.cell? ⟨g14, 5, none⟩ = some (.slice none 0 0) := (blk_cell BK.out 5).trans rfl; have f0_ := blk_frozen BK.out 0; have f1_ := blk_frozen BK.out 1; have f2_ := blk_frozen BK.out 2; have f3_ := blk_frozen BK.out 3; have f4_ := blk_frozen BK.out 4; have f5_ := blk_frozen BK.out 5))
    refine bodyPost_ret (results_cell_row rfl _ _ g14 64 #[.int .i64 c, .int .i64 0, .int .i64 0, .int .i64 0, .int .i64 0, .slice none 0 0] (0, 0) _ rfl (blk_put (blk_put (blk_put (blk_put (blk_put (blk_put BK.out 0 _ rfl) 1 _ rfl) 2 _ rfl) 3 _ rfl) 4 _ rfl) 5 _ rfl) Try.underlying64 rfl (by kernel_rfl)) rfl ?_
    exact ⟨_, rfl, Kd.R_nil _ _ _ _ _, below_set (below_set (below_set (below_set (below_set (below_set HB.out GE.out) GE.out) GE.out) GE.out) GE.out) GE.out⟩
end Go.Proofs.Ytomaeijhljpgdaa.G
namespace Go.Proofs.Ytomaeijhljpgdaa.G
open Go.RowKit Go.Proofs.YtomaeijhljpgdaaW.PrintWords Go.Proofs.YtomaeijhljpgdaaW.PrintLast Go.Proofs.YtomaeijhljpgdaaW.PrintMore
attribute [local go_sem] max2_int min2_int max_two min_two max_three min_three max_four min_four   -- for this text's walks alone
set_option linter.unusedVariables false
set_option linter.unusedSimpArgs false
set_option maxHeartbeats 4000000 in
set_option maxRecDepth 100000 in
theorem impl_placesFault_1.calls (A0 : Option Addr) (n c0 B : Nat) (x : Int) (hn : n ≤ 9223372036854775807) (W : World) (hc : W.cell? ⟨B, 0, none⟩ = some (.slice A0 n c0)) :
    Calls Try.prog 94 (#[.int .i64 x] ++ #[.pointer (some ⟨B, 0, none⟩)]) W fun e w' => e = .returned (.bool (!decide (0 ≤ x ∧ x ≤ (n : Int) - 1))) ∧ Below W.heap.size W w' := by
  have hC := fun W' => impl_isPlace.calls A0 n c0 x hn W'
  generalize decide (0 ≤ x ∧ x ≤ (n : Int) - 1) = r at hC ⊢
  go_enter Try.func94, Try.ntmps94
  go_wp2_with (go_at_call 88; refine (hC _).mono ?_; rintro e w' ⟨rfl, hb⟩)
  go_ret
  exact ⟨rfl, hb⟩
def impl_placesFault.f (l0 : List S26) (l1 : List Int) : Option Int := (impl_TermsFault.f l0).bind fun c => (if c = 0 then (if l1.any (notIn l0) = true then some 3 else some 0) else some c)
set_option maxHeartbeats 4000000 in
set_option maxRecDepth 100000 in
theorem impl_placesFault.calls (A0 : Option Addr) (c0 : Nat) (l0 : List S26) (A1 : Option Addr) (c1 : Nat) (l1 : List Int) (r : Int) (w : World) (hr0 : Kd.C k26 w A0 l0.length l0) (hc0 : l0.length ≤ c0) (hr1 : Kd.C (Kd.int .i64) w A1 l1.length l1) (hc1 : l1.length ≤ c1) (h : impl_placesFault.f l0 l1 = some r) :
    Calls Try.prog 60 #[.slice A0 l0.length c0, .slice A1 l1.length c1] w fun e w' => e = .returned (.int .i64 r) ∧ Below w.heap.size w w' := by
  unfold impl_placesFault.f at h
  have hmf : ∀ (fn : Fn) (first cap : Array Value) (w : World), (Instr.makeFunc fn first cap).run Try.prog w = .ok (.func fn first cap) w := fun _ _ _ _ => rfl
  obtain ⟨c, hc, h⟩ := Option.bind_eq_some_iff.mp h
  have HF := Aside0.mk hc
  have HR0 := Aside0.mk hr0
  have HC0 := Aside0.mk hc0
  have HR1 := Aside0.mk hr1
  have HN0 := Aside0.mk hr0.2.1
  have HN1 := Aside0.mk hr1.2.1
  have HB := Aside0.mk (Below.refl w.heap.size w)
  clear hc hr0 hc0 hr1
  by_cases hz : c = 0
  · rw [if_pos hz] at h
    have hz0 : (c == 0) = true := by simpa using hz
    have hz1 : (c != 0) = false := by simpa using hz
    clear hz
    obtain ⟨b, hb⟩ : ∃ b, b = l1.any (notIn l0) := ⟨_, rfl⟩
    rw [← hb] at h
    have HBE := Aside0.mk hb.symm
    clear hb
    cases b with
    | true =>
      rw [if_pos rfl] at h
      obtain rfl := Option.some.inj h
      go_enter Try.func60, Try.ntmps60
      go_wp2_with (first | ((with_reducible refine gate_dst (N := 2) rfl ?_); refine box_event ?hg (N := 2) ?hd (cs := #[.slice A0 l0.length c0]) (t := 24) ?hr ?_; (case hd => rfl); (case hg => rfl); (case hr => first | (go_simp; done) | (go_simp; rfl)); intro g2 hg w2 hbox hb; have n0_ := Aside0.mk (below_step HB.out hb); have n1_ := Aside0.mk hbox; clear HB; have HB := n0_; have BK2 := n1_; clear n0_ n1_ hb hbox hg; have p0_ : w2.cell? ⟨g2, 0, none⟩ = some (.slice A0 l0.length c0) := (blk_cell BK2.out 0).trans rfl) | (go_at_call 14; with_reducible refine (impl_TermsFault.calls A0 c0 l0 c _ (Kd.C_below HR0.out HB.out) HC0.out HF.out).mono ?_; rintro e w3 ⟨rfl, hb⟩; have n0_ := Aside0.mk (below_step HB.out hb); have n1_ := Aside0.mk (blk_below BK2.out hb); clear HB BK2 hb p0_; have HB := n0_; have BK2 := n1_; clear n0_ n1_) | (go_at_call 85; refine (slices_ContainsFunc_int64_int64.calls 94 #[.pointer (some ⟨g2, 0, none⟩)] (notIn l0) A1 c1 l1 _ (enters_of Try.func94 (by kernel_rfl) rfl) (fun W x _ hB => (impl_placesFault_1.calls A0 l0.length c0 g2 x HN0.out W ((hB.cell (p := ⟨g2, 0, none⟩) (blk_lt BK2.out)).trans ((blk_cell BK2.out 0).trans rfl))).mono (fun _ _ h => ⟨h.1, below_step hB h.2⟩)) (Kd.C_below HR1.out HB.out) HN1.out).mono ?_; rintro e w4 ⟨he, hb⟩; rw [HBE.out] at he; subst he; have n0_ := Aside0.mk (below_step HB.out hb); clear HB hb; have HB := n0_; clear n0_))
      go_ret
      exact ⟨rfl, HB.out⟩
    | false =>
      rw [if_neg (by decide)] at h
      obtain rfl := Option.some.inj h
      go_enter Try.func60, Try.ntmps60
      go_wp2_with (first | ((with_reducible refine gate_dst (N := 2) rfl ?_); refine box_event ?hg (N := 2) ?hd (cs := #[.slice A0 l0.length c0]) (t := 24) ?hr ?_; (case hd => rfl); (case hg => rfl); (case hr => first | (go_simp; done) | (go_simp; rfl)); intro g2 hg w2 hbox hb; have n0_ := Aside0.mk (below_step HB.out hb); have n1_ := Aside0.mk hbox; clear HB; have HB := n0_; have BK2 := n1_; clear n0_ n1_ hb hbox hg; have p0_ : w2.cell? ⟨g2, 0, none⟩ = some (.slice A0 l0.length c0) := (blk_cell BK2.out 0).trans rfl) | (go_at_call 14; with_reducible refine (impl_TermsFault.calls A0 c0 l0 c _ (Kd.C_below HR0.out HB.out) HC0.out HF.out).mono ?_; rintro e w3 ⟨rfl, hb⟩; have n0_ := Aside0.mk (below_step HB.out hb); have n1_ := Aside0.mk (blk_below BK2.out hb); clear HB BK2 hb p0_; have HB := n0_; have BK2 := n1_; clear n0_ n1_) | (go_at_call 85; refine (slices_ContainsFunc_int64_int64.calls 94 #[.pointer (some ⟨g2, 0, none⟩)] (notIn l0) A1 c1 l1 _ (enters_of Try.func94 (by kernel_rfl) rfl) (fun W x _ hB => (impl_placesFault_1.calls A0 l0.length c0 g2 x HN0.out W ((hB.cell (p := ⟨g2, 0, none⟩) (blk_lt BK2.out)).trans ((blk_cell BK2.out 0).trans rfl))).mono (fun _ _ h => ⟨h.1, below_step hB h.2⟩)) (Kd.C_below HR1.out HB.out) HN1.out).mono ?_; rintro e w4 ⟨he, hb⟩; rw [HBE.out] at he; subst he; have n0_ := Aside0.mk (below_step HB.out hb); clear HB hb; have HB := n0_; clear n0_))
      go_ret
      exact ⟨rfl, HB.out⟩
  · rw [if_neg hz] at h
    obtain rfl := Option.some.inj h
    have hz0 : (c == 0) = false := by simpa using hz
    have hz1 : (c != 0) = true := by simpa using hz
    go_enter Try.func60, Try.ntmps60
    go_wp2_with (first | ((with_reducible refine gate_dst (N := 2) rfl ?_); refine box_event ?hg (N := 2) ?hd (cs := #[.slice A0 l0.length c0]) (t := 24) ?hr ?_; (case hd => rfl); (case hg => rfl); (case hr => first | (go_simp; done) | (go_simp; rfl)); intro g2 hg w2 hbox hb; have n0_ := Aside0.mk (below_step HB.out hb); have n1_ := Aside0.mk hbox; clear HB; have HB := n0_; have BK2 := n1_; clear n0_ n1_ hb hbox hg; have p0_ : w2.cell? ⟨g2, 0, none⟩ = some (.slice A0 l0.length c0) := (blk_cell BK2.out 0).trans rfl) | (go_at_call 14; with_reducible refine (impl_TermsFault.calls A0 c0 l0 c _ (Kd.C_below HR0.out HB.out) HC0.out HF.out).mono ?_; rintro e w3 ⟨rfl, hb⟩; have n0_ := Aside0.mk (below_step HB.out hb); have n1_ := Aside0.mk (blk_below BK2.out hb); clear HB BK2 hb p0_; have HB := n0_; have BK2 := n1_; clear n0_ n1_))
    go_ret
    exact ⟨rfl, HB.out⟩
end Go.Proofs.Ytomaeijhljpgdaa.G
namespace Go.Proofs.Ytomaeijhljpgdaa.G
open Go.RowKit Go.Proofs.YtomaeijhljpgdaaW.PrintWords Go.Proofs.YtomaeijhljpgdaaW.PrintLast Go.Proofs.YtomaeijhljpgdaaW.PrintMore
attribute [local go_sem] max2_int min2_int max_two min_two max_three min_three max_four min_four   -- for this text's walks alone
set_option linter.unusedVariables false
set_option linter.unusedSimpArgs false
def impl_isName.f (a0 : Int) : Option (Bool) := (impl_in.f a0 0 9999).bind fun t476 => (some t476)
set_option maxHeartbeats 8000000 in
set_option maxRecDepth 100000 in
theorem impl_isName.calls (a0 : Int) (r : Bool) (w : World) (h : impl_isName.f a0 = some r) :
  Calls Try.prog 101 #[.int .i64 a0] w fun e w' => e = .returned (.bool r) ∧ Drawn0 w w' := by
 have H : ((impl_in.f a0 0 9999).bind fun t476 => (some t476)) = some r := h
 clear h
 replace H := Option.bind_eq_some_iff.mp H
 obtain ⟨t476, A20, H⟩ := H
 try dsimp only at H
 have A2 := Aside0.mk A20
 clear A20
 obtain rfl := Option.some.inj H
 go_enter Try.func101, Try.ntmps101
 go_wp2_with (first | ((with_reducible refine gate_callee (f := 64) rfl ?_); refine goesL_ (some 4) rfl rfl Try.func64 (by kernel_rfl) rfl #[.int .i64 a0, .int .i64 0, .int .i64 9999] rfl (by (try simp only [List.map_toArray, List.map_cons, List.map_nil]); first | done | rfl | (simp only [List.length_drop, List.length_take]; rfl)) ?_; (with_reducible refine (impl_in.calls a0 0 9999 t476 _ A2.out).mono ?_); rintro e w' ⟨rfl, ⟨nd, rfl⟩⟩; refine ⟨_, rfl, ?_⟩))
 go_ret
 exact ⟨by first | rfl | (simp; done) | (simp [*]; done), by repeat (first | exact Drawn0.refl _ | apply Drawn0.step)⟩
end Go.Proofs.Ytomaeijhljpgdaa.G
namespace Go.Proofs.Ytomaeijhljpgdaa.G
open Go.RowKit Go.Proofs.YtomaeijhljpgdaaW.PrintWords Go.Proofs.YtomaeijhljpgdaaW.PrintLast Go.Proofs.YtomaeijhljpgdaaW.PrintMore
attribute [local go_sem] max2_int min2_int max_two min_two max_three min_three max_four min_four   -- for this text's walks alone
set_option linter.unusedVariables false
set_option linter.unusedSimpArgs false
def impl_namesFault.l0 : Nat → Int → List Int → Int → Int → Option (Int)
 | 0, _, _, _, _ => none
 | k + 1, x7, x13, x14, x15 => if x15 < x14 then (if 0 ≤ x15 then (if x15 < (x13.length : Int) then (if x7 = 0 then ((impl_isName.f (rd x13 x15)).bind fun t479 => (if t479 = true then (impl_namesFault.l0 k x7 x13 x14 (wrap64 (x15 + 1))) else (impl_namesFault.l0 k 3 x13 x14 (wrap64 (x15 + 1))))) else (impl_namesFault.l0 k x7 x13 x14 (wrap64 (x15 + 1)))) else (none)) else (none)) else (some x7)
def impl_namesFault.f (k : Nat) (l0 : List (S26)) (l1 : List Int) (l2 : List Int) : Option (Int) := (impl_placesFault.f l0 l2).bind fun t477 => (impl_namesFault.l0 k t477 l1 (l1.length : Int) 0)
set_option maxHeartbeats 8000000 in
set_option maxRecDepth 100000 in
theorem impl_namesFault.calls (k : Nat) (A0 : Option Addr) (c0 : Nat) (l0 : List (S26)) (A1 : Option Addr) (c1 : Nat) (l1 : List Int) (A2 : Option Addr) (c2 : Nat) (l2 : List Int) (r : Int) (w : World) (hr0 : Kd.C k26 w A0 l0.length l0) (hc0 : l0.length ≤ c0) (hr1 : Kd.C (Kd.int .i64) w A1 l1.length l1) (hc1 : l1.length ≤ c1) (hr2 : Kd.C (Kd.int .i64) w A2 l2.length l2) (hc2 : l2.length ≤ c2) (h : impl_namesFault.f k l0 l1 l2 = some r) :
  Calls Try.prog 70 #[.slice A0 l0.length c0, .slice A1 l1.length c1, .slice A2 l2.length c2] w fun e w' => e = .returned (.int .i64 r) ∧ Below w.heap.size w w' := by
 have HR0 := Aside0.mk hr0
 have HC0 := Aside0.mk hc0
 clear hr0 hc0
 have HR1 := Aside0.mk hr1
 have HC1 := Aside0.mk hc1
 clear hr1 hc1
 have HR2 := Aside0.mk hr2
 have HC2 := Aside0.mk hc2
 clear hr2 hc2
 have HB := Aside0.mk (Below.refl w.heap.size w)
 have H : ((impl_placesFault.f l0 l2).bind fun t477 => (impl_namesFault.l0 k t477 l1 (l1.length : Int) 0)) = some r := h
 clear h
 replace H := Option.bind_eq_some_iff.mp H
 obtain ⟨t477, A40, H⟩ := H
 try dsimp only at H
 have A4 := Aside0.mk A40
 clear A40
 have H' := Aside0.mk H
 clear H
 go_enter Try.func70, Try.ntmps70
 go_wp2_with (first | ((with_reducible refine gate_callee (f := 60) rfl ?_); refine goesL_ (some 12) rfl rfl Try.func60 (by kernel_rfl) rfl #[.slice A0 l0.length c0, .slice A2 l2.length c2] rfl (by (try simp only [List.map_toArray, List.map_cons, List.map_nil]); first | done | rfl | (simp only [List.length_drop, List.length_take]; rfl)) ?_; (with_reducible refine (impl_placesFault.calls _ _ l0 _ _ l2 t477 _ ?side1 ?side2 ?side3 ?side4 A4.out).mono ?_); (case side1 => repeat (first | exact HR0.out | (with_reducible refine Kd.C_alloc ?_ _) | (with_reducible refine Kd.C_drewN ?_ _) | (with_reducible refine Kd.C_drew ?_))); (case side2 => exact HC0.out); (case side3 => repeat (first | exact HR2.out | (with_reducible refine Kd.C_alloc ?_ _) | (with_reducible refine Kd.C_drewN ?_ _) | (with_reducible refine Kd.C_drew ?_))); (case side4 => exact HC2.out); rintro e w5 ⟨rfl, hb⟩; refine ⟨_, rfl, ?_⟩; have n0_ := Aside0.mk (below_step (by repeat (first | (with_reducible first | exact HB.out | apply below_alloc | apply pw_below_drewN | apply below_drew1) | exact HB.out)) hb); clear HB; have HB := n0_; clear n0_; (try clear hb); (try clear hb2); (try clear hk); (try clear hi)))
 go_loopg [7, 15] k (fun kq v7 v15 w' => ∃ (x7_1 : Int) (x15_1 : Int), v7 = .int .i64 x7_1 ∧ v15 = .int .i64 x15_1 ∧ Aside0 (impl_namesFault.l0 kq x7_1 l1 (l1.length : Int) x15_1 = some r) ∧ Aside0 (kq ≤ k) ∧ Aside0 (Below w.heap.size w w'))
 case atStart => exact ⟨(t477), (0), (by first | rfl | (simp; done) | (simp [*]; done)), (by first | rfl | (simp; done) | (simp [*]; done)), H', ⟨Nat.le_refl _⟩, ⟨by repeat (first | (with_reducible first | exact HB.out | apply below_alloc | apply pw_below_drewN | apply below_drew1) | exact HB.out)⟩⟩
 case round =>
  clear H'
  try clear c1
  try clear c2
  try clear p2
  obtain ⟨x7_1, x15_1, rfl, rfl, HA, HK1, HB⟩ := hrel
  cases gk with
  | zero => exact absurd HA.out (by simp [impl_namesFault.l0])
  | succ k1 =>
   have H := HA.out
   clear HA
   simp only [impl_namesFault.l0] at H
   by_cases c6 : x15_1 < (l1.length : Int)
   ·rw [if_pos c6] at H
    have c6b0 : decide (x15_1 < (l1.length : Int)) = true := decide_eq_true c6
    clear c6
    by_cases c7 : 0 ≤ x15_1
    ·rw [if_pos c7] at H
     have c7b0 : decide (0 ≤ x15_1) = true := decide_eq_true c7
     clear c7
     by_cases c8 : x15_1 < (l1.length : Int)
     ·rw [if_pos c8] at H
      have c8b0 : decide (x15_1 < (l1.length : Int)) = true := decide_eq_true c8
      clear c8
      by_cases c9 : x7_1 = 0
      ·rw [if_pos c9] at H
       have c9b0 : (x7_1 == 0) = true := beq_iff_eq.mpr c9
       have c9b1 : (x7_1 != 0) = false := bne_eq_false_iff_eq.mpr c9
       clear c9
       replace H := Option.bind_eq_some_iff.mp H
       obtain ⟨t479, A100, H⟩ := H
       try dsimp only at H
       have A10 := Aside0.mk A100
       clear A100
       by_cases c11 : t479 = true
       ·subst c11
        rw [if_pos rfl] at H
        have H' := Aside0.mk H
        clear H
        have p478 : 0 ≤ (x15_1 : Int) := of_decide_eq_true (by first | (with_reducible assumption) | assumption)
        have q478 : x15_1 < (l1.length : Int) := of_decide_eq_true (by first | (with_reducible assumption) | assumption)
        obtain ⟨ad478, e478, hx478_0⟩ := Kd.at_int HR1.out x15_1 p478 q478
        cases e478
        replace hx478_0 := (HB.out.cell (World.block_lt_of_cell? w _ hx478_0)).trans hx478_0
        replace p478 := eq_true p478
        replace q478 := eq_true q478
        go_wp2_with (first | (go_at_call 101; (with_reducible refine (impl_isName.calls (rd l1 x15_1) true _ A10.out).mono ?_); rintro e w' ⟨rfl, ⟨nd, rfl⟩⟩))
        go_roundg k1
        case measure => have := HK1.out; omega
        case rel => exact ⟨(x7_1), (wrap64 (x15_1 + 1)), (by first | rfl | (simp; done) | (simp [*]; done)), (by first | rfl | (simp; done) | (simp [*]; done)), H', ⟨by have := HK1.out; omega⟩, ⟨by repeat (first | (with_reducible first | exact HB.out | apply below_alloc | apply pw_below_drewN | apply below_drew1) | exact HB.out)⟩⟩
       ·replace c11 := Bool.eq_false_iff.mpr c11
        subst c11
        rw [if_neg (show ¬ (false = true) by decide)] at H
        have H' := Aside0.mk H
        clear H
        have p478 : 0 ≤ (x15_1 : Int) := of_decide_eq_true (by first | (with_reducible assumption) | assumption)
        have q478 : x15_1 < (l1.length : Int) := of_decide_eq_true (by first | (with_reducible assumption) | assumption)
        obtain ⟨ad478, e478, hx478_0⟩ := Kd.at_int HR1.out x15_1 p478 q478
        cases e478
        replace hx478_0 := (HB.out.cell (World.block_lt_of_cell? w _ hx478_0)).trans hx478_0
        replace p478 := eq_true p478
        replace q478 := eq_true q478
        go_wp2_with (first | (go_at_call 101; (with_reducible refine (impl_isName.calls (rd l1 x15_1) false _ A10.out).mono ?_); rintro e w' ⟨rfl, ⟨nd, rfl⟩⟩))
        go_roundg k1
        case measure => have := HK1.out; omega
        case rel => exact ⟨(3), (wrap64 (x15_1 + 1)), (by first | rfl | (simp; done) | (simp [*]; done)), (by first | rfl | (simp; done) | (simp [*]; done)), H', ⟨by have := HK1.out; omega⟩, ⟨by repeat (first | (with_reducible first | exact HB.out | apply below_alloc | apply pw_below_drewN | apply below_drew1) | exact HB.out)⟩⟩
      ·rw [if_neg c9] at H
       have c9b0 : (x7_1 == 0) = false := beq_eq_false_iff_ne.mpr c9
       have c9b1 : (x7_1 != 0) = true := bne_iff_ne.mpr c9
       have H' := Aside0.mk H
       clear H
       have p478 : 0 ≤ (x15_1 : Int) := of_decide_eq_true (by first | (with_reducible assumption) | assumption)
       have q478 : x15_1 < (l1.length : Int) := of_decide_eq_true (by first | (with_reducible assumption) | assumption)
       obtain ⟨ad478, e478, hx478_0⟩ := Kd.at_int HR1.out x15_1 p478 q478
       cases e478
       replace hx478_0 := (HB.out.cell (World.block_lt_of_cell? w _ hx478_0)).trans hx478_0
       replace p478 := eq_true p478
       replace q478 := eq_true q478
       go_wp2
       go_roundg k1
       case measure => have := HK1.out; omega
       case rel => exact ⟨(x7_1), (wrap64 (x15_1 + 1)), (by first | rfl | (simp; done) | (simp [*]; done)), (by first | rfl | (simp; done) | (simp [*]; done)), H', ⟨by have := HK1.out; omega⟩, ⟨by repeat (first | (with_reducible first | exact HB.out | apply below_alloc | apply pw_below_drewN | apply below_drew1) | exact HB.out)⟩⟩
     ·rw [if_neg c8] at H
      exact absurd H (by simp)
    ·rw [if_neg c7] at H
     exact absurd H (by simp)
   ·rw [if_neg c6] at H
    have c6b0 : decide (x15_1 < (l1.length : Int)) = false := decide_eq_false c6
    clear c6
    obtain rfl := Option.some.inj H
    go_wp2
    go_ret
    exact ⟨by first | rfl | (simp [errW_none, errW_some] <;> rfl) | (simp [*, errW_none, errW_some] <;> rfl), by repeat (first | (with_reducible first | exact HB.out | apply below_alloc | apply pw_below_drewN | apply below_drew1) | exact HB.out)⟩
end Go.Proofs.Ytomaeijhljpgdaa.G
namespace Go.Proofs.Ytomaeijhljpgdaa.G
open Go.RowKit Go.Proofs.YtomaeijhljpgdaaW.PrintWords Go.Proofs.YtomaeijhljpgdaaW.PrintLast Go.Proofs.YtomaeijhljpgdaaW.PrintMore
attribute [local go_sem] max2_int min2_int max_two min_two max_three min_three max_four min_four   -- for this text's walks alone
set_option linter.unusedVariables false
set_option linter.unusedSimpArgs false
set_option maxHeartbeats 4000000 in
set_option maxRecDepth 100000 in
theorem impl_sheet_prf.callsV (S N : Nat) (v : Value) (l : List S26) (full : Bool) (a b : Int) (w : World) (hS : SheetV w N S v l full) (hN : N ≤ w.heap.size) (hl : l.length ≤ 400) :
    Calls Try.prog 103 #[.pointer (some ⟨S, 0, none⟩), .int .i64 a, .int .i64 b] w fun e w' => e = .returned (.int .i64 (putT l full ⟨4, a, b, 0⟩).1) ∧ (∃ v', SheetV w' N S v' (putT l full ⟨4, a, b, 0⟩).2.1 (putT l full ⟨4, a, b, 0⟩).2.2 ∧ ∀ k, v'.ownBlock = some k → v.ownBlock = some k ∨ w.heap.size ≤ k) ∧ KeepV w w' S v ∧ Below N w w' := by
  have HC := Aside0.mk (impl_sheet_put.callsV 402 S N v l full 4 a b 0 _ w hS hN (tix_f l hl ⟨4, a, b, 0⟩))
  unfold putT
  clear hS hN
  generalize putP l full ⟨4, a, b, 0⟩ (tix l ⟨4, a, b, 0⟩ 0) = r at HC ⊢
  go_enter Try.func103, Try.ntmps103
  go_wp2_with (go_at_call 56; refine HC.out.mono ?_; rintro e w' ⟨rfl, hs, hk, hb⟩)
  go_ret
  exact ⟨rfl, hs, hk, hb⟩
theorem impl_sheet_prf.callsE {N S : Nat} {w0 w : World} {l : List S26} {full : Bool} (a b : Int) (r : Int × List S26 × Bool) (h : SE 107 N S w0 w l (.bool full)) (hl : l.length ≤ 400) (hr : putT l full ⟨4, a, b, 0⟩ = r) :
    Calls Try.prog 103 #[.pointer (some ⟨S, 0, none⟩), .int .i64 a, .int .i64 b] w fun e w' => e = .returned (.int .i64 r.1) ∧ SE 107 N S w0 w' r.2.1 (.bool r.2.2) ∧ KeepT 107 N w w' := by
  subst hr
  exact SE.call h (fun v hv => (impl_sheet_prf.callsV S N v l full a b w hv hv.size hl).mono (fun e w' ⟨h1, h2⟩ => ⟨h1, se_of_V hv h2⟩))
end Go.Proofs.Ytomaeijhljpgdaa.G
namespace Go.Proofs.Ytomaeijhljpgdaa.G
open Go.RowKit Go.Proofs.YtomaeijhljpgdaaW.PrintWords Go.Proofs.YtomaeijhljpgdaaW.PrintLast Go.Proofs.YtomaeijhljpgdaaW.PrintMore
attribute [local go_sem] max2_int min2_int max_two min_two max_three min_three max_four min_four   -- for this text's walks alone
set_option linter.unusedVariables false
set_option linter.unusedSimpArgs false
set_option maxHeartbeats 4000000 in
set_option maxRecDepth 100000 in
theorem impl_sheet_both.callsE {N S : Nat} {w0 w : World} {l : List S26} {full : Bool} (a b : Int) (r : Int × List S26 × Bool) (h : SE 107 N S w0 w l (.bool full)) (hl : l.length ≤ 400) (hr : putT l full ⟨7, if b < a then b else a, if a < b then b else a, 0⟩ = r) :
    Calls Try.prog 105 #[.pointer (some ⟨S, 0, none⟩), .int .i64 a, .int .i64 b] w fun e w' => e = .returned (.int .i64 r.1) ∧ SE 107 N S w0 w' r.2.1 (.bool r.2.2) ∧ KeepT 107 N w w' := by
  subst hr
  refine SE.call h (fun v hv => ?_)
  have HC := Aside0.mk (impl_sheet_put.callsV 402 S N v l full 7 (if b < a then b else a) (if a < b then b else a) 0 _ w hv hv.size (tix_f l hl ⟨7, if b < a then b else a, if a < b then b else a, 0⟩))
  unfold putT
  have HV := Aside0.mk hv
  clear h hv
  generalize putP l full ⟨7, if b < a then b else a, if a < b then b else a, 0⟩ (tix l ⟨7, if b < a then b else a, if a < b then b else a, 0⟩ 0) = r at HC ⊢
  by_cases h1 : b < a
  · have h2 : ¬ a < b := by omega
    simp only [if_pos h1, if_neg h2] at HC
    go_enter Try.func105, Try.ntmps105
    go_wp2_with (go_at_call 56; refine HC.out.mono ?_; rintro e w' ⟨rfl, hs⟩)
    go_ret
    exact ⟨rfl, se_of_V HV.out hs⟩
  · by_cases h2 : a < b
    · simp only [if_neg h1, if_pos h2] at HC
      go_enter Try.func105, Try.ntmps105
      go_wp2_with (go_at_call 56; refine HC.out.mono ?_; rintro e w' ⟨rfl, hs⟩)
      go_ret
      exact ⟨rfl, se_of_V HV.out hs⟩
    · simp only [if_neg h1, if_neg h2] at HC
      go_enter Try.func105, Try.ntmps105
      go_wp2_with (go_at_call 56; refine HC.out.mono ?_; rintro e w' ⟨rfl, hs⟩)
      go_ret
      exact ⟨rfl, se_of_V HV.out hs⟩
end Go.Proofs.Ytomaeijhljpgdaa.G
namespace Go.Proofs.Ytomaeijhljpgdaa.G
open Go.RowKit Go.Proofs.YtomaeijhljpgdaaW.PrintWords Go.Proofs.YtomaeijhljpgdaaW.PrintLast Go.Proofs.YtomaeijhljpgdaaW.PrintMore
attribute [local go_sem] max2_int min2_int max_two min_two max_three min_three max_four min_four   -- for this text's walks alone
set_option linter.unusedVariables false
set_option linter.unusedSimpArgs false
def keysT (l : List S26) (full : Bool) (ni nr own half sI sR : Int) : Option (Int × Int × Int × Int × List S26 × Bool) :=
  let r1 := putT l full ⟨3, ni, nr, 0⟩
  let x := (rd_T26 r1.2.1 half).f1
  let r2 := putT r1.2.1 r1.2.2 ⟨7, if x < own then x else own, if own < x then x else own, 0⟩
  let r3 := putT r2.2.1 r2.2.2 ⟨4, r1.1, r2.1, 0⟩
  let r4 := namesT r3.2.1 r3.2.2 [1, sI, sR]
  let r5 := putT r4.2.1 r4.2.2 ⟨4, r3.1, r4.1, 0⟩
  let r6 := namesT r5.2.1 r5.2.2 [2, sI, sR]
  let r7 := putT r6.2.1 r6.2.2 ⟨4, r3.1, r6.1, 0⟩
  let r8 := namesT r7.2.1 r7.2.2 [3, sI, sR]
  let r9 := putT r8.2.1 r8.2.2 ⟨4, r3.1, r8.1, 0⟩
  if 0 ≤ half ∧ half < (r1.2.1.length : Int) then some (r3.1, r5.1, r7.1, r9.1, r9.2) else none
set_option maxHeartbeats 8000000 in
set_option maxRecDepth 100000 in
theorem impl_sheet_keys.callsE {N S : Nat} {w0 w : World} {l : List S26} {full : Bool} (ni nr own half sI sR : Int) (rr : Int × Int × Int × Int × List S26 × Bool) (h : SE 107 N S w0 w l (.bool full)) (hl : l.length ≤ 400) (hr : keysT l full ni nr own half sI sR = some rr) :
    Calls Try.prog 80 #[.pointer (some ⟨S, 0, none⟩), .int .i64 ni, .int .i64 nr, .int .i64 own, .int .i64 half, .int .i64 sI, .int .i64 sR] w fun e w' => e = .returned (.agg #[.int .i64 rr.1, .int .i64 rr.2.1, .int .i64 rr.2.2.1, .int .i64 rr.2.2.2.1]) ∧ SE 107 N S w0 w' rr.2.2.2.2.1 (.bool rr.2.2.2.2.2) ∧ KeepT 107 N w w' := by
  refine SE.call h (fun v hv => ?_)
  have HS := Aside0.mk (SE.start hv)
  have HN := Aside0.mk hv.size
  have HL0 := Aside0.mk hl
  unfold keysT at hr
  dsimp only at hr
  generalize h1 : putT l full ⟨3, ni, nr, 0⟩ = r1 at hr
  have H1 := Aside0.mk h1
  have HL1 := Aside0.mk (h1 ▸ putT_len HL0.out : r1.2.1.length ≤ 400)
  by_cases hg : 0 ≤ half ∧ half < (r1.2.1.length : Int)
  rotate_left
  · rw [if_neg hg] at hr; cases hr
  rw [if_pos hg] at hr
  generalize hx : (rd_T26 r1.2.1 half).f1 = x at hr
  generalize h2 : putT r1.2.1 r1.2.2 ⟨7, if x < own then x else own, if own < x then x else own, 0⟩ = r2 at hr
  have H2 := Aside0.mk h2
  have HL2 := Aside0.mk (h2 ▸ putT_len HL1.out : r2.2.1.length ≤ 400)
  clear h2
  generalize h3 : putT r2.2.1 r2.2.2 ⟨4, r1.1, r2.1, 0⟩ = r3 at hr
  have H3 := Aside0.mk h3
  have HL3 := Aside0.mk (h3 ▸ putT_len HL2.out : r3.2.1.length ≤ 400)
  clear h3
  generalize h4 : namesT r3.2.1 r3.2.2 [1, sI, sR] = r4 at hr
  have H4 := Aside0.mk h4
  have HL4 := Aside0.mk (h4 ▸ namesT_len HL3.out : r4.2.1.length ≤ 400)
  clear h4
  generalize h5 : putT r4.2.1 r4.2.2 ⟨4, r3.1, r4.1, 0⟩ = r5 at hr
  have H5 := Aside0.mk h5
  have HL5 := Aside0.mk (h5 ▸ putT_len HL4.out : r5.2.1.length ≤ 400)
  clear h5
  generalize h6 : namesT r5.2.1 r5.2.2 [2, sI, sR] = r6 at hr
  have H6 := Aside0.mk h6
  have HL6 := Aside0.mk (h6 ▸ namesT_len HL5.out : r6.2.1.length ≤ 400)
  clear h6
  generalize h7 : putT r6.2.1 r6.2.2 ⟨4, r3.1, r6.1, 0⟩ = r7 at hr
  have H7 := Aside0.mk h7
  have HL7 := Aside0.mk (h7 ▸ putT_len HL6.out : r7.2.1.length ≤ 400)
  clear h7
  generalize h8 : namesT r7.2.1 r7.2.2 [3, sI, sR] = r8 at hr
  have H8 := Aside0.mk h8
  have HL8 := Aside0.mk (h8 ▸ namesT_len HL7.out : r8.2.1.length ≤ 400)
  clear h8
  generalize h9 : putT r8.2.1 r8.2.2 ⟨4, r3.1, r8.1, 0⟩ = r9 at hr
  have H9 := Aside0.mk h9
  have HL9 := Aside0.mk (h9 ▸ putT_len HL8.out : r9.2.1.length ≤ 400)
  clear h9
  clear h1
  injection hr with hr
  subst hr
  have p1 := eq_true hg.1
  have p2 := eq_true hg.2
  have HG := Aside0.mk hg
  have HX := Aside0.mk hx
  clear h hv hg hx hl
  go_enter Try.func80, Try.ntmps80
  go_wp2_with (first | ((with_reducible refine gate_dst (N := 14) rfl ?_); refine box_event ?hg (N := 14) ?hd (cs := #[.int .i64 0, .int .i64 0, .int .i64 0, .int .i64 0]) (t := 62) ?hr ?_; (case hd => rfl); (case hg => rfl); (case hr => first | (go_simp; done) | (go_simp; rfl)); intro g14 hg w2 hbox hb; have BK := Aside0.mk hbox; have GE := Aside0.mk (show w.heap.size ≤ g14 by rw [hg]; exact HS.out.2.1.1); have n0_ := Aside0.mk (HS.out.below hb); clear HS hb hbox hg; have HS := n0_; clear n0_) | (go_at_call 97; refine (impl_sheet_pair.callsE ni nr r1 HS.out HL0.out H1.out).mono ?_; rintro e w9 ⟨rfl, hs, hk⟩; have k0_ := Aside0.mk (blk_keepT BK.out hk (by decide) (by decide)); clear HS BK; have BK := k0_; have HS := Aside0.mk hs; clear hs hk k0_; obtain ⟨v9, hv9⟩ := HS.out.1; obtain ⟨A9, c9, e9⟩ := Kd.R_slice hv9.2.2; subst e9; obtain ⟨ad9, e9, hx0, hx1, hx2, hx3⟩ := at_T26 (Kd.R_reads' hv9.2.2).2.2 half HG.out.1 HG.out.2; subst e9; rw [HX.out] at hx1; have p0_ : w9.cell? ⟨S, 0, none⟩ = some (.slice (some ad9) r1.2.1.length c9) := (blk_cell hv9.1 0).trans rfl; clear hx0 hx2 hx3 hv9) | (go_at_call 105; refine (impl_sheet_both.callsE own x r2 HS.out HL1.out H2.out).mono ?_; rintro e w9 ⟨rfl, hs, hk⟩; have k0_ := Aside0.mk (blk_keepT BK.out hk (by decide) (by decide)); clear HS BK; have BK := k0_; have HS := Aside0.mk hs; clear hs hk k0_) | (go_at_call 103; refine (impl_sheet_prf.callsE r1.1 r2.1 r3 HS.out HL2.out H3.out).mono ?_; rintro e w9 ⟨rfl, hs, hk⟩; have k0_ := Aside0.mk (blk_keepT BK.out hk (by decide) (by decide)); clear HS BK; have BK := k0_; have HS := Aside0.mk hs; clear hs hk k0_) | ((with_reducible refine gate_dst (N := 17) rfl ?_); refine box_event ?hg (N := 17) ?hd (cs := #[.int .i64 0, .int .i64 0, .int .i64 0, .int .i64 0]) (t := 62) ?hr ?_; (case hd => rfl); (case hg => rfl); (case hr => first | (go_simp; done) | (go_simp; rfl)); intro gl hg w3 hbox hb; have BL := Aside0.mk hbox; have GL := Aside0.mk (show w.heap.size ≤ gl by rw [hg]; exact HS.out.2.1.1); have NE := Aside0.mk (show g14 ≠ gl by rw [hg]; exact Nat.ne_of_lt (blk_lt BK.out)); have n0_ := Aside0.mk (HS.out.below hb); have n1_ := Aside0.mk (blk_below BK.out hb); clear HS BK hb hbox hg; have HS := n0_; have BK := n1_; clear n0_ n1_; have y0_ : w3.cell? ⟨gl, 0, none⟩ = some (.int .i64 0) := (blk_cell BL.out 0).trans rfl; have y1_ : w3.cell? ⟨gl, 1, none⟩ = some (.int .i64 0) := (blk_cell BL.out 1).trans rfl; have y2_ : w3.cell? ⟨gl, 2, none⟩ = some (.int .i64 0) := (blk_cell BL.out 2).trans rfl; have y3_ : w3.cell? ⟨gl, 3, none⟩ = some (.int .i64 0) := (blk_cell BL.out 3).trans rfl; have z0_ := blk_frozen BL.out 0; have z1_ := blk_frozen BL.out 1; have z2_ := blk_frozen BL.out 2; have z3_ := blk_frozen BL.out 3))
  have n0_ := Aside0.mk (SE.far (SE.far (SE.far (SE.far HS.out BL.out (by decide) (by decide) GL.out (Nat.le_trans HN.out GL.out) 0 (.int .i64 r3.1)) (blk_put BL.out 0 (.int .i64 r3.1) rfl) (by decide) (by decide) GL.out (Nat.le_trans HN.out GL.out) 1 (.int .i64 0)) (blk_put (blk_put BL.out 0 (.int .i64 r3.1) rfl) 1 (.int .i64 0) rfl) (by decide) (by decide) GL.out (Nat.le_trans HN.out GL.out) 2 (.int .i64 0)) (blk_put (blk_put (blk_put BL.out 0 (.int .i64 r3.1) rfl) 1 (.int .i64 0) rfl) 2 (.int .i64 0) rfl) (by decide) (by decide) GL.out (Nat.le_trans HN.out GL.out) 3 (.int .i64 0))
  have n1_ : Aside0 (((((w3.setCell ⟨gl, 0, none⟩ (.int .i64 r3.1)).setCell ⟨gl, 1, none⟩ (.int .i64 0)).setCell ⟨gl, 2, none⟩ (.int .i64 0)).setCell ⟨gl, 3, none⟩ (.int .i64 0)).heap[gl]? = some (.cells #[.int .i64 r3.1, .int .i64 0, .int .i64 0, .int .i64 0] 62 (0, 0))) := Aside0.mk (blk_put (blk_put (blk_put (blk_put BL.out 0 (.int .i64 r3.1) rfl) 1 (.int .i64 0) rfl) 2 (.int .i64 0) rfl) 3 (.int .i64 0) rfl)
  have n2_ := Aside0.mk (blk_far (blk_far (blk_far (blk_far BK.out (p := ⟨gl, 0, none⟩) NE.out (.int .i64 r3.1)) (p := ⟨gl, 1, none⟩) NE.out (.int .i64 0)) (p := ⟨gl, 2, none⟩) NE.out (.int .i64 0)) (p := ⟨gl, 3, none⟩) NE.out (.int .i64 0))
  clear HS BL BK y0_ y1_ y2_ y3_ z0_ z1_ z2_ z3_
  (try clear p0_)
  (try clear hx1)
  have HS := n0_; have BL := n1_; have BK := n2_
  clear n0_ n1_ n2_
  generalize hw4 : ((((w3.setCell ⟨gl, 0, none⟩ (.int .i64 r3.1)).setCell ⟨gl, 1, none⟩ (.int .i64 0)).setCell ⟨gl, 2, none⟩ (.int .i64 0)).setCell ⟨gl, 3, none⟩ (.int .i64 0)) = w4 at HS BL BK ⊢
  clear hw4
  have n0_ := Aside0.mk (show SE 107 N S w w4.drew _ _ from ⟨HS.out.1, HS.out.2.1, HS.out.2.2.drew⟩)
  have n1_ := Aside0.mk (blk_drew BL.out)
  have n2_ := Aside0.mk (blk_drew BK.out)
  clear HS BL BK
  have HS := n0_; have BL := n1_; have BK := n2_
  clear n0_ n1_ n2_
  refine start_ (n := 11) (S := fun w' => w'.cell? ⟨gl, 0, none⟩ = some (.int .i64 r3.1)) (ds := [10]) #[false, false, false, false, false, false, false, false, false, false, false] (by kernel_rfl) rfl rfl ((blk_cell BL.out 0).trans rfl) (fun hHeld => ?_)
  generalize hw5 : w4.drew = w5 at HS BL BK hHeld ⊢
  clear hw5
  refine pure_ (i := 0) (N := some 38) (v := ?_) (a' := ?_) #[true, false, false, false, false, false, false, false, false, false, false] rfl rfl (by kernel_rfl) (fun _ _ _ h => h) (Or.inl ⟨by rfl, ?_⟩) ?_ ?_
  rotate_left
  · intro w'
    go_simp
    with_reducible rfl
  rotate_left
  · simp only [Act.put, lA_, lZ_, lS_, i64_w, i32_w]
    rfl
  refine pure_ (i := 1) (N := some 39) (v := ?_) (a' := ?_) #[true, true, false, false, false, false, false, false, false, false, false] rfl rfl (by kernel_rfl) (fun _ _ _ h => h) (Or.inl ⟨by rfl, ?_⟩) ?_ ?_
  rotate_left
  · intro w'
    go_simp
    with_reducible rfl
  rotate_left
  · simp only [Act.put, lA_, lZ_, lS_, i64_w, i32_w]
    rfl
  refine take_ (i := 2) (N := some 40) (v := ?_) (a' := ?_) #[true, true, true, false, false, false, false, false, false, false, false] rfl rfl (by kernel_rfl) (fun _ _ _ h => h) (Or.inl ⟨by rfl, ?_⟩) hHeld ?_ ?_
  rotate_left
  · rintro w' s0
    go_simp
    with_reducible rfl
  rotate_left
  · simp only [Act.put, lA_, lZ_, lS_, i64_w, i32_w]
    rfl
  refine pure_ (i := 3) (N := some 41) (v := ?_) (a' := ?_) #[true, true, true, true, false, false, false, false, false, false, false] rfl rfl (by kernel_rfl) (fun _ _ _ h => h) (Or.inl ⟨by rfl, ?_⟩) ?_ ?_
  rotate_left
  · intro w'
    go_simp
    with_reducible rfl
  rotate_left
  · simp only [Act.put, lA_, lZ_, lS_, i64_w, i32_w]
    rfl
  refine pure_ (i := 4) (N := some 42) (v := ?_) (a' := ?_) #[true, true, true, true, true, false, false, false, false, false, false] rfl rfl (by kernel_rfl) (fun _ _ _ h => h) (Or.inl ⟨by rfl, ?_⟩) ?_ ?_
  rotate_left
  · intro w'
    go_simp
    with_reducible rfl
  rotate_left
  · simp only [Act.put, lA_, lZ_, lS_, i64_w, i32_w]
    rfl
  refine pure_ (i := 5) (N := some 43) (v := ?_) (a' := ?_) #[true, true, true, true, true, true, false, false, false, false, false] rfl rfl (by kernel_rfl) (fun _ _ _ h => h) (Or.inl ⟨by rfl, ?_⟩) ?_ ?_
  rotate_left
  · intro w'
    go_simp
    with_reducible rfl
  rotate_left
  · simp only [Act.put, lA_, lZ_, lS_, i64_w, i32_w]
    rfl
  refine one_ (i := 6) (N := some 44) #[true, true, true, true, true, true, true, false, false, false, false] rfl rfl (by kernel_rfl) (by decide) (fun K hK => ?_)
  refine Kd.R_lit_step (Kd.int .i64) _ 2 ?hg (N := 44) ?hd (xs := ([1, sI, sR] : List Int)) (inner := [.int .i64 1, .int .i64 sI, .int .i64 sR]) (ok := fun _ => True) (okp := fun _ => True) ?hr ?hp (fun _ hk => hk) trivial (Below.refl _ _) (Nat.le_refl _) (by simp) ?_; (case hd => rfl); (case hg => rfl); (case hr => first | (go_simp; done) | (go_simp; rfl)); (case hp => exact reps_ints _)
  intro v6 w6 ho hb hg_ hn_
  clear hg_ hn_
  obtain ⟨AP, cP, eP⟩ := Kd.R_slice ho
  subst eP
  have HP := Aside0.mk ho
  have n0_ := Aside0.mk (HS.out.below hb)
  have n1_ := Aside0.mk (blk_below BL.out hb)
  have n2_ := Aside0.mk (blk_below BK.out hb)
  clear HS BL BK hb ho
  have HS := n0_; have BL := n1_; have BK := n2_
  clear n0_ n1_ n2_
  refine hK.out _ _ ((blk_cell BL.out 0).trans rfl) (fun hHeld => ?_)
  clear hK K
  refine norm_ (a' := ?_) ?_ ?_
  rotate_left
  · show Act.put _ (some 44) _ = _
    simp only [Act.put, lA_, lZ_, lS_, i64_w, i32_w]
    rfl
  refine one_ (i := 7) (N := some 45) #[true, true, true, true, true, true, true, true, false, false, false] rfl rfl (by kernel_rfl) (by decide) (fun K hK => ?_)
  refine goes_ Try.func71 (by kernel_rfl) rfl #[.pointer (some ⟨S, 0, none⟩), .slice AP 3 cP] (by rfl) rfl rfl (by (try simp only [List.map_toArray, List.map_cons, List.map_nil]); first | done | rfl) ?_
  refine (impl_sheet_names.callsE AP cP [1, sI, sR] 3 r4 HS.out HL3.out rfl (Kd.R_reads' HP.out).2.2 (Kd.R_reads' HP.out).2.1 (far_row HP.out (by decide) (by decide)) (by simp) H4.out).mono ?_
  rintro e w7 ⟨rfl, hs, hk⟩
  refine ⟨_, rfl, ?_⟩
  have n0_ := Aside0.mk (blk_keepT BL.out hk (by decide) (by decide))
  have n1_ := Aside0.mk (blk_keepT BK.out hk (by decide) (by decide))
  clear HS BL BK
  have HS := Aside0.mk hs; have BL := n0_; have BK := n1_
  clear n0_ n1_ hs hk
  clear HP
  refine hK.out _ _ ((blk_cell BL.out 0).trans rfl) (fun hHeld => ?_)
  clear hK K
  refine norm_ (a' := ?_) ?_ ?_
  rotate_left
  · show Act.put _ (some 45) _ = _
    simp only [Act.put, lA_, lZ_, lS_, i64_w, i32_w]
    rfl
  refine one_ (i := 8) (N := some 46) #[true, true, true, true, true, true, true, true, true, false, false] rfl rfl (by kernel_rfl) (by decide) (fun K hK => ?_)
  refine goes_ Try.func103 (by kernel_rfl) rfl #[.pointer (some ⟨S, 0, none⟩), .int .i64 r3.1, .int .i64 r4.1] (by rfl) rfl rfl (by (try simp only [List.map_toArray, List.map_cons, List.map_nil]); first | done | rfl) ?_
  refine (impl_sheet_prf.callsE r3.1 r4.1 r5 HS.out HL4.out H5.out).mono ?_
  rintro e w8 ⟨rfl, hs, hk⟩
  refine ⟨_, rfl, ?_⟩
  have n0_ := Aside0.mk (blk_keepT BL.out hk (by decide) (by decide))
  have n1_ := Aside0.mk (blk_keepT BK.out hk (by decide) (by decide))
  clear HS BL BK
  have HS := Aside0.mk hs; have BL := n0_; have BK := n1_
  clear n0_ n1_ hs hk
  refine hK.out _ _ ((blk_cell BL.out 0).trans rfl) (fun hHeld => ?_)
  clear hK K
  refine norm_ (a' := ?_) ?_ ?_
  rotate_left
  · show Act.put _ (some 46) _ = _
    simp only [Act.put, lA_, lZ_, lS_, i64_w, i32_w]
    rfl
  refine pure_ (i := 9) (N := some 47) (v := ?_) (a' := ?_) #[true, true, true, true, true, true, true, true, true, true, false] rfl rfl (by kernel_rfl) (fun _ _ _ h => h) (Or.inl ⟨by rfl, ?_⟩) ?_ ?_
  rotate_left
  · intro w'
    go_simp
    with_reducible rfl
  rotate_left
  · simp only [Act.put, lA_, lZ_, lS_, i64_w, i32_w]
    rfl
  refine last_ (i := 10) (N := none) #[true, true, true, true, true, true, true, true, true, true, true] rfl rfl (by kernel_rfl) (by decide) (fun K hK => ?_)
  have y_ : w8.cell? ⟨gl, 1, none⟩ = some (.int .i64 0) := (blk_cell BL.out 1).trans rfl
  have z_ := blk_frozen BL.out 1
  refine skip_ (w1 := ?_) (by rfl) rfl ?_ ?_
  rotate_left
  · go_simp
    rfl
  refine hK.out _ _ ?_
  clear hK K
  refine done_ (by kernel_rfl) ?_
  have n0_ := Aside0.mk (SE.far HS.out BL.out (by decide) (by decide) GL.out (Nat.le_trans HN.out GL.out) 1 (.int .i64 r5.1))
  have n1_ : Aside0 ((w8.setCell ⟨gl, 1, none⟩ (.int .i64 r5.1)).heap[gl]? = some (.cells #[.int .i64 r3.1, .int .i64 r5.1, .int .i64 0, .int .i64 0] 62 (0, 0))) := Aside0.mk (blk_put BL.out 1 (.int .i64 r5.1) rfl)
  have n2_ := Aside0.mk (blk_far BK.out (p := ⟨gl, 1, none⟩) NE.out (.int .i64 r5.1))
  clear HS BL BK y_ z_ hHeld
  have HS := n0_; have BL := n1_; have BK := n2_
  clear n0_ n1_ n2_
  generalize hw9 : w8.setCell ⟨gl, 1, none⟩ (.int .i64 r5.1) = w4 at HS BL BK ⊢
  clear hw9
  go_wp2_with fail
  have n0_ := Aside0.mk (show SE 107 N S w w4.drew _ _ from ⟨HS.out.1, HS.out.2.1, HS.out.2.2.drew⟩)
  have n1_ := Aside0.mk (blk_drew BL.out)
  have n2_ := Aside0.mk (blk_drew BK.out)
  clear HS BL BK
  have HS := n0_; have BL := n1_; have BK := n2_
  clear n0_ n1_ n2_
  refine start_ (n := 11) (S := fun w' => w'.cell? ⟨gl, 0, none⟩ = some (.int .i64 r3.1)) (ds := [10]) #[false, false, false, false, false, false, false, false, false, false, false] (by kernel_rfl) rfl rfl ((blk_cell BL.out 0).trans rfl) (fun hHeld => ?_)
  generalize hw5 : w4.drew = w5 at HS BL BK hHeld ⊢
  clear hw5
  refine pure_ (i := 0) (N := some 48) (v := ?_) (a' := ?_) #[true, false, false, false, false, false, false, false, false, false, false] rfl rfl (by kernel_rfl) (fun _ _ _ h => h) (Or.inl ⟨by rfl, ?_⟩) ?_ ?_
  rotate_left
  · intro w'
    go_simp
    with_reducible rfl
  rotate_left
  · simp only [Act.put, lA_, lZ_, lS_, i64_w, i32_w]
    rfl
  refine pure_ (i := 1) (N := some 49) (v := ?_) (a' := ?_) #[true, true, false, false, false, false, false, false, false, false, false] rfl rfl (by kernel_rfl) (fun _ _ _ h => h) (Or.inl ⟨by rfl, ?_⟩) ?_ ?_
  rotate_left
  · intro w'
    go_simp
    with_reducible rfl
  rotate_left
  · simp only [Act.put, lA_, lZ_, lS_, i64_w, i32_w]
    rfl
  refine take_ (i := 2) (N := some 50) (v := ?_) (a' := ?_) #[true, true, true, false, false, false, false, false, false, false, false] rfl rfl (by kernel_rfl) (fun _ _ _ h => h) (Or.inl ⟨by rfl, ?_⟩) hHeld ?_ ?_
  rotate_left
  · rintro w' s0
    go_simp
    with_reducible rfl
  rotate_left
  · simp only [Act.put, lA_, lZ_, lS_, i64_w, i32_w]
    rfl
  refine pure_ (i := 3) (N := some 51) (v := ?_) (a' := ?_) #[true, true, true, true, false, false, false, false, false, false, false] rfl rfl (by kernel_rfl) (fun _ _ _ h => h) (Or.inl ⟨by rfl, ?_⟩) ?_ ?_
  rotate_left
  · intro w'
    go_simp
    with_reducible rfl
  rotate_left
  · simp only [Act.put, lA_, lZ_, lS_, i64_w, i32_w]
    rfl
  refine pure_ (i := 4) (N := some 52) (v := ?_) (a' := ?_) #[true, true, true, true, true, false, false, false, false, false, false] rfl rfl (by kernel_rfl) (fun _ _ _ h => h) (Or.inl ⟨by rfl, ?_⟩) ?_ ?_
  rotate_left
  · intro w'
    go_simp
    with_reducible rfl
  rotate_left
  · simp only [Act.put, lA_, lZ_, lS_, i64_w, i32_w]
    rfl
  refine pure_ (i := 5) (N := some 53) (v := ?_) (a' := ?_) #[true, true, true, true, true, true, false, false, false, false, false] rfl rfl (by kernel_rfl) (fun _ _ _ h => h) (Or.inl ⟨by rfl, ?_⟩) ?_ ?_
  rotate_left
  · intro w'
    go_simp
    with_reducible rfl
  rotate_left
  · simp only [Act.put, lA_, lZ_, lS_, i64_w, i32_w]
    rfl
  refine one_ (i := 6) (N := some 54) #[true, true, true, true, true, true, true, false, false, false, false] rfl rfl (by kernel_rfl) (by decide) (fun K hK => ?_)
  refine Kd.R_lit_step (Kd.int .i64) _ 2 ?hg (N := 54) ?hd (xs := ([2, sI, sR] : List Int)) (inner := [.int .i64 2, .int .i64 sI, .int .i64 sR]) (ok := fun _ => True) (okp := fun _ => True) ?hr ?hp (fun _ hk => hk) trivial (Below.refl _ _) (Nat.le_refl _) (by simp) ?_; (case hd => rfl); (case hg => rfl); (case hr => first | (go_simp; done) | (go_simp; rfl)); (case hp => exact reps_ints _)
  intro v6 w6 ho hb hg_ hn_
  clear hg_ hn_
  obtain ⟨AP, cP, eP⟩ := Kd.R_slice ho
  subst eP
  have HP := Aside0.mk ho
  have n0_ := Aside0.mk (HS.out.below hb)
  have n1_ := Aside0.mk (blk_below BL.out hb)
  have n2_ := Aside0.mk (blk_below BK.out hb)
  clear HS BL BK hb ho
  have HS := n0_; have BL := n1_; have BK := n2_
  clear n0_ n1_ n2_
  refine hK.out _ _ ((blk_cell BL.out 0).trans rfl) (fun hHeld => ?_)
  clear hK K
  refine norm_ (a' := ?_) ?_ ?_
  rotate_left
  · show Act.put _ (some 54) _ = _
    simp only [Act.put, lA_, lZ_, lS_, i64_w, i32_w]
    rfl
  refine one_ (i := 7) (N := some 55) #[true, true, true, true, true, true, true, true, false, false, false] rfl rfl (by kernel_rfl) (by decide) (fun K hK => ?_)
  refine goes_ Try.func71 (by kernel_rfl) rfl #[.pointer (some ⟨S, 0, none⟩), .slice AP 3 cP] (by rfl) rfl rfl (by (try simp only [List.map_toArray, List.map_cons, List.map_nil]); first | done | rfl) ?_
  refine (impl_sheet_names.callsE AP cP [2, sI, sR] 3 r6 HS.out HL5.out rfl (Kd.R_reads' HP.out).2.2 (Kd.R_reads' HP.out).2.1 (far_row HP.out (by decide) (by decide)) (by simp) H6.out).mono ?_
  rintro e w7 ⟨rfl, hs, hk⟩
  refine ⟨_, rfl, ?_⟩
  have n0_ := Aside0.mk (blk_keepT BL.out hk (by decide) (by decide))
  have n1_ := Aside0.mk (blk_keepT BK.out hk (by decide) (by decide))
  clear HS BL BK
  have HS := Aside0.mk hs; have BL := n0_; have BK := n1_
  clear n0_ n1_ hs hk
  clear HP
  refine hK.out _ _ ((blk_cell BL.out 0).trans rfl) (fun hHeld => ?_)
  clear hK K
  refine norm_ (a' := ?_) ?_ ?_
  rotate_left
  · show Act.put _ (some 55) _ = _
    simp only [Act.put, lA_, lZ_, lS_, i64_w, i32_w]
    rfl
  refine one_ (i := 8) (N := some 56) #[true, true, true, true, true, true, true, true, true, false, false] rfl rfl (by kernel_rfl) (by decide) (fun K hK => ?_)
  refine goes_ Try.func103 (by kernel_rfl) rfl #[.pointer (some ⟨S, 0, none⟩), .int .i64 r3.1, .int .i64 r6.1] (by rfl) rfl rfl (by (try simp only [List.map_toArray, List.map_cons, List.map_nil]); first | done | rfl) ?_
  refine (impl_sheet_prf.callsE r3.1 r6.1 r7 HS.out HL6.out H7.out).mono ?_
  rintro e w8 ⟨rfl, hs, hk⟩
  refine ⟨_, rfl, ?_⟩
  have n0_ := Aside0.mk (blk_keepT BL.out hk (by decide) (by decide))
  have n1_ := Aside0.mk (blk_keepT BK.out hk (by decide) (by decide))
  clear HS BL BK
  have HS := Aside0.mk hs; have BL := n0_; have BK := n1_
  clear n0_ n1_ hs hk
  refine hK.out _ _ ((blk_cell BL.out 0).trans rfl) (fun hHeld => ?_)
  clear hK K
  refine norm_ (a' := ?_) ?_ ?_
  rotate_left
  · show Act.put _ (some 56) _ = _
    simp only [Act.put, lA_, lZ_, lS_, i64_w, i32_w]
    rfl
  refine pure_ (i := 9) (N := some 57) (v := ?_) (a' := ?_) #[true, true, true, true, true, true, true, true, true, true, false] rfl rfl (by kernel_rfl) (fun _ _ _ h => h) (Or.inl ⟨by rfl, ?_⟩) ?_ ?_
  rotate_left
  · intro w'
    go_simp
    with_reducible rfl
  rotate_left
  · simp only [Act.put, lA_, lZ_, lS_, i64_w, i32_w]
    rfl
  refine last_ (i := 10) (N := none) #[true, true, true, true, true, true, true, true, true, true, true] rfl rfl (by kernel_rfl) (by decide) (fun K hK => ?_)
  have y_ : w8.cell? ⟨gl, 2, none⟩ = some (.int .i64 0) := (blk_cell BL.out 2).trans rfl
  have z_ := blk_frozen BL.out 2
  refine skip_ (w1 := ?_) (by rfl) rfl ?_ ?_
  rotate_left
  · go_simp
    rfl
  refine hK.out _ _ ?_
  clear hK K
  refine done_ (by kernel_rfl) ?_
  have n0_ := Aside0.mk (SE.far HS.out BL.out (by decide) (by decide) GL.out (Nat.le_trans HN.out GL.out) 2 (.int .i64 r7.1))
  have n1_ : Aside0 ((w8.setCell ⟨gl, 2, none⟩ (.int .i64 r7.1)).heap[gl]? = some (.cells #[.int .i64 r3.1, .int .i64 r5.1, .int .i64 r7.1, .int .i64 0] 62 (0, 0))) := Aside0.mk (blk_put BL.out 2 (.int .i64 r7.1) rfl)
  have n2_ := Aside0.mk (blk_far BK.out (p := ⟨gl, 2, none⟩) NE.out (.int .i64 r7.1))
  clear HS BL BK y_ z_ hHeld
  have HS := n0_; have BL := n1_; have BK := n2_
  clear n0_ n1_ n2_
  generalize hw9 : w8.setCell ⟨gl, 2, none⟩ (.int .i64 r7.1) = w4 at HS BL BK ⊢
  clear hw9
  go_wp2_with fail
  have n0_ := Aside0.mk (show SE 107 N S w w4.drew _ _ from ⟨HS.out.1, HS.out.2.1, HS.out.2.2.drew⟩)
  have n1_ := Aside0.mk (blk_drew BL.out)
  have n2_ := Aside0.mk (blk_drew BK.out)
  clear HS BL BK
  have HS := n0_; have BL := n1_; have BK := n2_
  clear n0_ n1_ n2_
  refine start_ (n := 11) (S := fun w' => w'.cell? ⟨gl, 0, none⟩ = some (.int .i64 r3.1)) (ds := [10]) #[false, false, false, false, false, false, false, false, false, false, false] (by kernel_rfl) rfl rfl ((blk_cell BL.out 0).trans rfl) (fun hHeld => ?_)
  generalize hw5 : w4.drew = w5 at HS BL BK hHeld ⊢
  clear hw5
  refine pure_ (i := 0) (N := some 58) (v := ?_) (a' := ?_) #[true, false, false, false, false, false, false, false, false, false, false] rfl rfl (by kernel_rfl) (fun _ _ _ h => h) (Or.inl ⟨by rfl, ?_⟩) ?_ ?_
  rotate_left
  · intro w'
    go_simp
    with_reducible rfl
  rotate_left
  · simp only [Act.put, lA_, lZ_, lS_, i64_w, i32_w]
    rfl
  refine pure_ (i := 1) (N := some 59) (v := ?_) (a' := ?_) #[true, true, false, false, false, false, false, false, false, false, false] rfl rfl (by kernel_rfl) (fun _ _ _ h => h) (Or.inl ⟨by rfl, ?_⟩) ?_ ?_
  rotate_left
  · intro w'
    go_simp
    with_reducible rfl
  rotate_left
  · simp only [Act.put, lA_, lZ_, lS_, i64_w, i32_w]
    rfl
  refine take_ (i := 2) (N := some 60) (v := ?_) (a' := ?_) #[true, true, true, false, false, false, false, false, false, false, false] rfl rfl (by kernel_rfl) (fun _ _ _ h => h) (Or.inl ⟨by rfl, ?_⟩) hHeld ?_ ?_
  rotate_left
  · rintro w' s0
    go_simp
    with_reducible rfl
  rotate_left
  · simp only [Act.put, lA_, lZ_, lS_, i64_w, i32_w]
    rfl
  refine pure_ (i := 3) (N := some 61) (v := ?_) (a' := ?_) #[true, true, true, true, false, false, false, false, false, false, false] rfl rfl (by kernel_rfl) (fun _ _ _ h => h) (Or.inl ⟨by rfl, ?_⟩) ?_ ?_
  rotate_left
  · intro w'
    go_simp
    with_reducible rfl
  rotate_left
  · simp only [Act.put, lA_, lZ_, lS_, i64_w, i32_w]
    rfl
  refine pure_ (i := 4) (N := some 62) (v := ?_) (a' := ?_) #[true, true, true, true, true, false, false, false, false, false, false] rfl rfl (by kernel_rfl) (fun _ _ _ h => h) (Or.inl ⟨by rfl, ?_⟩) ?_ ?_
  rotate_left
  · intro w'
    go_simp
    with_reducible rfl
  rotate_left
  · simp only [Act.put, lA_, lZ_, lS_, i64_w, i32_w]
    rfl
  refine pure_ (i := 5) (N := some 63) (v := ?_) (a' := ?_) #[true, true, true, true, true, true, false, false, false, false, false] rfl rfl (by kernel_rfl) (fun _ _ _ h => h) (Or.inl ⟨by rfl, ?_⟩) ?_ ?_
  rotate_left
  · intro w'
    go_simp
    with_reducible rfl
  rotate_left
  · simp only [Act.put, lA_, lZ_, lS_, i64_w, i32_w]
    rfl
  refine one_ (i := 6) (N := some 64) #[true, true, true, true, true, true, true, false, false, false, false] rfl rfl (by kernel_rfl) (by decide) (fun K hK => ?_)
  refine Kd.R_lit_step (Kd.int .i64) _ 2 ?hg (N := 64) ?hd (xs := ([3, sI, sR] : List Int)) (inner := [.int .i64 3, .int .i64 sI, .int .i64 sR]) (ok := fun _ => True) (okp := fun _ => True) ?hr ?hp (fun _ hk => hk) trivial (Below.refl _ _) (Nat.le_refl _) (by simp) ?_; (case hd => rfl); (case hg => rfl); (case hr => first | (go_simp; done) | (go_simp; rfl)); (case hp => exact reps_ints _)
  intro v6 w6 ho hb hg_ hn_
  clear hg_ hn_
  obtain ⟨AP, cP, eP⟩ := Kd.R_slice ho
  subst eP
  have HP := Aside0.mk ho
  have n0_ := Aside0.mk (HS.out.below hb)
  have n1_ := Aside0.mk (blk_below BL.out hb)
  have n2_ := Aside0.mk (blk_below BK.out hb)
  clear HS BL BK hb ho
  have HS := n0_; have BL := n1_; have BK := n2_
  clear n0_ n1_ n2_
  refine hK.out _ _ ((blk_cell BL.out 0).trans rfl) (fun hHeld => ?_)
  clear hK K
  refine norm_ (a' := ?_) ?_ ?_
  rotate_left
  · show Act.put _ (some 64) _ = _
    simp only [Act.put, lA_, lZ_, lS_, i64_w, i32_w]
    rfl
  refine one_ (i := 7) (N := some 65) #[true, true, true, true, true, true, true, true, false, false, false] rfl rfl (by kernel_rfl) (by decide) (fun K hK => ?_)
  refine goes_ Try.func71 (by kernel_rfl) rfl #[.pointer (some ⟨S, 0, none⟩), .slice AP 3 cP] (by rfl) rfl rfl (by (try simp only [List.map_toArray, List.map_cons, List.map_nil]); first | done | rfl) ?_
  refine (impl_sheet_names.callsE AP cP [3, sI, sR] 3 r8 HS.out HL7.out rfl (Kd.R_reads' HP.out).2.2 (Kd.R_reads' HP.out).2.1 (far_row HP.out (by decide) (by decide)) (by simp) H8.out).mono ?_
  rintro e w7 ⟨rfl, hs, hk⟩
  refine ⟨_, rfl, ?_⟩
  have n0_ := Aside0.mk (blk_keepT BL.out hk (by decide) (by decide))
  have n1_ := Aside0.mk (blk_keepT BK.out hk (by decide) (by decide))
  clear HS BL BK
  have HS := Aside0.mk hs; have BL := n0_; have BK := n1_
  clear n0_ n1_ hs hk
  clear HP
  refine hK.out _ _ ((blk_cell BL.out 0).trans rfl) (fun hHeld => ?_)
  clear hK K
  refine norm_ (a' := ?_) ?_ ?_
  rotate_left
  · show Act.put _ (some 65) _ = _
    simp only [Act.put, lA_, lZ_, lS_, i64_w, i32_w]
    rfl
  refine one_ (i := 8) (N := some 66) #[true, true, true, true, true, true, true, true, true, false, false] rfl rfl (by kernel_rfl) (by decide) (fun K hK => ?_)
  refine goes_ Try.func103 (by kernel_rfl) rfl #[.pointer (some ⟨S, 0, none⟩), .int .i64 r3.1, .int .i64 r8.1] (by rfl) rfl rfl (by (try simp only [List.map_toArray, List.map_cons, List.map_nil]); first | done | rfl) ?_
  refine (impl_sheet_prf.callsE r3.1 r8.1 r9 HS.out HL8.out H9.out).mono ?_
  rintro e w8 ⟨rfl, hs, hk⟩
  refine ⟨_, rfl, ?_⟩
  have n0_ := Aside0.mk (blk_keepT BL.out hk (by decide) (by decide))
  have n1_ := Aside0.mk (blk_keepT BK.out hk (by decide) (by decide))
  clear HS BL BK
  have HS := Aside0.mk hs; have BL := n0_; have BK := n1_
  clear n0_ n1_ hs hk
  refine hK.out _ _ ((blk_cell BL.out 0).trans rfl) (fun hHeld => ?_)
  clear hK K
  refine norm_ (a' := ?_) ?_ ?_
  rotate_left
  · show Act.put _ (some 66) _ = _
    simp only [Act.put, lA_, lZ_, lS_, i64_w, i32_w]
    rfl
  refine pure_ (i := 9) (N := some 67) (v := ?_) (a' := ?_) #[true, true, true, true, true, true, true, true, true, true, false] rfl rfl (by kernel_rfl) (fun _ _ _ h => h) (Or.inl ⟨by rfl, ?_⟩) ?_ ?_
  rotate_left
  · intro w'
    go_simp
    with_reducible rfl
  rotate_left
  · simp only [Act.put, lA_, lZ_, lS_, i64_w, i32_w]
    rfl
  refine last_ (i := 10) (N := none) #[true, true, true, true, true, true, true, true, true, true, true] rfl rfl (by kernel_rfl) (by decide) (fun K hK => ?_)
  have y_ : w8.cell? ⟨gl, 3, none⟩ = some (.int .i64 0) := (blk_cell BL.out 3).trans rfl
  have z_ := blk_frozen BL.out 3
  refine skip_ (w1 := ?_) (by rfl) rfl ?_ ?_
  rotate_left
  · go_simp
    rfl
  refine hK.out _ _ ?_
  clear hK K
  refine done_ (by kernel_rfl) ?_
  have n0_ := Aside0.mk (SE.far HS.out BL.out (by decide) (by decide) GL.out (Nat.le_trans HN.out GL.out) 3 (.int .i64 r9.1))
  have n1_ : Aside0 ((w8.setCell ⟨gl, 3, none⟩ (.int .i64 r9.1)).heap[gl]? = some (.cells #[.int .i64 r3.1, .int .i64 r5.1, .int .i64 r7.1, .int .i64 r9.1] 62 (0, 0))) := Aside0.mk (blk_put BL.out 3 (.int .i64 r9.1) rfl)
  have n2_ := Aside0.mk (blk_far BK.out (p := ⟨gl, 3, none⟩) NE.out (.int .i64 r9.1))
  clear HS BL BK y_ z_ hHeld
  have HS := n0_; have BL := n1_; have BK := n2_
  clear n0_ n1_ n2_
  generalize hw9 : w8.setCell ⟨gl, 3, none⟩ (.int .i64 r9.1) = w9 at HS BL BK ⊢
  clear hw9
  have y0_ : w9.cell? ⟨gl, 0, none⟩ = some (.int .i64 r3.1) := (blk_cell BL.out 0).trans rfl; have y1_ : w9.cell? ⟨gl, 1, none⟩ = some (.int .i64 r5.1) := (blk_cell BL.out 1).trans rfl; have y2_ : w9.cell? ⟨gl, 2, none⟩ = some (.int .i64 r7.1) := (blk_cell BL.out 2).trans rfl; have y3_ : w9.cell? ⟨gl, 3, none⟩ = some (.int .i64 r9.1) := (blk_cell BL.out 3).trans rfl
  have x0_ : w9.cell? ⟨g14, 0, none⟩ = some (.int .i64 0) := (blk_cell BK.out 0).trans rfl; have x1_ : w9.cell? ⟨g14, 1, none⟩ = some (.int .i64 0) := (blk_cell BK.out 1).trans rfl; have x2_ : w9.cell? ⟨g14, 2, none⟩ = some (.int .i64 0) := (blk_cell BK.out 2).trans rfl; have x3_ : w9.cell? ⟨g14, 3, none⟩ = some (.int .i64 0) := (blk_cell BK.out 3).trans rfl
  have z0_ := blk_frozen BK.out 0; have z1_ := blk_frozen BK.out 1; have z2_ := blk_frozen BK.out 2; have z3_ := blk_frozen BK.out 3
  have ne1_ := NE.out
  have ne2_ := NE.out.symm
  go_wp2
  refine bodyPost_ret (results_cell_row rfl _ _ g14 62 #[.int .i64 r3.1, .int .i64 r5.1, .int .i64 r7.1, .int .i64 r9.1] (0, 0) _ rfl (blk_put (blk_put (blk_put (blk_put BK.out 0 _ rfl) 1 _ rfl) 2 _ rfl) 3 _ rfl) Try.underlying62 rfl (by kernel_rfl)) rfl ?_
  exact ⟨rfl, (SE.far (SE.far (SE.far (SE.far HS.out BK.out (by decide) (by decide) GE.out (Nat.le_trans HN.out GE.out) 0 _) (blk_put BK.out 0 _ rfl) (by decide) (by decide) GE.out (Nat.le_trans HN.out GE.out) 1 _) (blk_put (blk_put BK.out 0 _ rfl) 1 _ rfl) (by decide) (by decide) GE.out (Nat.le_trans HN.out GE.out) 2 _) (blk_put (blk_put (blk_put BK.out 0 _ rfl) 1 _ rfl) 2 _ rfl) (by decide) (by decide) GE.out (Nat.le_trans HN.out GE.out) 3 _)⟩
end Go.Proofs.Ytomaeijhljpgdaa.G
namespace Go.Proofs.Ytomaeijhljpgdaa.G
open Go.RowKit Go.Proofs.YtomaeijhljpgdaaW.PrintWords Go.Proofs.YtomaeijhljpgdaaW.PrintLast Go.Proofs.YtomaeijhljpgdaaW.PrintMore
attribute [local go_sem] max2_int min2_int max_two min_two max_three min_three max_four min_four   -- for this text's walks alone
set_option linter.unusedVariables false
set_option linter.unusedSimpArgs false
def impl_MakeKeys.f (k : Nat) (l0 : List S26) (a1 a2 a3 a4 a5 a6 : Int) : Option (Int × Int × Int × Int × Int × List S26) := (impl_namesFault.f k l0 [a5, a6] [a1, a2, a3, a4]).bind fun c => (if c = 0 then (if l0.length ≤ 400 ∧ (0 ≤ a3 ∧ a3 < (l0.length : Int)) ∧ (0 ≤ a4 ∧ a4 < (l0.length : Int)) then (if (rd_T26 l0 a3).f0 = 2 then (if (rd_T26 l0 a4).f0 = 6 then ((keysT l0 false a1 a2 a3 a4 a5 a6).bind fun r => (if r.2.2.2.2.2 = true then (some (2, 0, 0, 0, 0, [])) else (some (0, r.1, r.2.1, r.2.2.1, r.2.2.2.1, r.2.2.2.2.1)))) else (some (1, 0, 0, 0, 0, []))) else (some (1, 0, 0, 0, 0, []))) else none) else (some (c, 0, 0, 0, 0, [])))
set_option maxHeartbeats 8000000 in
set_option maxRecDepth 100000 in
theorem impl_MakeKeys.calls (k : Nat) (A0 : Option Addr) (c0 : Nat) (l0 : List (S26)) (a1 a2 a3 a4 a5 a6 : Int) (r1 : Int) (r2 : Int) (r3 : Int) (r4 : Int) (r5 : Int) (r6 : List (S26)) (w : World) (hr0 : Kd.C k26 w A0 l0.length l0) (hc0 : l0.length ≤ c0) (h : impl_MakeKeys.f k l0 a1 a2 a3 a4 a5 a6 = some (r1, r2, r3, r4, r5, r6)) :
    Calls Try.prog 41 #[.slice A0 l0.length c0, .int .i64 a1, .int .i64 a2, .int .i64 a3, .int .i64 a4, .int .i64 a5, .int .i64 a6] w fun e w' => ∃ v5_ : Value, e = .returned (.agg #[.int .i64 r1, .int .i64 r2, .int .i64 r3, .int .i64 r4, .int .i64 r5, v5_]) ∧ Kd.R k26 26 w' w.heap.size (fun _ => True) v5_ r6 ∧ Below w.heap.size w w' := by
  unfold impl_MakeKeys.f at h
  obtain ⟨c, hf, h⟩ := Option.bind_eq_some_iff.mp h
  have HF := Aside0.mk hf
  clear hf
  have HR := Aside0.mk hr0
  have HC := Aside0.mk hc0
  have HB := Aside0.mk (Below.refl w.heap.size w)
  clear hr0 hc0
  by_cases hz : c = 0
  · rw [if_pos hz] at h
    subst hz
    by_cases hg : (l0.length ≤ 400 ∧ (0 ≤ a3 ∧ a3 < (l0.length : Int)) ∧ (0 ≤ a4 ∧ a4 < (l0.length : Int)))
    rotate_left
    · rw [if_neg hg] at h; cases h
    rw [if_pos hg] at h
    obtain ⟨hl4, hg3, hg4⟩ := hg
    obtain ⟨adT, e, o0, o1, o2, o3⟩ := at_T26 HR.out a3 hg3.1 hg3.2
    obtain ⟨adU, e2, u0, u1, u2, u3⟩ := at_T26 HR.out a4 hg4.1 hg4.2
    subst e
    obtain rfl : adT = adU := by injection e2
    have HXO := Aside0.mk o0
    have HXH := Aside0.mk u0
    have p1 := eq_true hg3.1; have p2 := eq_true hg3.2; have p3 := eq_true hg4.1; have p4 := eq_true hg4.2
    have HL4 := Aside0.mk hl4
    have HL := Aside0.mk (show l0.length * 32 ≤ 140737488355328 by have := HL4.out; omega)
    clear o0 o1 o2 o3 u0 u1 u2 u3 e2 hg3 hg4 hl4
    generalize (rd_T26 l0 a3).f0 = oa at HXO h
    generalize (rd_T26 l0 a4).f0 = ob at HXH h
    by_cases h2 : oa = 2
    rotate_left
    · rw [if_neg h2] at h
      have b0 : (oa == 2) = false := by simpa using h2
      have b1 : (oa != 2) = true := by simpa using h2
      simp only [Option.some.injEq, Prod.mk.injEq] at h
      obtain ⟨rfl, rfl, rfl, rfl, rfl, rfl⟩ := h
      go_enter Try.func41, Try.ntmps41
      go_wp2_with (first | ((with_reducible refine gate_dst (N := 14) rfl ?_); refine box_event ?hg (N := 14) ?hd (cs := #[.int .i64 0, .int .i64 0, .int .i64 0, .int .i64 0, .int .i64 0, .slice none 0 0]) (t := 64) ?hr ?_; (case hd => rfl); (case hg => rfl); (case hr => first | (go_simp; done) | (go_simp; rfl)); intro g14 hg w2 hbox hb; have n0_ := Aside0.mk (below_step HB.out hb); have BK := Aside0.mk hbox; have GE := Aside0.mk (show w.heap.size ≤ g14 by rw [hg]; exact below_size HB.out); clear HB; have HB := n0_; clear n0_ hb hbox hg; (try clear q0_ q1_ q2_ q3_ q4_ q5_ f0_ f1_ f2_ f3_ f4_ f5_); have q0_ : w2.cell? ⟨g14, 0, none⟩ = some (.int .i64 0) := (blk_cell BK.out 0).trans rfl; have q1_ : w2.cell? ⟨g14, 1, none⟩ = some (.int .i64 0) := (blk_cell BK.out 1).trans rfl; have q2_ : w2.cell? ⟨g14, 2, none⟩ = some (.int .i64 0) := (blk_cell BK.out 2).trans rfl; have q3_ : w2.cell? ⟨g14, 3, none⟩ = some (.int .i64 0) := (blk_cell BK.out 3).trans rfl; have q4_ : w2.cell? ⟨g14, 4, none⟩ = some (.int .i64 0) := (blk_cell BK.out 4).trans rfl; have q5_ : w2.cell? ⟨g14, 5, none⟩ = some (.slice none 0 0) := (blk_cell BK.out 5).trans rfl; have f0_ := blk_frozen BK.out 0; have f1_ := blk_frozen BK.out 1; have f2_ := blk_frozen BK.out 2; have f3_ := blk_frozen BK.out 3; have f4_ := blk_frozen BK.out 4; have f5_ := blk_frozen BK.out 5) | ((with_reducible refine gate_dst (N := 21) rfl ?_); refine Kd.R_lit (Kd.int .i64) _ 2 ?hg (N := 21) ?hd (xs := ([a5, a6] : List Int)) (inner := [.int .i64 a5, .int .i64 a6]) (ok := fun _ => True) (okp := fun _ => True) ?hr ?hp (fun _ hk => hk) trivial (Below.refl _ _) (Nat.le_refl _) (by simp) ?_; (case hd => rfl); (case hg => rfl); (case hr => first | (go_simp; done) | (go_simp; rfl)); (case hp => exact reps_ints _); intro v1 w1 ho hb hg hn; clear hg hn; obtain ⟨AP, cP, eP⟩ := Kd.R_slice ho; subst eP; have HP := Aside0.mk ho; clear ho; have n0_ := Aside0.mk (below_step HB.out hb); have n1_ := Aside0.mk (blk_below BK.out hb); clear HB BK; have HB := n0_; have BK := n1_; clear n0_ n1_; clear hb; (try clear q0_ q1_ q2_ q3_ q4_ q5_ f0_ f1_ f2_ f3_ f4_ f5_); have q0_ : w1.cell? ⟨g14, 0, none⟩ = some (.int .i64 0) := (blk_cell BK.out 0).trans rfl; have q1_ : w1.cell? ⟨g14, 1, none⟩ = some (.int .i64 0) := (blk_cell BK.out 1).trans rfl; have q2_ : w1.cell? ⟨g14, 2, none⟩ = some (.int .i64 0) := (blk_cell BK.out 2).trans rfl; have q3_ : w1.cell? ⟨g14, 3, none⟩ = some (.int .i64 0) := (blk_cell BK.out 3).trans rfl; have q4_ : w1.cell? ⟨g14, 4, none⟩ = some (.int .i64 0) := (blk_cell BK.out 4).trans rfl; have q5_ : w1.cell? ⟨g14, 5, none⟩ = some (.slice none 0 0) := (blk_cell BK.out 5).trans rfl; have f0_ := blk_frozen BK.out 0; have f1_ := blk_frozen BK.out 1; have f2_ := blk_frozen BK.out 2; have f3_ := blk_frozen BK.out 3; have f4_ := blk_frozen BK.out 4; have f5_ := blk_frozen BK.out 5) | ((with_reducible refine gate_dst (N := 26) rfl ?_); refine Kd.R_lit (Kd.int .i64) _ 2 ?hg (N := 26) ?hd (xs := ([a1, a2, a3, a4] : List Int)) (inner := [.int .i64 a1, .int .i64 a2, .int .i64 a3, .int .i64 a4]) (ok := fun _ => True) (okp := fun _ => True) ?hr ?hp (fun _ hk => hk) trivial (Below.refl _ _) (Nat.le_refl _) (by simp) ?_; (case hd => rfl); (case hg => rfl); (case hr => first | (go_simp; done) | (go_simp; rfl)); (case hp => exact reps_ints _); intro v1 w1 ho hb hg hn; clear hg hn; obtain ⟨AQ, cQ, eQ⟩ := Kd.R_slice ho; subst eQ; have HQ := Aside0.mk ho; clear ho; have n0_ := Aside0.mk (below_step HB.out hb); have n1_ := Aside0.mk (blk_below BK.out hb); have n2_ := Aside0.mk (Kd.R_below HP.out hb); clear HB BK HP; have HB := n0_; have BK := n1_; have HP := n2_; clear n0_ n1_ n2_; clear hb; (try clear q0_ q1_ q2_ q3_ q4_ q5_ f0_ f1_ f2_ f3_ f4_ f5_); have q0_ : w1.cell? ⟨g14, 0, none⟩ = some (.int .i64 0) := (blk_cell BK.out 0).trans rfl; have q1_ : w1.cell? ⟨g14, 1, none⟩ = some (.int .i64 0) := (blk_cell BK.out 1).trans rfl; have q2_ : w1.cell? ⟨g14, 2, none⟩ = some (.int .i64 0) := (blk_cell BK.out 2).trans rfl; have q3_ : w1.cell? ⟨g14, 3, none⟩ = some (.int .i64 0) := (blk_cell BK.out 3).trans rfl; have q4_ : w1.cell? ⟨g14, 4, none⟩ = some (.int .i64 0) := (blk_cell BK.out 4).trans rfl; have q5_ : w1.cell? ⟨g14, 5, none⟩ = some (.slice none 0 0) := (blk_cell BK.out 5).trans rfl; have f0_ := blk_frozen BK.out 0; have f1_ := blk_frozen BK.out 1; have f2_ := blk_frozen BK.out 2; have f3_ := blk_frozen BK.out 3; have f4_ := blk_frozen BK.out 4; have f5_ := blk_frozen BK.out 5) | (go_at_call 70; refine (impl_namesFault.calls k (some adT) c0 l0 AP cP [a5, a6] AQ cQ [a1, a2, a3, a4] _ _ (Kd.C_below HR.out HB.out) HC.out (Kd.R_reads' HP.out).2.2 (Kd.R_reads' HP.out).2.1 (Kd.R_reads' HQ.out).2.2 (Kd.R_reads' HQ.out).2.1 HF.out).mono ?_; rintro e w4 ⟨rfl, hb⟩; have n0_ := Aside0.mk (below_step HB.out hb); have n1_ := Aside0.mk (blk_below BK.out hb); have n2_ := Aside0.mk (Kd.R_below HP.out hb); have n3_ := Aside0.mk (Kd.R_below HQ.out hb); clear HB BK HP HQ; have HB := n0_; have BK := n1_; have HP := n2_; have HQ := n3_; clear n0_ n1_ n2_ n3_; clear hb; (try clear q0_ q1_ q2_ q3_ q4_ q5_ f0_ f1_ f2_ f3_ f4_ f5_); have q0_ : w4.cell? ⟨g14, 0, none⟩ = some (.int .i64 0) := (blk_cell BK.out 0).trans rfl; have q1_ : w4.cell? ⟨g14, 1, none⟩ = some (.int .i64 0) := (blk_cell BK.out 1).trans rfl; have q2_ : w4.cell? ⟨g14, 2, none⟩ = some (.int .i64 0) := (blk_cell BK.out 2).trans rfl; have q3_ : w4.cell? ⟨g14, 3, none⟩ = some (.int .i64 0) := (blk_cell BK.out 3).trans rfl; have q4_ : w4.cell? ⟨g14, 4, none⟩ = some (.int .i64 0) := (blk_cell BK.out 4).trans rfl; have q5_ : w4.cell? ⟨g14, 5, none⟩ = some (.slice none 0 0) := (blk_cell BK.out 5).trans rfl; have f0_ := blk_frozen BK.out 0; have f1_ := blk_frozen BK.out 1; have f2_ := blk_frozen BK.out 2; have f3_ := blk_frozen BK.out 3; have f4_ := blk_frozen BK.out 4; have f5_ := blk_frozen BK.out 5; have ho_ := pw_cell_below HB.out HXO.out; have hh_ := pw_cell_below HB.out HXH.out))
      refine bodyPost_ret (results_cell_row rfl _ _ g14 64 #[.int .i64 1, .int .i64 0, .int .i64 0, .int .i64 0, .int .i64 0, .slice none 0 0] (0, 0) _ rfl (blk_put (blk_put (blk_put (blk_put (blk_put (blk_put BK.out 0 _ rfl) 1 _ rfl) 2 _ rfl) 3 _ rfl) 4 _ rfl) 5 _ rfl) Try.underlying64 rfl (by kernel_rfl)) rfl ?_
      exact ⟨_, rfl, Kd.R_nil _ _ _ _ _, below_set (below_set (below_set (below_set (below_set (below_set HB.out GE.out) GE.out) GE.out) GE.out) GE.out) GE.out⟩
    rw [if_pos h2] at h
    subst h2
    by_cases h6 : ob = 6
    rotate_left
    · rw [if_neg h6] at h
      have b0 : (ob == 6) = false := by simpa using h6
      have b1 : (ob != 6) = true := by simpa using h6
      simp only [Option.some.injEq, Prod.mk.injEq] at h
      obtain ⟨rfl, rfl, rfl, rfl, rfl, rfl⟩ := h
      go_enter Try.func41, Try.ntmps41
      go_wp2_with (first | ((with_reducible refine gate_dst (N := 14) rfl ?_); refine box_event ?hg (N := 14) ?hd (cs := #[.int .i64 0, .int .i64 0, .int .i64 0, .int .i64 0, .int .i64 0, .slice none 0 0]) (t := 64) ?hr ?_; (case hd => rfl); (case hg => rfl); (case hr => first | (go_simp; done) | (go_simp; rfl)); intro g14 hg w2 hbox hb; have n0_ := Aside0.mk (below_step HB.out hb); have BK := Aside0.mk hbox; have GE := Aside0.mk (show w.heap.size ≤ g14 by rw [hg]; exact below_size HB.out); clear HB; have HB := n0_; clear n0_ hb hbox hg; (try clear q0_ q1_ q2_ q3_ q4_ q5_ f0_ f1_ f2_ f3_ f4_ f5_); have q0_ : w2.cell? ⟨g14, 0, none⟩ = some (.int .i64 0) := (blk_cell BK.out 0).trans rfl; have q1_ : w2.cell? ⟨g14, 1, none⟩ = some (.int .i64 0) := (blk_cell BK.out 1).trans rfl; have q2_ : w2.cell? ⟨g14, 2, none⟩ = some (.int .i64 0) := (blk_cell BK.out 2).trans rfl; have q3_ : w2.cell? ⟨g14, 3, none⟩ = some (.int .i64 0) := (blk_cell BK.out 3).trans rfl; have q4_ : w2.cell? ⟨g14, 4, none⟩ = some (.int .i64 0) := (blk_cell BK.out 4).trans rfl; have q5_ : w2.cell? ⟨g14, 5, none⟩ = some (.slice none 0 0) := (blk_cell BK.out 5).trans rfl; have f0_ := blk_frozen BK.out 0; have f1_ := blk_frozen BK.out 1; have f2_ := blk_frozen BK.out 2; have f3_ := blk_frozen BK.out 3; have f4_ := blk_frozen BK.out 4; have f5_ := blk_frozen BK.out 5) | ((with_reducible refine gate_dst (N := 21) rfl ?_); refine Kd.R_lit (Kd.int .i64) _ 2 ?hg (N := 21) ?hd (xs := ([a5, a6] : List Int)) (inner := [.int .i64 a5, .int .i64 a6]) (ok := fun _ => True) (okp := fun _ => True) ?hr ?hp (fun _ hk => hk) trivial (Below.refl _ _) (Nat.le_refl _) (by simp) ?_; (case hd => rfl); (case hg => rfl); (case hr => first | (go_simp; done) | (go_simp; rfl)); (case hp => exact reps_ints _); intro v1 w1 ho hb hg hn; clear hg hn; obtain ⟨AP, cP, eP⟩ := Kd.R_slice ho; subst eP; have HP := Aside0.mk ho; clear ho; have n0_ := Aside0.mk (below_step HB.out hb); have n1_ := Aside0.mk (blk_below BK.out hb); clear HB BK; have HB := n0_; have BK := n1_; clear n0_ n1_; clear hb; (try clear q0_ q1_ q2_ q3_ q4_ q5_ f0_ f1_ f2_ f3_ f4_ f5_); have q0_ : w1.cell? ⟨g14, 0, none⟩ = some (.int .i64 0) := (blk_cell BK.out 0).trans rfl; have q1_ : w1.cell? ⟨g14, 1, none⟩ = some (.int .i64 0) := (blk_cell BK.out 1).trans rfl; have q2_ : w1.cell? ⟨g14, 2, none⟩ = some (.int .i64 0) := (blk_cell BK.out 2).trans rfl; have q3_ : w1.cell? ⟨g14, 3, none⟩ = some (.int .i64 0) := (blk_cell BK.out 3).trans rfl; have q4_ : w1.cell? ⟨g14, 4, none⟩ = some (.int .i64 0) := (blk_cell BK.out 4).trans rfl; have q5_ : w1.cell? ⟨g14, 5, none⟩ = some (.slice none 0 0) := (blk_cell BK.out 5).trans rfl; have f0_ := blk_frozen BK.out 0; have f1_ := blk_frozen BK.out 1; have f2_ := blk_frozen BK.out 2; have f3_ := blk_frozen BK.out 3; have f4_ := blk_frozen BK.out 4; have f5_ := blk_frozen BK.out 5) | ((with_reducible refine gate_dst (N := 26) rfl ?_); refine Kd.R_lit (Kd.int .i64) _ 2 ?hg (N := 26) ?hd (xs := ([a1, a2, a3, a4] : List Int)) (inner := [.int .i64 a1, .int .i64 a2, .int .i64 a3, .int .i64 a4]) (ok := fun _ => True) (okp := fun _ => True) ?hr ?hp (fun _ hk => hk) trivial (Below.refl _ _) (Nat.le_refl _) (by simp) ?_; (case hd => rfl); (case hg => rfl); (case hr => first | (go_simp; done) | (go_simp; rfl)); (case hp => exact reps_ints _); intro v1 w1 ho hb hg hn; clear hg hn; obtain ⟨AQ, cQ, eQ⟩ := Kd.R_slice ho; subst eQ; have HQ := Aside0.mk ho; clear ho; have n0_ := Aside0.mk (below_step HB.out hb); have n1_ := Aside0.mk (blk_below BK.out hb); have n2_ := Aside0.mk (Kd.R_below HP.out hb); clear HB BK HP; have HB := n0_; have BK := n1_; have HP := n2_; clear n0_ n1_ n2_; clear hb; (try clear q0_ q1_ q2_ q3_ q4_ q5_ f0_ f1_ f2_ f3_ f4_ f5_); have q0_ : w1.cell? ⟨g14, 0, none⟩ = some (.int .i64 0) := (blk_cell BK.out 0).trans rfl; have q1_ : w1.cell? ⟨g14, 1, none⟩ = some (.int .i64 0) := (blk_cell BK.out 1).trans rfl; have q2_ : w1.cell? ⟨g14, 2, none⟩ = some (.int .i64 0) := (blk_cell BK.out 2).trans rfl; have q3_ : w1.cell? ⟨g14, 3, none⟩ = some (.int .i64 0) := (blk_cell BK.out 3).trans rfl; have q4_ : w1.cell? ⟨g14, 4, none⟩ = some (.int .i64 0) := (blk_cell BK.out 4).trans rfl; have q5_ : w1.cell? ⟨g14, 5, none⟩ = some (.slice none 0 0) := (blk_cell BK.out 5).trans rfl; have f0_ := blk_frozen BK.out 0; have f1_ := blk_frozen BK.out 1; have f2_ := blk_frozen BK.out 2; have f3_ := blk_frozen BK.out 3; have f4_ := blk_frozen BK.out 4; have f5_ := blk_frozen BK.out 5) | (go_at_call 70; refine (impl_namesFault.calls k (some adT) c0 l0 AP cP [a5, a6] AQ cQ [a1, a2, a3, a4] _ _ (Kd.C_below HR.out HB.out) HC.out (Kd.R_reads' HP.out).2.2 (Kd.R_reads' HP.out).2.1 (Kd.R_reads' HQ.out).2.2 (Kd.R_reads' HQ.out).2.1 HF.out).mono ?_; rintro e w4 ⟨rfl, hb⟩; have n0_ := Aside0.mk (below_step HB.out hb); have n1_ := Aside0.mk (blk_below BK.out hb); have n2_ := Aside0.mk (Kd.R_below HP.out hb); have n3_ := Aside0.mk (Kd.R_below HQ.out hb); clear HB BK HP HQ; have HB := n0_; have BK := n1_; have HP := n2_; have HQ := n3_; clear n0_ n1_ n2_ n3_; clear hb; (try clear q0_ q1_ q2_ q3_ q4_ q5_ f0_ f1_ f2_ f3_ f4_ f5_); have q0_ : w4.cell? ⟨g14, 0, none⟩ = some (.int .i64 0) := (blk_cell BK.out 0).trans rfl; have q1_ : w4.cell? ⟨g14, 1, none⟩ = some (.int .i64 0) := (blk_cell BK.out 1).trans rfl; have q2_ : w4.cell? ⟨g14, 2, none⟩ = some (.int .i64 0) := (blk_cell BK.out 2).trans rfl; have q3_ : w4.cell? ⟨g14, 3, none⟩ = some (.int .i64 0) := (blk_cell BK.out 3).trans rfl; have q4_ : w4.cell? ⟨g14, 4, none⟩ = some (.int .i64 0) := (blk_cell BK.out 4).trans rfl; have q5_ : w4.cell? ⟨g14, 5, none⟩ = some (.slice none 0 0) := (blk_cell BK.out 5).trans rfl; have f0_ := blk_frozen BK.out 0; have f1_ := blk_frozen BK.out 1; have f2_ := blk_frozen BK.out 2; have f3_ := blk_frozen BK.out 3; have f4_ := blk_frozen BK.out 4; have f5_ := blk_frozen BK.out 5; have ho_ := pw_cell_below HB.out HXO.out; have hh_ := pw_cell_below HB.out HXH.out))
      refine bodyPost_ret (results_cell_row rfl _ _ g14 64 #[.int .i64 1, .int .i64 0, .int .i64 0, .int .i64 0, .int .i64 0, .slice none 0 0] (0, 0) _ rfl (blk_put (blk_put (blk_put (blk_put (blk_put (blk_put BK.out 0 _ rfl) 1 _ rfl) 2 _ rfl) 3 _ rfl) 4 _ rfl) 5 _ rfl) Try.underlying64 rfl (by kernel_rfl)) rfl ?_
      exact ⟨_, rfl, Kd.R_nil _ _ _ _ _, below_set (below_set (below_set (below_set (below_set (below_set HB.out GE.out) GE.out) GE.out) GE.out) GE.out) GE.out⟩
    rw [if_pos h6] at h
    subst h6
    obtain ⟨r, hk, h⟩ := Option.bind_eq_some_iff.mp h
    obtain ⟨k1, k2, k3, k4, lt, fl⟩ := r
    have HKK := Aside0.mk hk
    clear hk
    dsimp only at h
    cases fl with
    | true =>
      rw [if_pos rfl] at h
      simp only [Option.some.injEq, Prod.mk.injEq] at h
      obtain ⟨rfl, rfl, rfl, rfl, rfl, rfl⟩ := h
      go_enter Try.func41, Try.ntmps41
      go_wp2_with (first | ((with_reducible refine gate_dst (N := 14) rfl ?_); refine box_event ?hg (N := 14) ?hd (cs := #[.int .i64 0, .int .i64 0, .int .i64 0, .int .i64 0, .int .i64 0, .slice none 0 0]) (t := 64) ?hr ?_; (case hd => rfl); (case hg => rfl); (case hr => first | (go_simp; done) | (go_simp; rfl)); intro g14 hg w2 hbox hb; have n0_ := Aside0.mk (below_step HB.out hb); have BK := Aside0.mk hbox; have GE := Aside0.mk (show w.heap.size ≤ g14 by rw [hg]; exact below_size HB.out); clear HB; have HB := n0_; clear n0_ hb hbox hg; (try clear q0_ q1_ q2_ q3_ q4_ q5_ f0_ f1_ f2_ f3_ f4_ f5_); have q0_ : w2.cell? ⟨g14, 0, none⟩ = some (.int .i64 0) := (blk_cell BK.out 0).trans rfl; have q1_ : w2.cell? ⟨g14, 1, none⟩ = some (.int .i64 0) := (blk_cell BK.out 1).trans rfl; have q2_ : w2.cell? ⟨g14, 2, none⟩ = some (.int .i64 0) := (blk_cell BK.out 2).trans rfl; have q3_ : w2.cell? ⟨g14, 3, none⟩ = some (.int .i64 0) := (blk_cell BK.out 3).trans rfl; have q4_ : w2.cell? ⟨g14, 4, none⟩ = some (.int .i64 0) := (blk_cell BK.out 4).trans rfl; have q5_ : w2.cell? ⟨g14, 5, none⟩ = some (.slice none 0 0) := (blk_cell BK.out 5).trans rfl; have f0_ := blk_frozen BK.out 0; have f1_ := blk_frozen BK.out 1; have f2_ := blk_frozen BK.out 2; have f3_ := blk_frozen BK.out 3; have f4_ := blk_frozen BK.out 4; have f5_ := blk_frozen BK.out 5) | ((with_reducible refine gate_dst (N := 21) rfl ?_); refine Kd.R_lit (Kd.int .i64) _ 2 ?hg (N := 21) ?hd (xs := ([a5, a6] : List Int)) (inner := [.int .i64 a5, .int .i64 a6]) (ok := fun _ => True) (okp := fun _ => True) ?hr ?hp (fun _ hk => hk) trivial (Below.refl _ _) (Nat.le_refl _) (by simp) ?_; (case hd => rfl); (case hg => rfl); (case hr => first | (go_simp; done) | (go_simp; rfl)); (case hp => exact reps_ints _); intro v1 w1 ho hb hg hn; clear hg hn; obtain ⟨AP, cP, eP⟩ := Kd.R_slice ho; subst eP; have HP := Aside0.mk ho; clear ho; have n0_ := Aside0.mk (below_step HB.out hb); have n1_ := Aside0.mk (blk_below BK.out hb); clear HB BK; have HB := n0_; have BK := n1_; clear n0_ n1_; clear hb; (try clear q0_ q1_ q2_ q3_ q4_ q5_ f0_ f1_ f2_ f3_ f4_ f5_); have q0_ : w1.cell? ⟨g14, 0, none⟩ = some (.int .i64 0) := (blk_cell BK.out 0).trans rfl; have q1_ : w1.cell? ⟨g14, 1, none⟩ = some (.int .i64 0) := (blk_cell BK.out 1).trans rfl; have q2_ : w1.cell? ⟨g14, 2, none⟩ = some (.int .i64 0) := (blk_cell BK.out 2).trans rfl; have q3_ : w1.cell? ⟨g14, 3, none⟩ = some (.int .i64 0) := (blk_cell BK.out 3).trans rfl; have q4_ : w1.cell? ⟨g14, 4, none⟩ = some (.int .i64 0) := (blk_cell BK.out 4).trans rfl; have q5_ : w1.cell? ⟨g14, 5, none⟩ = some (.slice none 0 0) := (blk_cell BK.out 5).trans rfl; have f0_ := blk_frozen BK.out 0; have f1_ := blk_frozen BK.out 1; have f2_ := blk_frozen BK.out 2; have f3_ := blk_frozen BK.out 3; have f4_ := blk_frozen BK.out 4; have f5_ := blk_frozen BK.out 5) | ((with_reducible refine gate_dst (N := 26) rfl ?_); refine Kd.R_lit (Kd.int .i64) _ 2 ?hg (N := 26) ?hd (xs := ([a1, a2, a3, a4] : List Int)) (inner := [.int .i64 a1, .int .i64 a2, .int .i64 a3, .int .i64 a4]) (ok := fun _ => True) (okp := fun _ => True) ?hr ?hp (fun _ hk => hk) trivial (Below.refl _ _) (Nat.le_refl _) (by simp) ?_; (case hd => rfl); (case hg => rfl); (case hr => first | (go_simp; done) | (go_simp; rfl)); (case hp => exact reps_ints _); intro v1 w1 ho hb hg hn; clear hg hn; obtain ⟨AQ, cQ, eQ⟩ := Kd.R_slice ho; subst eQ; have HQ := Aside0.mk ho; clear ho; have n0_ := Aside0.mk (below_step HB.out hb); have n1_ := Aside0.mk (blk_below BK.out hb); have n2_ := Aside0.mk (Kd.R_below HP.out hb); clear HB BK HP; have HB := n0_; have BK := n1_; have HP := n2_; clear n0_ n1_ n2_; clear hb; (try clear q0_ q1_ q2_ q3_ q4_ q5_ f0_ f1_ f2_ f3_ f4_ f5_); have q0_ : w1.cell? ⟨g14, 0, none⟩ = some (.int .i64 0) := (blk_cell BK.out 0).trans rfl; have q1_ : w1.cell? ⟨g14, 1, none⟩ = some (.int .i64 0) := (blk_cell BK.out 1).trans rfl; have q2_ : w1.cell? ⟨g14, 2, none⟩ = some (.int .i64 0) := (blk_cell BK.out 2).trans rfl; have q3_ : w1.cell? ⟨g14, 3, none⟩ = some (.int .i64 0) := (blk_cell BK.out 3).trans rfl; have q4_ : w1.cell? ⟨g14, 4, none⟩ = some (.int .i64 0) := (blk_cell BK.out 4).trans rfl; have q5_ : w1.cell? ⟨g14, 5, none⟩ = some (.slice none 0 0) := (blk_cell BK.out 5).trans rfl; have f0_ := blk_frozen BK.out 0; have f1_ := blk_frozen BK.out 1; have f2_ := blk_frozen BK.out 2; have f3_ := blk_frozen BK.out 3; have f4_ := blk_frozen BK.out 4; have f5_ := blk_frozen BK.out 5) | (go_at_call 70; refine (impl_namesFault.calls k (some adT) c0 l0 AP cP [a5, a6] AQ cQ [a1, a2, a3, a4] _ _ (Kd.C_below HR.out HB.out) HC.out (Kd.R_reads' HP.out).2.2 (Kd.R_reads' HP.out).2.1 (Kd.R_reads' HQ.out).2.2 (Kd.R_reads' HQ.out).2.1 HF.out).mono ?_; rintro e w4 ⟨rfl, hb⟩; have n0_ := Aside0.mk (below_step HB.out hb); have n1_ := Aside0.mk (blk_below BK.out hb); have n2_ := Aside0.mk (Kd.R_below HP.out hb); have n3_ := Aside0.mk (Kd.R_below HQ.out hb); clear HB BK HP HQ; have HB := n0_; have BK := n1_; have HP := n2_; have HQ := n3_; clear n0_ n1_ n2_ n3_; clear hb; (try clear q0_ q1_ q2_ q3_ q4_ q5_ f0_ f1_ f2_ f3_ f4_ f5_); have q0_ : w4.cell? ⟨g14, 0, none⟩ = some (.int .i64 0) := (blk_cell BK.out 0).trans rfl; have q1_ : w4.cell? ⟨g14, 1, none⟩ = some (.int .i64 0) := (blk_cell BK.out 1).trans rfl; have q2_ : w4.cell? ⟨g14, 2, none⟩ = some (.int .i64 0) := (blk_cell BK.out 2).trans rfl; have q3_ : w4.cell? ⟨g14, 3, none⟩ = some (.int .i64 0) := (blk_cell BK.out 3).trans rfl; have q4_ : w4.cell? ⟨g14, 4, none⟩ = some (.int .i64 0) := (blk_cell BK.out 4).trans rfl; have q5_ : w4.cell? ⟨g14, 5, none⟩ = some (.slice none 0 0) := (blk_cell BK.out 5).trans rfl; have f0_ := blk_frozen BK.out 0; have f1_ := blk_frozen BK.out 1; have f2_ := blk_frozen BK.out 2; have f3_ := blk_frozen BK.out 3; have f4_ := blk_frozen BK.out 4; have f5_ := blk_frozen BK.out 5; have ho_ := pw_cell_below HB.out HXO.out; have hh_ := pw_cell_below HB.out HXH.out) | (go_at_call 54; refine (impl_sheetOf.calls (some adT) c0 l0 _ (Kd.C_below HR.out HB.out) HC.out HL.out).mono ?_; rintro e w7 ⟨S, rfl, hs, hb⟩; obtain ⟨v7, hv⟩ := hs; have NG := Aside0.mk (blk_lt BK.out); have NW := Aside0.mk HB.out.size; have HS := Aside0.mk (SE.start hv); clear hv; have n0_ := Aside0.mk (below_step HB.out hb); have n1_ := Aside0.mk (blk_below BK.out hb); clear HB BK; have HB := n0_; have BK := n1_; clear n0_ n1_; clear hb; (try clear q0_ q1_ q2_ q3_ q4_ q5_ f0_ f1_ f2_ f3_ f4_ f5_); have q0_ : w7.cell? ⟨g14, 0, none⟩ = some (.int .i64 0) := (blk_cell BK.out 0).trans rfl; have q1_ : w7.cell? ⟨g14, 1, none⟩ = some (.int .i64 0) := (blk_cell BK.out 1).trans rfl; have q2_ : w7.cell? ⟨g14, 2, none⟩ = some (.int .i64 0) := (blk_cell BK.out 2).trans rfl; have q3_ : w7.cell? ⟨g14, 3, none⟩ = some (.int .i64 0) := (blk_cell BK.out 3).trans rfl; have q4_ : w7.cell? ⟨g14, 4, none⟩ = some (.int .i64 0) := (blk_cell BK.out 4).trans rfl; have q5_ : w7.cell? ⟨g14, 5, none⟩ = some (.slice none 0 0) := (blk_cell BK.out 5).trans rfl; have f0_ := blk_frozen BK.out 0; have f1_ := blk_frozen BK.out 1; have f2_ := blk_frozen BK.out 2; have f3_ := blk_frozen BK.out 3; have f4_ := blk_frozen BK.out 4; have f5_ := blk_frozen BK.out 5) | (go_at_call 80; refine (impl_sheet_keys.callsE a1 a2 a3 a4 a5 a6 _ HS.out HL4.out HKK.out).mono ?_; rintro e w9 ⟨rfl, hs, hk⟩; clear hk; obtain ⟨⟨v9, hv⟩, hk, hB⟩ := hs; obtain ⟨A9, c9, e9⟩ := Kd.R_slice hv.2.2; subst e9; have HV := Aside0.mk hv; have BW := Aside0.mk (blk_keepT BK.out hk (by decide) (by decide)); have n0_ := Aside0.mk (HB.out.trans (hB.mono NW.out)); clear HB BK HS hk hB hv; have HB := n0_; have BK := BW; clear n0_ BW; have m0_ : w9.cell? ⟨S, 0, none⟩ = some _ := (blk_cell HV.out.1 0).trans rfl; have m1_ : w9.cell? ⟨S, 1, none⟩ = some (.bool _) := (blk_cell HV.out.1 1).trans rfl; (try clear q0_ q1_ q2_ q3_ q4_ q5_ f0_ f1_ f2_ f3_ f4_ f5_); have q0_ : w9.cell? ⟨g14, 0, none⟩ = some (.int .i64 0) := (blk_cell BK.out 0).trans rfl; have q1_ : w9.cell? ⟨g14, 1, none⟩ = some (.int .i64 0) := (blk_cell BK.out 1).trans rfl; have q2_ : w9.cell? ⟨g14, 2, none⟩ = some (.int .i64 0) := (blk_cell BK.out 2).trans rfl; have q3_ : w9.cell? ⟨g14, 3, none⟩ = some (.int .i64 0) := (blk_cell BK.out 3).trans rfl; have q4_ : w9.cell? ⟨g14, 4, none⟩ = some (.int .i64 0) := (blk_cell BK.out 4).trans rfl; have q5_ : w9.cell? ⟨g14, 5, none⟩ = some (.slice none 0 0) := (blk_cell BK.out 5).trans rfl; have f0_ := blk_frozen BK.out 0; have f1_ := blk_frozen BK.out 1; have f2_ := blk_frozen BK.out 2; have f3_ := blk_frozen BK.out 3; have f4_ := blk_frozen BK.out 4; have f5_ := blk_frozen BK.out 5) | ((with_reducible refine gate_dst (N := 17) rfl ?_); refine box_event ?hg (N := 17) ?hd (cs := #[.int .i64 0, .int .i64 0, .int .i64 0, .int .i64 0]) (t := 62) ?hr ?_; (case hd => rfl); (case hg => rfl); (case hr => first | (go_simp; done) | (go_simp; rfl)); intro gl hg w11 hbox hb; have BL := Aside0.mk hbox; have GL := Aside0.mk (show w.heap.size ≤ gl by rw [hg]; exact below_size HB.out); have NE := Aside0.mk (show g14 ≠ gl by rw [hg]; exact Nat.ne_of_lt (blk_lt BK.out)); have NES := Aside0.mk (show S ≠ gl by rw [hg]; exact Nat.ne_of_lt (blk_lt HV.out.1)); have ne1_ := NE.out; have ne2_ := NE.out.symm; have ne3_ := NES.out; have ne4_ := NES.out.symm; have n2_ := Aside0.mk (st_below HV.out hb); clear HV; have HV := n2_; clear n2_; have n0_ := Aside0.mk (below_step HB.out hb); have n1_ := Aside0.mk (blk_below BK.out hb); clear HB BK; have HB := n0_; have BK := n1_; clear n0_ n1_; clear hb hbox hg; have y0_ : w11.cell? ⟨gl, 0, none⟩ = some (.int .i64 0) := (blk_cell BL.out 0).trans rfl; have y1_ : w11.cell? ⟨gl, 1, none⟩ = some (.int .i64 0) := (blk_cell BL.out 1).trans rfl; have y2_ : w11.cell? ⟨gl, 2, none⟩ = some (.int .i64 0) := (blk_cell BL.out 2).trans rfl; have y3_ : w11.cell? ⟨gl, 3, none⟩ = some (.int .i64 0) := (blk_cell BL.out 3).trans rfl; have z0_ := blk_frozen BL.out 0; have z1_ := blk_frozen BL.out 1; have z2_ := blk_frozen BL.out 2; have z3_ := blk_frozen BL.out 3; (try clear m0_ m1_); have m0_ : w11.cell? ⟨S, 0, none⟩ = some _ := (blk_cell HV.out.1 0).trans rfl; have m1_ : w11.cell? ⟨S, 1, none⟩ = some _ := (blk_cell HV.out.1 1).trans rfl; (try clear q0_ q1_ q2_ q3_ q4_ q5_ f0_ f1_ f2_ f3_ f4_ f5_); have q0_ : w11.cell? ⟨g14, 0, none⟩ = some (.int .i64 0) := (blk_cell BK.out 0).trans rfl; have q1_ : w11.cell? ⟨g14, 1, none⟩ = some (.int .i64 0) := (blk_cell BK.out 1).trans rfl; have q2_ : w11.cell? ⟨g14, 2, none⟩ = some (.int .i64 0) := (blk_cell BK.out 2).trans rfl; have q3_ : w11.cell? ⟨g14, 3, none⟩ = some (.int .i64 0) := (blk_cell BK.out 3).trans rfl; have q4_ : w11.cell? ⟨g14, 4, none⟩ = some (.int .i64 0) := (blk_cell BK.out 4).trans rfl; have q5_ : w11.cell? ⟨g14, 5, none⟩ = some (.slice none 0 0) := (blk_cell BK.out 5).trans rfl; have f0_ := blk_frozen BK.out 0; have f1_ := blk_frozen BK.out 1; have f2_ := blk_frozen BK.out 2; have f3_ := blk_frozen BK.out 3; have f4_ := blk_frozen BK.out 4; have f5_ := blk_frozen BK.out 5))
      have n0_ := Aside0.mk (below_set (j := 3) (v := .int .i64 k4) (below_set (j := 2) (v := .int .i64 k3) (below_set (j := 1) (v := .int .i64 k2) (below_set (j := 0) (v := .int .i64 k1) HB.out GL.out) GL.out) GL.out) GL.out)
      have n1_ := Aside0.mk (blk_far (blk_far (blk_far (blk_far BK.out (p := ⟨gl, 0, none⟩) NE.out (.int .i64 k1)) (p := ⟨gl, 1, none⟩) NE.out (.int .i64 k2)) (p := ⟨gl, 2, none⟩) NE.out (.int .i64 k3)) (p := ⟨gl, 3, none⟩) NE.out (.int .i64 k4))
      have n2_ := Aside0.mk (st_far (st_far (st_far (st_far HV.out BL.out (by decide) (by decide) 0 (.int .i64 k1)) (blk_put BL.out 0 (.int .i64 k1) rfl) (by decide) (by decide) 1 (.int .i64 k2)) (blk_put (blk_put BL.out 0 (.int .i64 k1) rfl) 1 (.int .i64 k2) rfl) (by decide) (by decide) 2 (.int .i64 k3)) (blk_put (blk_put (blk_put BL.out 0 (.int .i64 k1) rfl) 1 (.int .i64 k2) rfl) 2 (.int .i64 k3) rfl) (by decide) (by decide) 3 (.int .i64 k4))
      have n3_ : Aside0 (((((w11.setCell ⟨gl, 0, none⟩ (.int .i64 k1)).setCell ⟨gl, 1, none⟩ (.int .i64 k2)).setCell ⟨gl, 2, none⟩ (.int .i64 k3)).setCell ⟨gl, 3, none⟩ (.int .i64 k4)).heap[gl]? = some (.cells #[.int .i64 k1, .int .i64 k2, .int .i64 k3, .int .i64 k4] 62 (0, 0))) := Aside0.mk (blk_put (blk_put (blk_put (blk_put BL.out 0 (.int .i64 k1) rfl) 1 (.int .i64 k2) rfl) 2 (.int .i64 k3) rfl) 3 (.int .i64 k4) rfl)
      clear HB BK HV BL
      have HB := n0_; have BK := n1_; have HV := n2_; have BL := n3_
      clear n0_ n1_ n2_ n3_
      refine bodyPost_ret (results_cell_row rfl _ _ g14 64 #[.int .i64 2, .int .i64 0, .int .i64 0, .int .i64 0, .int .i64 0, .slice none 0 0] (0, 0) _ rfl (blk_put (blk_put (blk_put (blk_put (blk_put (blk_put BK.out 0 _ rfl) 1 _ rfl) 2 _ rfl) 3 _ rfl) 4 _ rfl) 5 _ rfl) Try.underlying64 rfl (by kernel_rfl)) rfl ?_
      exact ⟨_, rfl, Kd.R_nil _ _ _ _ _, below_set (below_set (below_set (below_set (below_set (below_set HB.out GE.out) GE.out) GE.out) GE.out) GE.out) GE.out⟩
    | false =>
      rw [if_neg (by decide)] at h
      simp only [Option.some.injEq, Prod.mk.injEq] at h
      obtain ⟨rfl, rfl, rfl, rfl, rfl, rfl⟩ := h
      go_enter Try.func41, Try.ntmps41
      go_wp2_with (first | ((with_reducible refine gate_dst (N := 14) rfl ?_); refine box_event ?hg (N := 14) ?hd (cs := #[.int .i64 0, .int .i64 0, .int .i64 0, .int .i64 0, .int .i64 0, .slice none 0 0]) (t := 64) ?hr ?_; (case hd => rfl); (case hg => rfl); (case hr => first | (go_simp; done) | (go_simp; rfl)); intro g14 hg w2 hbox hb; have n0_ := Aside0.mk (below_step HB.out hb); have BK := Aside0.mk hbox; have GE := Aside0.mk (show w.heap.size ≤ g14 by rw [hg]; exact below_size HB.out); clear HB; have HB := n0_; clear n0_ hb hbox hg; (try clear q0_ q1_ q2_ q3_ q4_ q5_ f0_ f1_ f2_ f3_ f4_ f5_); have q0_ : w2.cell? ⟨g14, 0, none⟩ = some (.int .i64 0) := (blk_cell BK.out 0).trans rfl; have q1_ : w2.cell? ⟨g14, 1, none⟩ = some (.int .i64 0) := (blk_cell BK.out 1).trans rfl; have q2_ : w2.cell? ⟨g14, 2, none⟩ = some (.int .i64 0) := (blk_cell BK.out 2).trans rfl; have q3_ : w2.cell? ⟨g14, 3, none⟩ = some (.int .i64 0) := (blk_cell BK.out 3).trans rfl; have q4_ : w2.cell? ⟨g14, 4, none⟩ = some (.int .i64 0) := (blk_cell BK.out 4).trans rfl; have q5_ : w2.cell? ⟨g14, 5, none⟩ = some (.slice none 0 0) := (blk_cell BK.out 5).trans rfl; have f0_ := blk_frozen BK.out 0; have f1_ := blk_frozen BK.out 1; have f2_ := blk_frozen BK.out 2; have f3_ := blk_frozen BK.out 3; have f4_ := blk_frozen BK.out 4; have f5_ := blk_frozen BK.out 5) | ((with_reducible refine gate_dst (N := 21) rfl ?_); refine Kd.R_lit (Kd.int .i64) _ 2 ?hg (N := 21) ?hd (xs := ([a5, a6] : List Int)) (inner := [.int .i64 a5, .int .i64 a6]) (ok := fun _ => True) (okp := fun _ => True) ?hr ?hp (fun _ hk => hk) trivial (Below.refl _ _) (Nat.le_refl _) (by simp) ?_; (case hd => rfl); (case hg => rfl); (case hr => first | (go_simp; done) | (go_simp; rfl)); (case hp => exact reps_ints _); intro v1 w1 ho hb hg hn; clear hg hn; obtain ⟨AP, cP, eP⟩ := Kd.R_slice ho; subst eP; have HP := Aside0.mk ho; clear ho; have n0_ := Aside0.mk (below_step HB.out hb); have n1_ := Aside0.mk (blk_below BK.out hb); clear HB BK; have HB := n0_; have BK := n1_; clear n0_ n1_; clear hb; (try clear q0_ q1_ q2_ q3_ q4_ q5_ f0_ f1_ f2_ f3_ f4_ f5_); have q0_ : w1.cell? ⟨g14, 0, none⟩ = some (.int .i64 0) := (blk_cell BK.out 0).trans rfl; have q1_ : w1.cell? ⟨g14, 1, none⟩ = some (.int .i64 0) := (blk_cell BK.out 1).trans rfl; have q2_ : w1.cell? ⟨g14, 2, none⟩ = some (.int .i64 0) := (blk_cell BK.out 2).trans rfl; have q3_ : w1.cell? ⟨g14, 3, none⟩ = some (.int .i64 0) := (blk_cell BK.out 3).trans rfl; have q4_ : w1.cell? ⟨g14, 4, none⟩ = some (.int .i64 0) := (blk_cell BK.out 4).trans rfl; have q5_ : w1.cell? ⟨g14, 5, none⟩ = some (.slice none 0 0) := (blk_cell BK.out 5).trans rfl; have f0_ := blk_frozen BK.out 0; have f1_ := blk_frozen BK.out 1; have f2_ := blk_frozen BK.out 2; have f3_ := blk_frozen BK.out 3; have f4_ := blk_frozen BK.out 4; have f5_ := blk_frozen BK.out 5) | ((with_reducible refine gate_dst (N := 26) rfl ?_); refine Kd.R_lit (Kd.int .i64) _ 2 ?hg (N := 26) ?hd (xs := ([a1, a2, a3, a4] : List Int)) (inner := [.int .i64 a1, .int .i64 a2, .int .i64 a3, .int .i64 a4]) (ok := fun _ => True) (okp := fun _ => True) ?hr ?hp (fun _ hk => hk) trivial (Below.refl _ _) (Nat.le_refl _) (by simp) ?_; (case hd => rfl); (case hg => rfl); (case hr => first | (go_simp; done) | (go_simp; rfl)); (case hp => exact reps_ints _); intro v1 w1 ho hb hg hn; clear hg hn; obtain ⟨AQ, cQ, eQ⟩ := Kd.R_slice ho; subst eQ; have HQ := Aside0.mk ho; clear ho; have n0_ := Aside0.mk (below_step HB.out hb); have n1_ := Aside0.mk (blk_below BK.out hb); have n2_ := Aside0.mk (Kd.R_below HP.out hb); clear HB BK HP; have HB := n0_; have BK := n1_; have HP := n2_; clear n0_ n1_ n2_; clear hb; (try clear q0_ q1_ q2_ q3_ q4_ q5_ f0_ f1_ f2_ f3_ f4_ f5_); have q0_ : w1.cell? ⟨g14, 0, none⟩ = some (.int .i64 0) := (blk_cell BK.out 0).trans rfl; have q1_ : w1.cell? ⟨g14, 1, none⟩ = some (.int .i64 0) := (blk_cell BK.out 1).trans rfl; have q2_ : w1.cell? ⟨g14, 2, none⟩ = some (.int .i64 0) := (blk_cell BK.out 2).trans rfl; have q3_ : w1.cell? ⟨g14, 3, none⟩ = some (.int .i64 0) := (blk_cell BK.out 3).trans rfl; have q4_ : w1.cell? ⟨g14, 4, none⟩ = some (.int .i64 0) := (blk_cell BK.out 4).trans rfl; have q5_ : w1.cell? ⟨g14, 5, none⟩ = some (.slice none 0 0) := (blk_cell BK.out 5).trans rfl; have f0_ := blk_frozen BK.out 0; have f1_ := blk_frozen BK.out 1; have f2_ := blk_frozen BK.out 2; have f3_ := blk_frozen BK.out 3; have f4_ := blk_frozen BK.out 4; have f5_ := blk_frozen BK.out 5) | (go_at_call 70; refine (impl_namesFault.calls k (some adT) c0 l0 AP cP [a5, a6] AQ cQ [a1, a2, a3, a4] _ _ (Kd.C_below HR.out HB.out) HC.out (Kd.R_reads' HP.out).2.2 (Kd.R_reads' HP.out).2.1 (Kd.R_reads' HQ.out).2.2 (Kd.R_reads' HQ.out).2.1 HF.out).mono ?_; rintro e w4 ⟨rfl, hb⟩; have n0_ := Aside0.mk (below_step HB.out hb); have n1_ := Aside0.mk (blk_below BK.out hb); have n2_ := Aside0.mk (Kd.R_below HP.out hb); have n3_ := Aside0.mk (Kd.R_below HQ.out hb); clear HB BK HP HQ; have HB := n0_; have BK := n1_; have HP := n2_; have HQ := n3_; clear n0_ n1_ n2_ n3_; clear hb; (try clear q0_ q1_ q2_ q3_ q4_ q5_ f0_ f1_ f2_ f3_ f4_ f5_); have q0_ : w4.cell? ⟨g14, 0, none⟩ = some (.int .i64 0) := (blk_cell BK.out 0).trans rfl; have q1_ : w4.cell? ⟨g14, 1, none⟩ = some (.int .i64 0) := (blk_cell BK.out 1).trans rfl; have q2_ : w4.cell? ⟨g14, 2, none⟩ = some (.int .i64 0) := (blk_cell BK.out 2).trans rfl; have q3_ : w4.cell? ⟨g14, 3, none⟩ = some (.int .i64 0) := (blk_cell BK.out 3).trans rfl; have q4_ : w4.cell? ⟨g14, 4, none⟩ = some (.int .i64 0) := (blk_cell BK.out 4).trans rfl; have q5_ : w4.cell? ⟨g14, 5, none⟩ = some (.slice none 0 0) := (blk_cell BK.out 5).trans rfl; have f0_ := blk_frozen BK.out 0; have f1_ := blk_frozen BK.out 1; have f2_ := blk_frozen BK.out 2; have f3_ := blk_frozen BK.out 3; have f4_ := blk_frozen BK.out 4; have f5_ := blk_frozen BK.out 5; have ho_ := pw_cell_below HB.out HXO.out; have hh_ := pw_cell_below HB.out HXH.out) | (go_at_call 54; refine (impl_sheetOf.calls (some adT) c0 l0 _ (Kd.C_below HR.out HB.out) HC.out HL.out).mono ?_; rintro e w7 ⟨S, rfl, hs, hb⟩; obtain ⟨v7, hv⟩ := hs; have NG := Aside0.mk (blk_lt BK.out); have NW := Aside0.mk HB.out.size; have HS := Aside0.mk (SE.start hv); clear hv; have n0_ := Aside0.mk (below_step HB.out hb); have n1_ := Aside0.mk (blk_below BK.out hb); clear HB BK; have HB := n0_; have BK := n1_; clear n0_ n1_; clear hb; (try clear q0_ q1_ q2_ q3_ q4_ q5_ f0_ f1_ f2_ f3_ f4_ f5_); have q0_ : w7.cell? ⟨g14, 0, none⟩ = some (.int .i64 0) := (blk_cell BK.out 0).trans rfl; have q1_ : w7.cell? ⟨g14, 1, none⟩ = some (.int .i64 0) := (blk_cell BK.out 1).trans rfl; have q2_ : w7.cell? ⟨g14, 2, none⟩ = some (.int .i64 0) := (blk_cell BK.out 2).trans rfl; have q3_ : w7.cell? ⟨g14, 3, none⟩ = some (.int .i64 0) := (blk_cell BK.out 3).trans rfl; have q4_ : w7.cell? ⟨g14, 4, none⟩ = some (.int .i64 0) := (blk_cell BK.out 4).trans rfl; have q5_ : w7.cell? ⟨g14, 5, none⟩ = some (.slice none 0 0) := (blk_cell BK.out 5).trans rfl; have f0_ := blk_frozen BK.out 0; have f1_ := blk_frozen BK.out 1; have f2_ := blk_frozen BK.out 2; have f3_ := blk_frozen BK.out 3; have f4_ := blk_frozen BK.out 4; have f5_ := blk_frozen BK.out 5) | (go_at_call 80; refine (impl_sheet_keys.callsE a1 a2 a3 a4 a5 a6 _ HS.out HL4.out HKK.out).mono ?_; rintro e w9 ⟨rfl, hs, hk⟩; clear hk; obtain ⟨⟨v9, hv⟩, hk, hB⟩ := hs; obtain ⟨A9, c9, e9⟩ := Kd.R_slice hv.2.2; subst e9; have HV := Aside0.mk hv; have BW := Aside0.mk (blk_keepT BK.out hk (by decide) (by decide)); have n0_ := Aside0.mk (HB.out.trans (hB.mono NW.out)); clear HB BK HS hk hB hv; have HB := n0_; have BK := BW; clear n0_ BW; have m0_ : w9.cell? ⟨S, 0, none⟩ = some _ := (blk_cell HV.out.1 0).trans rfl; have m1_ : w9.cell? ⟨S, 1, none⟩ = some (.bool _) := (blk_cell HV.out.1 1).trans rfl; (try clear q0_ q1_ q2_ q3_ q4_ q5_ f0_ f1_ f2_ f3_ f4_ f5_); have q0_ : w9.cell? ⟨g14, 0, none⟩ = some (.int .i64 0) := (blk_cell BK.out 0).trans rfl; have q1_ : w9.cell? ⟨g14, 1, none⟩ = some (.int .i64 0) := (blk_cell BK.out 1).trans rfl; have q2_ : w9.cell? ⟨g14, 2, none⟩ = some (.int .i64 0) := (blk_cell BK.out 2).trans rfl; have q3_ : w9.cell? ⟨g14, 3, none⟩ = some (.int .i64 0) := (blk_cell BK.out 3).trans rfl; have q4_ : w9.cell? ⟨g14, 4, none⟩ = some (.int .i64 0) := (blk_cell BK.out 4).trans rfl; have q5_ : w9.cell? ⟨g14, 5, none⟩ = some (.slice none 0 0) := (blk_cell BK.out 5).trans rfl; have f0_ := blk_frozen BK.out 0; have f1_ := blk_frozen BK.out 1; have f2_ := blk_frozen BK.out 2; have f3_ := blk_frozen BK.out 3; have f4_ := blk_frozen BK.out 4; have f5_ := blk_frozen BK.out 5) | ((with_reducible refine gate_dst (N := 17) rfl ?_); refine box_event ?hg (N := 17) ?hd (cs := #[.int .i64 0, .int .i64 0, .int .i64 0, .int .i64 0]) (t := 62) ?hr ?_; (case hd => rfl); (case hg => rfl); (case hr => first | (go_simp; done) | (go_simp; rfl)); intro gl hg w11 hbox hb; have BL := Aside0.mk hbox; have GL := Aside0.mk (show w.heap.size ≤ gl by rw [hg]; exact below_size HB.out); have NE := Aside0.mk (show g14 ≠ gl by rw [hg]; exact Nat.ne_of_lt (blk_lt BK.out)); have NES := Aside0.mk (show S ≠ gl by rw [hg]; exact Nat.ne_of_lt (blk_lt HV.out.1)); have ne1_ := NE.out; have ne2_ := NE.out.symm; have ne3_ := NES.out; have ne4_ := NES.out.symm; have n2_ := Aside0.mk (st_below HV.out hb); clear HV; have HV := n2_; clear n2_; have n0_ := Aside0.mk (below_step HB.out hb); have n1_ := Aside0.mk (blk_below BK.out hb); clear HB BK; have HB := n0_; have BK := n1_; clear n0_ n1_; clear hb hbox hg; have y0_ : w11.cell? ⟨gl, 0, none⟩ = some (.int .i64 0) := (blk_cell BL.out 0).trans rfl; have y1_ : w11.cell? ⟨gl, 1, none⟩ = some (.int .i64 0) := (blk_cell BL.out 1).trans rfl; have y2_ : w11.cell? ⟨gl, 2, none⟩ = some (.int .i64 0) := (blk_cell BL.out 2).trans rfl; have y3_ : w11.cell? ⟨gl, 3, none⟩ = some (.int .i64 0) := (blk_cell BL.out 3).trans rfl; have z0_ := blk_frozen BL.out 0; have z1_ := blk_frozen BL.out 1; have z2_ := blk_frozen BL.out 2; have z3_ := blk_frozen BL.out 3; (try clear m0_ m1_); have m0_ : w11.cell? ⟨S, 0, none⟩ = some _ := (blk_cell HV.out.1 0).trans rfl; have m1_ : w11.cell? ⟨S, 1, none⟩ = some _ := (blk_cell HV.out.1 1).trans rfl; (try clear q0_ q1_ q2_ q3_ q4_ q5_ f0_ f1_ f2_ f3_ f4_ f5_); have q0_ : w11.cell? ⟨g14, 0, none⟩ = some (.int .i64 0) := (blk_cell BK.out 0).trans rfl; have q1_ : w11.cell? ⟨g14, 1, none⟩ = some (.int .i64 0) := (blk_cell BK.out 1).trans rfl; have q2_ : w11.cell? ⟨g14, 2, none⟩ = some (.int .i64 0) := (blk_cell BK.out 2).trans rfl; have q3_ : w11.cell? ⟨g14, 3, none⟩ = some (.int .i64 0) := (blk_cell BK.out 3).trans rfl; have q4_ : w11.cell? ⟨g14, 4, none⟩ = some (.int .i64 0) := (blk_cell BK.out 4).trans rfl; have q5_ : w11.cell? ⟨g14, 5, none⟩ = some (.slice none 0 0) := (blk_cell BK.out 5).trans rfl; have f0_ := blk_frozen BK.out 0; have f1_ := blk_frozen BK.out 1; have f2_ := blk_frozen BK.out 2; have f3_ := blk_frozen BK.out 3; have f4_ := blk_frozen BK.out 4; have f5_ := blk_frozen BK.out 5))
      have n0_ := Aside0.mk (below_set (j := 3) (v := .int .i64 k4) (below_set (j := 2) (v := .int .i64 k3) (below_set (j := 1) (v := .int .i64 k2) (below_set (j := 0) (v := .int .i64 k1) HB.out GL.out) GL.out) GL.out) GL.out)
      have n1_ := Aside0.mk (blk_far (blk_far (blk_far (blk_far BK.out (p := ⟨gl, 0, none⟩) NE.out (.int .i64 k1)) (p := ⟨gl, 1, none⟩) NE.out (.int .i64 k2)) (p := ⟨gl, 2, none⟩) NE.out (.int .i64 k3)) (p := ⟨gl, 3, none⟩) NE.out (.int .i64 k4))
      have n2_ := Aside0.mk (st_far (st_far (st_far (st_far HV.out BL.out (by decide) (by decide) 0 (.int .i64 k1)) (blk_put BL.out 0 (.int .i64 k1) rfl) (by decide) (by decide) 1 (.int .i64 k2)) (blk_put (blk_put BL.out 0 (.int .i64 k1) rfl) 1 (.int .i64 k2) rfl) (by decide) (by decide) 2 (.int .i64 k3)) (blk_put (blk_put (blk_put BL.out 0 (.int .i64 k1) rfl) 1 (.int .i64 k2) rfl) 2 (.int .i64 k3) rfl) (by decide) (by decide) 3 (.int .i64 k4))
      have n3_ : Aside0 (((((w11.setCell ⟨gl, 0, none⟩ (.int .i64 k1)).setCell ⟨gl, 1, none⟩ (.int .i64 k2)).setCell ⟨gl, 2, none⟩ (.int .i64 k3)).setCell ⟨gl, 3, none⟩ (.int .i64 k4)).heap[gl]? = some (.cells #[.int .i64 k1, .int .i64 k2, .int .i64 k3, .int .i64 k4] 62 (0, 0))) := Aside0.mk (blk_put (blk_put (blk_put (blk_put BL.out 0 (.int .i64 k1) rfl) 1 (.int .i64 k2) rfl) 2 (.int .i64 k3) rfl) 3 (.int .i64 k4) rfl)
      clear HB BK HV BL
      have HB := n0_; have BK := n1_; have HV := n2_; have BL := n3_
      clear n0_ n1_ n2_ n3_
      clear m0_ m1_ y0_ y1_ y2_ y3_ z0_ z1_ z2_ z3_ q0_ q1_ q2_ q3_ q4_ q5_ f0_ f1_ f2_ f3_ f4_ f5_
      generalize hw12 : ((((w11.setCell ⟨gl, 0, none⟩ (.int .i64 k1)).setCell ⟨gl, 1, none⟩ (.int .i64 k2)).setCell ⟨gl, 2, none⟩ (.int .i64 k3)).setCell ⟨gl, 3, none⟩ (.int .i64 k4)) = w12 at HB BK HV BL ⊢
      clear hw12
      have n0_ := Aside0.mk (below_drew HB.out)
      have n1_ := Aside0.mk (blk_drew BK.out)
      have n2_ := Aside0.mk (st_drew HV.out)
      have n3_ := Aside0.mk (blk_drew BL.out)
      clear HB BK HV BL
      have HB := n0_; have BK := n1_; have HV := n2_; have BL := n3_
      clear n0_ n1_ n2_ n3_
      refine start_ (n := 7) (S := fun w' => w'.cell? ⟨gl, 0, none⟩ = some (.int .i64 k1) ∧ w'.cell? ⟨gl, 1, none⟩ = some (.int .i64 k2) ∧ w'.cell? ⟨gl, 2, none⟩ = some (.int .i64 k3) ∧ w'.cell? ⟨gl, 3, none⟩ = some (.int .i64 k4) ∧ w'.cell? ⟨S, 0, none⟩ = some (.slice A9 lt.length c9)) (ds := [6]) #[false, false, false, false, false, false, false] (by kernel_rfl) rfl rfl ⟨(blk_cell BL.out 0).trans rfl, (blk_cell BL.out 1).trans rfl, (blk_cell BL.out 2).trans rfl, (blk_cell BL.out 3).trans rfl, (blk_cell HV.out.1 0).trans rfl⟩ (fun hHeld => ?_)
      generalize hw13 : w12.drew = w13 at HB BK HV BL hHeld ⊢
      clear hw13
      refine take_ (i := 0) (N := some 62) (v := ?_) (a' := ?_) #[true, false, false, false, false, false, false] rfl rfl (by kernel_rfl) (fun _ _ _ h => h) (Or.inl ⟨by rfl, ?_⟩) hHeld ?_ ?_
      rotate_left
      · rintro w' ⟨s0, s1, s2, s3, s4⟩
        go_simp
        with_reducible rfl
      rotate_left
      · simp only [Act.put, lA_, lZ_, lS_, i64_w, i32_w]
        rfl
      refine pure_ (i := 1) (N := some 63) (v := ?_) (a' := ?_) #[true, true, false, false, false, false, false] rfl rfl (by kernel_rfl) (fun _ _ _ h => h) (Or.inl ⟨by rfl, ?_⟩) ?_ ?_
      rotate_left
      · intro w'
        go_simp
        with_reducible rfl
      rotate_left
      · simp only [Act.put, lA_, lZ_, lS_, i64_w, i32_w]
        rfl
      refine pure_ (i := 2) (N := some 64) (v := ?_) (a' := ?_) #[true, true, true, false, false, false, false] rfl rfl (by kernel_rfl) (fun _ _ _ h => h) (Or.inl ⟨by rfl, ?_⟩) ?_ ?_
      rotate_left
      · intro w'
        go_simp
        with_reducible rfl
      rotate_left
      · simp only [Act.put, lA_, lZ_, lS_, i64_w, i32_w]
        rfl
      refine pure_ (i := 3) (N := some 65) (v := ?_) (a' := ?_) #[true, true, true, true, false, false, false] rfl rfl (by kernel_rfl) (fun _ _ _ h => h) (Or.inl ⟨by rfl, ?_⟩) ?_ ?_
      rotate_left
      · intro w'
        go_simp
        with_reducible rfl
      rotate_left
      · simp only [Act.put, lA_, lZ_, lS_, i64_w, i32_w]
        rfl
      refine take_ (i := 4) (N := some 66) (v := ?_) (a' := ?_) #[true, true, true, true, true, false, false] rfl rfl (by kernel_rfl) (fun _ _ _ h => h) (Or.inl ⟨by rfl, ?_⟩) hHeld ?_ ?_
      rotate_left
      · rintro w' ⟨s0, s1, s2, s3, s4⟩
        go_simp
        with_reducible rfl
      rotate_left
      · simp only [Act.put, lA_, lZ_, lS_, i64_w, i32_w]
        rfl
      refine pure_ (i := 5) (N := some 67) (v := ?_) (a' := ?_) #[true, true, true, true, true, true, false] rfl rfl (by kernel_rfl) (fun _ _ _ h => h) (Or.inl ⟨by rfl, ?_⟩) ?_ ?_
      rotate_left
      · intro w'
        go_simp
        with_reducible rfl
      rotate_left
      · simp only [Act.put, lA_, lZ_, lS_, i64_w, i32_w]
        rfl
      refine last_ (i := 6) (N := none) #[true, true, true, true, true, true, true] rfl rfl (by kernel_rfl) (by decide) (fun K hK => ?_)
      have q0_ : w13.cell? ⟨g14, 0, none⟩ = some (.int .i64 0) := (blk_cell BK.out 0).trans rfl; have q1_ : w13.cell? ⟨g14, 1, none⟩ = some (.int .i64 0) := (blk_cell BK.out 1).trans rfl; have q2_ : w13.cell? ⟨g14, 2, none⟩ = some (.int .i64 0) := (blk_cell BK.out 2).trans rfl; have q3_ : w13.cell? ⟨g14, 3, none⟩ = some (.int .i64 0) := (blk_cell BK.out 3).trans rfl; have q4_ : w13.cell? ⟨g14, 4, none⟩ = some (.int .i64 0) := (blk_cell BK.out 4).trans rfl; have q5_ : w13.cell? ⟨g14, 5, none⟩ = some (.slice none 0 0) := (blk_cell BK.out 5).trans rfl; have f0_ := blk_frozen BK.out 0; have f1_ := blk_frozen BK.out 1; have f2_ := blk_frozen BK.out 2; have f3_ := blk_frozen BK.out 3; have f4_ := blk_frozen BK.out 4; have f5_ := blk_frozen BK.out 5
      refine skip_ (w1 := ?_) (by rfl) rfl ?_ ?_
      rotate_left
      · go_simp
        rfl
      refine hK.out _ _ ?_
      clear hK K
      refine done_ (by kernel_rfl) ?_
      go_wp2
      have HOA := Aside0.mk (show ∀ k, (.slice A9 lt.length c9 : Value).ownBlock = some k → k ≠ g14 from fun k hk e => (Kd.R_ne HV.out.2.2 BK.out (by decide)) (by rw [← e]; exact hk.symm))
      refine bodyPost_ret (results_cell_row rfl _ _ g14 64 #[.int .i64 0, .int .i64 k1, .int .i64 k2, .int .i64 k3, .int .i64 k4, .slice A9 lt.length c9] (0, 0) _ rfl (blk_put (blk_put (blk_put (blk_put (blk_put (blk_put BK.out 0 _ rfl) 1 _ rfl) 2 _ rfl) 3 _ rfl) 4 _ rfl) 5 _ rfl) Try.underlying64 rfl (by kernel_rfl)) rfl ?_
      exact ⟨_, rfl, Kd.R_mono (Kd.R_lower (Kd.R_far (Kd.R_far (Kd.R_far (Kd.R_far (Kd.R_far (Kd.R_far (R_not HV.out.2.2 HOA.out) (p := ⟨g14, 0, none⟩) (fun k hk => hk) _) (p := ⟨g14, 1, none⟩) (fun k hk => hk) _) (p := ⟨g14, 2, none⟩) (fun k hk => hk) _) (p := ⟨g14, 3, none⟩) (fun k hk => hk) _) (p := ⟨g14, 4, none⟩) (fun k hk => hk) _) (p := ⟨g14, 5, none⟩) (fun k hk => hk) _) NW.out) (fun _ _ => trivial), below_set (below_set (below_set (below_set (below_set (below_set HB.out GE.out) GE.out) GE.out) GE.out) GE.out) GE.out⟩
  · rw [if_neg hz] at h
    have hz0 : (c == 0) = false := by simpa using hz
    have hz1 : (c != 0) = true := by simpa using hz
    simp only [Option.some.injEq, Prod.mk.injEq] at h
    obtain ⟨rfl, rfl, rfl, rfl, rfl, rfl⟩ := h
    go_enter Try.func41, Try.ntmps41
    go_wp2_with (first | ((with_reducible refine gate_dst (N := 14) rfl ?_); refine box_event ?hg (N := 14) ?hd (cs := #[.int .i64 0, .int .i64 0, .int .i64 0, .int .i64 0, .int .i64 0, .slice none 0 0]) (t := 64) ?hr ?_; (case hd => rfl); (case hg => rfl); (case hr => first | (go_simp; done) | (go_simp; rfl)); intro g14 hg w2 hbox hb; have n0_ := Aside0.mk (below_step HB.out hb); have BK := Aside0.mk hbox; have GE := Aside0.mk (show w.heap.size ≤ g14 by rw [hg]; exact below_size HB.out); clear HB; have HB := n0_; clear n0_ hb hbox hg; (try clear q0_ q1_ q2_ q3_ q4_ q5_ f0_ f1_ f2_ f3_ f4_ f5_); have q0_ : w2.cell? ⟨g14, 0, none⟩ = some (.int .i64 0) := (blk_cell BK.out 0).trans rfl; have q1_ : w2.cell? ⟨g14, 1, none⟩ = some (.int .i64 0) := (blk_cell BK.out 1).trans rfl; have q2_ : w2.cell? ⟨g14, 2, none⟩ = some (.int .i64 0) := (blk_cell BK.out 2).trans rfl; have q3_ : w2.cell? ⟨g14, 3, none⟩ = some (.int .i64 0) := (blk_cell BK.out 3).trans rfl; have q4_ : w2.cell? ⟨g14, 4, none⟩ = some (.int .i64 0) := (blk_cell BK.out 4).trans rfl; have q5_ : w2.cell? ⟨g14, 5, none⟩ = some (.slice none 0 0) := (blk_cell BK.out 5).trans rfl; have f0_ := blk_frozen BK.out 0; have f1_ := blk_frozen BK.out 1; have f2_ := blk_frozen BK.out 2; have f3_ := blk_frozen BK.out 3; have f4_ := blk_frozen BK.out 4; have f5_ := blk_frozen BK.out 5) | ((with_reducible refine gate_dst (N := 21) rfl ?_); refine Kd.R_lit (Kd.int .i64) _ 2 ?hg (N := 21) ?hd (xs := ([a5, a6] : List Int)) (inner := [.int .i64 a5, .int .i64 a6]) (ok := fun _ => True) (okp := fun _ => True) ?hr ?hp (fun _ hk => hk) trivial (Below.refl _ _) (Nat.le_refl _) (by simp) ?_; (case hd => rfl); (case hg => rfl); (case hr => first | (go_simp; done) | (go_simp; rfl)); (case hp => exact reps_ints _); intro v1 w1 ho hb hg hn; clear hg hn; obtain ⟨AP, cP, eP⟩ := Kd.R_slice ho; subst eP; have HP := Aside0.mk ho; clear ho; have n0_ := Aside0.mk (below_step HB.out hb); have n1_ := Aside0.mk (blk_below BK.out hb); clear HB BK; have HB := n0_; have BK := n1_; clear n0_ n1_; clear hb; (try clear q0_ q1_ q2_ q3_ q4_ q5_ f0_ f1_ f2_ f3_ f4_ f5_); have q0_ : w1.cell? ⟨g14, 0, none⟩ = some (.int .i64 0) := (blk_cell BK.out 0).trans rfl; have q1_ : w1.cell? ⟨g14, 1, none⟩ = some (.int .i64 0) := (blk_cell BK.out 1).trans rfl; have q2_ : w1.cell? ⟨g14, 2, none⟩ = some (.int .i64 0) := (blk_cell BK.out 2).trans rfl; have q3_ : w1.cell? ⟨g14, 3, none⟩ = some (.int .i64 0) := (blk_cell BK.out 3).trans rfl; have q4_ : w1.cell? ⟨g14, 4, none⟩ = some (.int .i64 0) := (blk_cell BK.out 4).trans rfl; have q5_ : w1.cell? ⟨g14, 5, none⟩ = some (.slice none 0 0) := (blk_cell BK.out 5).trans rfl; have f0_ := blk_frozen BK.out 0; have f1_ := blk_frozen BK.out 1; have f2_ := blk_frozen BK.out 2; have f3_ := blk_frozen BK.out 3; have f4_ := blk_frozen BK.out 4; have f5_ := blk_frozen BK.out 5) | ((with_reducible refine gate_dst (N := 26) rfl ?_); refine Kd.R_lit (Kd.int .i64) _ 2 ?hg (N := 26) ?hd (xs := ([a1, a2, a3, a4] : List Int)) (inner := [.int .i64 a1, .int .i64 a2, .int .i64 a3, .int .i64 a4]) (ok := fun _ => True) (okp := fun _ => True) ?hr ?hp (fun _ hk => hk) trivial (Below.refl _ _) (Nat.le_refl _) (by simp) ?_; (case hd => rfl); (case hg => rfl); (case hr => first | (go_simp; done) | (go_simp; rfl)); (case hp => exact reps_ints _); intro v1 w1 ho hb hg hn; clear hg hn; obtain ⟨AQ, cQ, eQ⟩ := Kd.R_slice ho; subst eQ; have HQ := Aside0.mk ho; clear ho; have n0_ := Aside0.mk (below_step HB.out hb); have n1_ := Aside0.mk (blk_below BK.out hb); have n2_ := Aside0.mk (Kd.R_below HP.out hb); clear HB BK HP; have HB := n0_; have BK := n1_; have HP := n2_; clear n0_ n1_ n2_; clear hb; (try clear q0_ q1_ q2_ q3_ q4_ q5_ f0_ f1_ f2_ f3_ f4_ f5_); have q0_ : w1.cell? ⟨g14, 0, none⟩ = some (.int .i64 0) := (blk_cell BK.out 0).trans rfl; have q1_ : w1.cell? ⟨g14, 1, none⟩ = some (.int .i64 0) := (blk_cell BK.out 1).trans rfl; have q2_ : w1.cell? ⟨g14, 2, none⟩ = some (.int .i64 0) := (blk_cell BK.out 2).trans rfl; have q3_ : w1.cell? ⟨g14, 3, none⟩ = some (.int .i64 0) := (blk_cell BK.out 3).trans rfl; have q4_ : w1.cell? ⟨g14, 4, none⟩ = some (.int .i64 0) := (blk_cell BK.out 4).trans rfl; have q5_ : w1.cell? ⟨g14, 5, none⟩ = some (.slice none 0 0) := (blk_cell BK.out 5).trans rfl; have f0_ := blk_frozen BK.out 0; have f1_ := blk_frozen BK.out 1; have f2_ := blk_frozen BK.out 2; have f3_ := blk_frozen BK.out 3; have f4_ := blk_frozen BK.out 4; have f5_ := blk_frozen BK.out 5) | (go_at_call 70; refine (impl_namesFault.calls k A0 c0 l0 AP cP [a5, a6] AQ cQ [a1, a2, a3, a4] _ _ (Kd.C_below HR.out HB.out) HC.out (Kd.R_reads' HP.out).2.2 (Kd.R_reads' HP.out).2.1 (Kd.R_reads' HQ.out).2.2 (Kd.R_reads' HQ.out).2.1 HF.out).mono ?_; rintro e w4 ⟨rfl, hb⟩; have n0_ := Aside0.mk (below_step HB.out hb); have n1_ := Aside0.mk (blk_below BK.out hb); have n2_ := Aside0.mk (Kd.R_below HP.out hb); have n3_ := Aside0.mk (Kd.R_below HQ.out hb); clear HB BK HP HQ; have HB := n0_; have BK := n1_; have HP := n2_; have HQ := n3_; clear n0_ n1_ n2_ n3_; clear hb; (try clear q0_ q1_ q2_ q3_ q4_ q5_ f0_ f1_ f2_ f3_ f4_ f5_); have q0_ : w4.cell? ⟨g14, 0, none⟩ = some (.int .i64 0) := (blk_cell BK.out 0).trans rfl; have q1_ : w4.cell? ⟨g14, 1, none⟩ = some (.int .i64 0) := (blk_cell BK.out 1).trans rfl; have q2_ : w4.cell? ⟨g14, 2, none⟩ = some (.int .i64 0) := (blk_cell BK.out 2).trans rfl; have q3_ : w4.cell? ⟨g14, 3, none⟩ = some (.int .i64 0) := (blk_cell BK.out 3).trans rfl; have q4_ : w4.cell? ⟨g14, 4, none⟩ = some (.int .i64 0) := (blk_cell BK.out 4).trans rfl; have q5_ : w4.cell? ⟨g14, 5, none⟩ = some (.slice none 0 0) := (blk_cell BK.out 5).trans rfl; have f0_ := blk_frozen BK.out 0; have f1_ := blk_frozen BK.out 1; have f2_ := blk_frozen BK.out 2; have f3_ := blk_frozen BK.out 3; have f4_ := blk_frozen BK.out 4; have f5_ := blk_frozen BK.out 5))
    refine bodyPost_ret (results_cell_row rfl _ _ g14 64 #[.int .i64 c, .int .i64 0, .int .i64 0, .int .i64 0, .int .i64 0, .slice none 0 0] (0, 0) _ rfl (blk_put (blk_put (blk_put (blk_put (blk_put (blk_put BK.out 0 _ rfl) 1 _ rfl) 2 _ rfl) 3 _ rfl) 4 _ rfl) 5 _ rfl) Try.underlying64 rfl (by kernel_rfl)) rfl ?_
    exact ⟨_, rfl, Kd.R_nil _ _ _ _ _, below_set (below_set (below_set (below_set (below_set (below_set HB.out GE.out) GE.out) GE.out) GE.out) GE.out) GE.out⟩
end Go.Proofs.Ytomaeijhljpgdaa.G
namespace Go.Proofs.Ytomaeijhljpgdaa.G
open Go.RowKit Go.Proofs.YtomaeijhljpgdaaW.PrintWords Go.Proofs.YtomaeijhljpgdaaW.PrintLast Go.Proofs.YtomaeijhljpgdaaW.PrintMore
attribute [local go_sem] max2_int min2_int max_two min_two max_three min_three max_four min_four   -- for this text's walks alone
set_option linter.unusedVariables false
set_option linter.unusedSimpArgs false
def laws_eqKeys.f (a0_0 : Int) (a0_1 : Int) (a0_2 : Int) (a0_3 : Int) (a1_0 : Int) (a1_1 : Int) (a1_2 : Int) (a1_3 : Int) : Option (Bool) := if a0_0 = a1_0 then (if a0_1 = a1_1 then (if a0_2 = a1_2 then (if a0_3 = a1_3 then (some true) else (some false)) else (some false)) else (some false)) else (some false)
set_option maxHeartbeats 8000000 in
set_option maxRecDepth 100000 in
theorem laws_eqKeys.calls (a0_0 : Int) (a0_1 : Int) (a0_2 : Int) (a0_3 : Int) (a1_0 : Int) (a1_1 : Int) (a1_2 : Int) (a1_3 : Int) (r : Bool) (w : World) (h : laws_eqKeys.f a0_0 a0_1 a0_2 a0_3 a1_0 a1_1 a1_2 a1_3 = some r) :
  Calls Try.prog 81 #[.agg #[.int .i64 a0_0, .int .i64 a0_1, .int .i64 a0_2, .int .i64 a0_3], .agg #[.int .i64 a1_0, .int .i64 a1_1, .int .i64 a1_2, .int .i64 a1_3]] w fun e w' => e = .returned (.bool r) ∧ Below w.heap.size w w' := by
 have hu62 := Try.underlying62
 have HB := Aside0.mk (Below.refl w.heap.size w)
 have H : (if a0_0 = a1_0 then (if a0_1 = a1_1 then (if a0_2 = a1_2 then (if a0_3 = a1_3 then (some true) else (some false)) else (some false)) else (some false)) else (some false)) = some r := h
 clear h
 by_cases c3 : a0_0 = a1_0
 ·rw [if_pos c3] at H
  have c3b0 : (a0_0 == a1_0) = true := beq_iff_eq.mpr c3
  have c3b1 : (a0_0 != a1_0) = false := bne_eq_false_iff_eq.mpr c3
  clear c3
  by_cases c4 : a0_1 = a1_1
  ·rw [if_pos c4] at H
   have c4b0 : (a0_1 == a1_1) = true := beq_iff_eq.mpr c4
   have c4b1 : (a0_1 != a1_1) = false := bne_eq_false_iff_eq.mpr c4
   clear c4
   by_cases c5 : a0_2 = a1_2
   ·rw [if_pos c5] at H
    have c5b0 : (a0_2 == a1_2) = true := beq_iff_eq.mpr c5
    have c5b1 : (a0_2 != a1_2) = false := bne_eq_false_iff_eq.mpr c5
    clear c5
    by_cases c6 : a0_3 = a1_3
    ·rw [if_pos c6] at H
     have c6b0 : (a0_3 == a1_3) = true := beq_iff_eq.mpr c6
     have c6b1 : (a0_3 != a1_3) = false := bne_eq_false_iff_eq.mpr c6
     clear c6
     obtain rfl := Option.some.inj H
     go_enter Try.func81, Try.ntmps81
     go_wp2_with (first | ((with_reducible refine gate_dst (N := 2) rfl ?_); refine box_event ?hg (N := 2) ?hd (cs := #[.int .i64 a0_0, .int .i64 a0_1, .int .i64 a0_2, .int .i64 a0_3]) (t := 62) ?hr ?_; (case hd => rfl); (case hg => rfl); (case hr => first | (go_simp; done) | (go_simp; rfl)); intro gb656 hg w7 hbox hb; have n0_ := Aside0.mk (below_step (by repeat (first | (with_reducible first | exact HB.out | apply below_alloc | apply pw_below_drewN | apply below_drew1) | exact HB.out)) hb); have n1_ := Aside0.mk (hbox); have n2_ := Aside0.mk ((by rw [hg]; exact (below_size (by repeat (first | (with_reducible first | exact HB.out | apply below_alloc | apply pw_below_drewN | apply below_drew1) | exact HB.out))) : w.heap.size ≤ gb656)); have n3_ := Aside0.mk ((by rw [hg]; exact (below_size (by repeat (first | (with_reducible first | exact HB.out | apply below_alloc | apply pw_below_drewN | apply below_drew1) | exact HB.out))) : w.heap.size ≤ gb656)); clear HB; have HB := n0_; have BK656 := n1_; have GW656 := n2_; have GE656 := n3_; clear n0_ n1_ n2_ n3_; clear hb hbox hg) | ((with_reducible refine gate_dst (N := 3) rfl ?_); refine box_event ?hg (N := 3) ?hd (cs := #[.int .i64 a1_0, .int .i64 a1_1, .int .i64 a1_2, .int .i64 a1_3]) (t := 62) ?hr ?_; (case hd => rfl); (case hg => rfl); (case hr => first | (go_simp; done) | (go_simp; rfl)); intro gb657 hg w8 hbox hb; have n0_ := Aside0.mk (blk_below (g := gb656) (o := .cells #[.int .i64 a0_0, .int .i64 a0_1, .int .i64 a0_2, .int .i64 a0_3] 62 (0, 0)) (by (with_reducible repeat (first | refine blk_drewN ?_ _ | refine blk_drew ?_ | refine blk_alloc ?_ _)); exact BK656.out) hb); have n1_ := Aside0.mk (below_step (by repeat (first | (with_reducible first | exact HB.out | apply below_alloc | apply pw_below_drewN | apply below_drew1 | refine below_set ?_ GE656.out) | exact HB.out)) hb); have n2_ := Aside0.mk (hbox); have n3_ := Aside0.mk ((by rw [hg]; exact (below_size (by repeat (first | (with_reducible first | exact HB.out | apply below_alloc | apply pw_below_drewN | apply below_drew1 | refine below_set ?_ GE656.out) | exact HB.out))) : w.heap.size ≤ gb657)); have n4_ := Aside0.mk ((by rw [hg]; exact (below_size (by repeat (first | (with_reducible first | exact HB.out | apply below_alloc | apply pw_below_drewN | apply below_drew1 | refine below_set ?_ GE656.out) | exact HB.out))) : w.heap.size ≤ gb657)); have n5_ := Aside0.mk ((by rw [hg]; exact Nat.ne_of_lt (blk_lt (g := gb656) (o := .cells #[.int .i64 a0_0, .int .i64 a0_1, .int .i64 a0_2, .int .i64 a0_3] 62 (0, 0)) (by (with_reducible repeat (first | refine blk_drewN ?_ _ | refine blk_drew ?_ | refine blk_alloc ?_ _)); exact BK656.out)) : gb656 ≠ gb657)); have n6_ := Aside0.mk ((by rw [hg]; exact Nat.ne_of_gt (blk_lt (g := gb656) (o := .cells #[.int .i64 a0_0, .int .i64 a0_1, .int .i64 a0_2, .int .i64 a0_3] 62 (0, 0)) (by (with_reducible repeat (first | refine blk_drewN ?_ _ | refine blk_drew ?_ | refine blk_alloc ?_ _)); exact BK656.out)) : gb657 ≠ gb656)); clear BK656; clear HB; have BK656 := n0_; have HB := n1_; have BK657 := n2_; have GW657 := n3_; have GE657 := n4_; have NB656_657 := n5_; have NB657_656 := n6_; clear n0_ n1_ n2_ n3_ n4_ n5_ n6_; clear hb hbox hg; have hnb9 := NB656_657.out; have hnc9 := NB657_656.out; have hcz10_0 : w8.cell? ⟨gb656, 0, none⟩ = some (.int .i64 a0_0) := (blk_cell BK656.out 0).trans rfl; have hcz10_1 : w8.cell? ⟨gb656, 1, none⟩ = some (.int .i64 a0_1) := (blk_cell BK656.out 1).trans rfl; have hcz10_2 : w8.cell? ⟨gb656, 2, none⟩ = some (.int .i64 a0_2) := (blk_cell BK656.out 2).trans rfl; have hcz10_3 : w8.cell? ⟨gb656, 3, none⟩ = some (.int .i64 a0_3) := (blk_cell BK656.out 3).trans rfl; have hfz10_0 := blk_frozen BK656.out 0; have hfz10_1 := blk_frozen BK656.out 1; have hfz10_2 := blk_frozen BK656.out 2; have hfz10_3 := blk_frozen BK656.out 3; have hcz11_0 : w8.cell? ⟨gb657, 0, none⟩ = some (.int .i64 a1_0) := (blk_cell BK657.out 0).trans rfl; have hcz11_1 : w8.cell? ⟨gb657, 1, none⟩ = some (.int .i64 a1_1) := (blk_cell BK657.out 1).trans rfl; have hcz11_2 : w8.cell? ⟨gb657, 2, none⟩ = some (.int .i64 a1_2) := (blk_cell BK657.out 2).trans rfl; have hcz11_3 : w8.cell? ⟨gb657, 3, none⟩ = some (.int .i64 a1_3) := (blk_cell BK657.out 3).trans rfl; have hfz11_0 := blk_frozen BK657.out 0; have hfz11_1 := blk_frozen BK657.out 1; have hfz11_2 := blk_frozen BK657.out 2; have hfz11_3 := blk_frozen BK657.out 3))
     go_ret
     exact ⟨by first | rfl | (simp [errW_none, errW_some] <;> rfl) | (simp [*, errW_none, errW_some] <;> rfl), by repeat (first | (with_reducible first | exact HB.out | apply below_alloc | apply pw_below_drewN | apply below_drew1 | refine below_set ?_ GE656.out | refine below_set ?_ GE657.out) | exact HB.out)⟩
    ·rw [if_neg c6] at H
     have c6b0 : (a0_3 == a1_3) = false := beq_eq_false_iff_ne.mpr c6
     have c6b1 : (a0_3 != a1_3) = true := bne_iff_ne.mpr c6
     obtain rfl := Option.some.inj H
     go_enter Try.func81, Try.ntmps81
     go_wp2_with (first | ((with_reducible refine gate_dst (N := 2) rfl ?_); refine box_event ?hg (N := 2) ?hd (cs := #[.int .i64 a0_0, .int .i64 a0_1, .int .i64 a0_2, .int .i64 a0_3]) (t := 62) ?hr ?_; (case hd => rfl); (case hg => rfl); (case hr => first | (go_simp; done) | (go_simp; rfl)); intro gb656 hg w12 hbox hb; have n0_ := Aside0.mk (below_step (by repeat (first | (with_reducible first | exact HB.out | apply below_alloc | apply pw_below_drewN | apply below_drew1) | exact HB.out)) hb); have n1_ := Aside0.mk (hbox); have n2_ := Aside0.mk ((by rw [hg]; exact (below_size (by repeat (first | (with_reducible first | exact HB.out | apply below_alloc | apply pw_below_drewN | apply below_drew1) | exact HB.out))) : w.heap.size ≤ gb656)); have n3_ := Aside0.mk ((by rw [hg]; exact (below_size (by repeat (first | (with_reducible first | exact HB.out | apply below_alloc | apply pw_below_drewN | apply below_drew1) | exact HB.out))) : w.heap.size ≤ gb656)); clear HB; have HB := n0_; have BK656 := n1_; have GW656 := n2_; have GE656 := n3_; clear n0_ n1_ n2_ n3_; clear hb hbox hg) | ((with_reducible refine gate_dst (N := 3) rfl ?_); refine box_event ?hg (N := 3) ?hd (cs := #[.int .i64 a1_0, .int .i64 a1_1, .int .i64 a1_2, .int .i64 a1_3]) (t := 62) ?hr ?_; (case hd => rfl); (case hg => rfl); (case hr => first | (go_simp; done) | (go_simp; rfl)); intro gb657 hg w13 hbox hb; have n0_ := Aside0.mk (blk_below (g := gb656) (o := .cells #[.int .i64 a0_0, .int .i64 a0_1, .int .i64 a0_2, .int .i64 a0_3] 62 (0, 0)) (by (with_reducible repeat (first | refine blk_drewN ?_ _ | refine blk_drew ?_ | refine blk_alloc ?_ _)); exact BK656.out) hb); have n1_ := Aside0.mk (below_step (by repeat (first | (with_reducible first | exact HB.out | apply below_alloc | apply pw_below_drewN | apply below_drew1 | refine below_set ?_ GE656.out) | exact HB.out)) hb); have n2_ := Aside0.mk (hbox); have n3_ := Aside0.mk ((by rw [hg]; exact (below_size (by repeat (first | (with_reducible first | exact HB.out | apply below_alloc | apply pw_below_drewN | apply below_drew1 | refine below_set ?_ GE656.out) | exact HB.out))) : w.heap.size ≤ gb657)); have n4_ := Aside0.mk ((by rw [hg]; exact (below_size (by repeat (first | (with_reducible first | exact HB.out | apply below_alloc | apply pw_below_drewN | apply below_drew1 | refine below_set ?_ GE656.out) | exact HB.out))) : w.heap.size ≤ gb657)); have n5_ := Aside0.mk ((by rw [hg]; exact Nat.ne_of_lt (blk_lt (g := gb656) (o := .cells #[.int .i64 a0_0, .int .i64 a0_1, .int .i64 a0_2, .int .i64 a0_3] 62 (0, 0)) (by (with_reducible repeat (first | refine blk_drewN ?_ _ | refine blk_drew ?_ | refine blk_alloc ?_ _)); exact BK656.out)) : gb656 ≠ gb657)); have n6_ := Aside0.mk ((by rw [hg]; exact Nat.ne_of_gt (blk_lt (g := gb656) (o := .cells #[.int .i64 a0_0, .int .i64 a0_1, .int .i64 a0_2, .int .i64 a0_3] 62 (0, 0)) (by (with_reducible repeat (first | refine blk_drewN ?_ _ | refine blk_drew ?_ | refine blk_alloc ?_ _)); exact BK656.out)) : gb657 ≠ gb656)); clear BK656; clear HB; have BK656 := n0_; have HB := n1_; have BK657 := n2_; have GW657 := n3_; have GE657 := n4_; have NB656_657 := n5_; have NB657_656 := n6_; clear n0_ n1_ n2_ n3_ n4_ n5_ n6_; clear hb hbox hg; have hnb14 := NB656_657.out; have hnc14 := NB657_656.out; have hcz15_0 : w13.cell? ⟨gb656, 0, none⟩ = some (.int .i64 a0_0) := (blk_cell BK656.out 0).trans rfl; have hcz15_1 : w13.cell? ⟨gb656, 1, none⟩ = some (.int .i64 a0_1) := (blk_cell BK656.out 1).trans rfl; have hcz15_2 : w13.cell? ⟨gb656, 2, none⟩ = some (.int .i64 a0_2) := (blk_cell BK656.out 2).trans rfl; have hcz15_3 : w13.cell? ⟨gb656, 3, none⟩ = some (.int .i64 a0_3) := (blk_cell BK656.out 3).trans rfl; have hfz15_0 := blk_frozen BK656.out 0; have hfz15_1 := blk_frozen BK656.out 1; have hfz15_2 := blk_frozen BK656.out 2; have hfz15_3 := blk_frozen BK656.out 3; have hcz16_0 : w13.cell? ⟨gb657, 0, none⟩ = some (.int .i64 a1_0) := (blk_cell BK657.out 0).trans rfl; have hcz16_1 : w13.cell? ⟨gb657, 1, none⟩ = some (.int .i64 a1_1) := (blk_cell BK657.out 1).trans rfl; have hcz16_2 : w13.cell? ⟨gb657, 2, none⟩ = some (.int .i64 a1_2) := (blk_cell BK657.out 2).trans rfl; have hcz16_3 : w13.cell? ⟨gb657, 3, none⟩ = some (.int .i64 a1_3) := (blk_cell BK657.out 3).trans rfl; have hfz16_0 := blk_frozen BK657.out 0; have hfz16_1 := blk_frozen BK657.out 1; have hfz16_2 := blk_frozen BK657.out 2; have hfz16_3 := blk_frozen BK657.out 3))
     go_ret
     exact ⟨by first | rfl | (simp [errW_none, errW_some] <;> rfl) | (simp [*, errW_none, errW_some] <;> rfl), by repeat (first | (with_reducible first | exact HB.out | apply below_alloc | apply pw_below_drewN | apply below_drew1 | refine below_set ?_ GE656.out | refine below_set ?_ GE657.out) | exact HB.out)⟩
   ·rw [if_neg c5] at H
    have c5b0 : (a0_2 == a1_2) = false := beq_eq_false_iff_ne.mpr c5
    have c5b1 : (a0_2 != a1_2) = true := bne_iff_ne.mpr c5
    obtain rfl := Option.some.inj H
    go_enter Try.func81, Try.ntmps81
    go_wp2_with (first | ((with_reducible refine gate_dst (N := 2) rfl ?_); refine box_event ?hg (N := 2) ?hd (cs := #[.int .i64 a0_0, .int .i64 a0_1, .int .i64 a0_2, .int .i64 a0_3]) (t := 62) ?hr ?_; (case hd => rfl); (case hg => rfl); (case hr => first | (go_simp; done) | (go_simp; rfl)); intro gb656 hg w17 hbox hb; have n0_ := Aside0.mk (below_step (by repeat (first | (with_reducible first | exact HB.out | apply below_alloc | apply pw_below_drewN | apply below_drew1) | exact HB.out)) hb); have n1_ := Aside0.mk (hbox); have n2_ := Aside0.mk ((by rw [hg]; exact (below_size (by repeat (first | (with_reducible first | exact HB.out | apply below_alloc | apply pw_below_drewN | apply below_drew1) | exact HB.out))) : w.heap.size ≤ gb656)); have n3_ := Aside0.mk ((by rw [hg]; exact (below_size (by repeat (first | (with_reducible first | exact HB.out | apply below_alloc | apply pw_below_drewN | apply below_drew1) | exact HB.out))) : w.heap.size ≤ gb656)); clear HB; have HB := n0_; have BK656 := n1_; have GW656 := n2_; have GE656 := n3_; clear n0_ n1_ n2_ n3_; clear hb hbox hg) | ((with_reducible refine gate_dst (N := 3) rfl ?_); refine box_event ?hg (N := 3) ?hd (cs := #[.int .i64 a1_0, .int .i64 a1_1, .int .i64 a1_2, .int .i64 a1_3]) (t := 62) ?hr ?_; (case hd => rfl); (case hg => rfl); (case hr => first | (go_simp; done) | (go_simp; rfl)); intro gb657 hg w18 hbox hb; have n0_ := Aside0.mk (blk_below (g := gb656) (o := .cells #[.int .i64 a0_0, .int .i64 a0_1, .int .i64 a0_2, .int .i64 a0_3] 62 (0, 0)) (by (with_reducible repeat (first | refine blk_drewN ?_ _ | refine blk_drew ?_ | refine blk_alloc ?_ _)); exact BK656.out) hb); have n1_ := Aside0.mk (below_step (by repeat (first | (with_reducible first | exact HB.out | apply below_alloc | apply pw_below_drewN | apply below_drew1 | refine below_set ?_ GE656.out) | exact HB.out)) hb); have n2_ := Aside0.mk (hbox); have n3_ := Aside0.mk ((by rw [hg]; exact (below_size (by repeat (first | (with_reducible first | exact HB.out | apply below_alloc | apply pw_below_drewN | apply below_drew1 | refine below_set ?_ GE656.out) | exact HB.out))) : w.heap.size ≤ gb657)); have n4_ := Aside0.mk ((by rw [hg]; exact (below_size (by repeat (first | (with_reducible first | exact HB.out | apply below_alloc | apply pw_below_drewN | apply below_drew1 | refine below_set ?_ GE656.out) | exact HB.out))) : w.heap.size ≤ gb657)); have n5_ := Aside0.mk ((by rw [hg]; exact Nat.ne_of_lt (blk_lt (g := gb656) (o := .cells #[.int .i64 a0_0, .int .i64 a0_1, .int .i64 a0_2, .int .i64 a0_3] 62 (0, 0)) (by (with_reducible repeat (first | refine blk_drewN ?_ _ | refine blk_drew ?_ | refine blk_alloc ?_ _)); exact BK656.out)) : gb656 ≠ gb657)); have n6_ := Aside0.mk ((by rw [hg]; exact Nat.ne_of_gt (blk_lt (g := gb656) (o := .cells #[.int .i64 a0_0, .int .i64 a0_1, .int .i64 a0_2, .int .i64 a0_3] 62 (0, 0)) (by (with_reducible repeat (first | refine blk_drewN ?_ _ | refine blk_drew ?_ | refine blk_alloc ?_ _)); exact BK656.out)) : gb657 ≠ gb656)); clear BK656; clear HB; have BK656 := n0_; have HB := n1_; have BK657 := n2_; have GW657 := n3_; have GE657 := n4_; have NB656_657 := n5_; have NB657_656 := n6_; clear n0_ n1_ n2_ n3_ n4_ n5_ n6_; clear hb hbox hg; have hnb19 := NB656_657.out; have hnc19 := NB657_656.out; have hcz20_0 : w18.cell? ⟨gb656, 0, none⟩ = some (.int .i64 a0_0) := (blk_cell BK656.out 0).trans rfl; have hcz20_1 : w18.cell? ⟨gb656, 1, none⟩ = some (.int .i64 a0_1) := (blk_cell BK656.out 1).trans rfl; have hcz20_2 : w18.cell? ⟨gb656, 2, none⟩ = some (.int .i64 a0_2) := (blk_cell BK656.out 2).trans rfl; have hcz20_3 : w18.cell? ⟨gb656, 3, none⟩ = some (.int .i64 a0_3) := (blk_cell BK656.out 3).trans rfl; have hfz20_0 := blk_frozen BK656.out 0; have hfz20_1 := blk_frozen BK656.out 1; have hfz20_2 := blk_frozen BK656.out 2; have hfz20_3 := blk_frozen BK656.out 3; have hcz21_0 : w18.cell? ⟨gb657, 0, none⟩ = some (.int .i64 a1_0) := (blk_cell BK657.out 0).trans rfl; have hcz21_1 : w18.cell? ⟨gb657, 1, none⟩ = some (.int .i64 a1_1) := (blk_cell BK657.out 1).trans rfl; have hcz21_2 : w18.cell? ⟨gb657, 2, none⟩ = some (.int .i64 a1_2) := (blk_cell BK657.out 2).trans rfl; have hcz21_3 : w18.cell? ⟨gb657, 3, none⟩ = some (.int .i64 a1_3) := (blk_cell BK657.out 3).trans rfl; have hfz21_0 := blk_frozen BK657.out 0; have hfz21_1 := blk_frozen BK657.out 1; have hfz21_2 := blk_frozen BK657.out 2; have hfz21_3 := blk_frozen BK657.out 3))
    go_ret
    exact ⟨by first | rfl | (simp [errW_none, errW_some] <;> rfl) | (simp [*, errW_none, errW_some] <;> rfl), by repeat (first | (with_reducible first | exact HB.out | apply below_alloc | apply pw_below_drewN | apply below_drew1 | refine below_set ?_ GE656.out | refine below_set ?_ GE657.out) | exact HB.out)⟩
  ·rw [if_neg c4] at H
   have c4b0 : (a0_1 == a1_1) = false := beq_eq_false_iff_ne.mpr c4
   have c4b1 : (a0_1 != a1_1) = true := bne_iff_ne.mpr c4
   obtain rfl := Option.some.inj H
   go_enter Try.func81, Try.ntmps81
   go_wp2_with (first | ((with_reducible refine gate_dst (N := 2) rfl ?_); refine box_event ?hg (N := 2) ?hd (cs := #[.int .i64 a0_0, .int .i64 a0_1, .int .i64 a0_2, .int .i64 a0_3]) (t := 62) ?hr ?_; (case hd => rfl); (case hg => rfl); (case hr => first | (go_simp; done) | (go_simp; rfl)); intro gb656 hg w22 hbox hb; have n0_ := Aside0.mk (below_step (by repeat (first | (with_reducible first | exact HB.out | apply below_alloc | apply pw_below_drewN | apply below_drew1) | exact HB.out)) hb); have n1_ := Aside0.mk (hbox); have n2_ := Aside0.mk ((by rw [hg]; exact (below_size (by repeat (first | (with_reducible first | exact HB.out | apply below_alloc | apply pw_below_drewN | apply below_drew1) | exact HB.out))) : w.heap.size ≤ gb656)); have n3_ := Aside0.mk ((by rw [hg]; exact (below_size (by repeat (first | (with_reducible first | exact HB.out | apply below_alloc | apply pw_below_drewN | apply below_drew1) | exact HB.out))) : w.heap.size ≤ gb656)); clear HB; have HB := n0_; have BK656 := n1_; have GW656 := n2_; have GE656 := n3_; clear n0_ n1_ n2_ n3_; clear hb hbox hg) | ((with_reducible refine gate_dst (N := 3) rfl ?_); refine box_event ?hg (N := 3) ?hd (cs := #[.int .i64 a1_0, .int .i64 a1_1, .int .i64 a1_2, .int .i64 a1_3]) (t := 62) ?hr ?_; (case hd => rfl); (case hg => rfl); (case hr => first | (go_simp; done) | (go_simp; rfl)); intro gb657 hg w23 hbox hb; have n0_ := Aside0.mk (blk_below (g := gb656) (o := .cells #[.int .i64 a0_0, .int .i64 a0_1, .int .i64 a0_2, .int .i64 a0_3] 62 (0, 0)) (by (with_reducible repeat (first | refine blk_drewN ?_ _ | refine blk_drew ?_ | refine blk_alloc ?_ _)); exact BK656.out) hb); have n1_ := Aside0.mk (below_step (by repeat (first | (with_reducible first | exact HB.out | apply below_alloc | apply pw_below_drewN | apply below_drew1 | refine below_set ?_ GE656.out) | exact HB.out)) hb); have n2_ := Aside0.mk (hbox); have n3_ := Aside0.mk ((by rw [hg]; exact (below_size (by repeat (first | (with_reducible first | exact HB.out | apply below_alloc | apply pw_below_drewN | apply below_drew1 | refine below_set ?_ GE656.out) | exact HB.out))) : w.heap.size ≤ gb657)); have n4_ := Aside0.mk ((by rw [hg]; exact (below_size (by repeat (first | (with_reducible first | exact HB.out | apply below_alloc | apply pw_below_drewN | apply below_drew1 | refine below_set ?_ GE656.out) | exact HB.out))) : w.heap.size ≤ gb657)); have n5_ := Aside0.mk ((by rw [hg]; exact Nat.ne_of_lt (blk_lt (g := gb656) (o := .cells #[.int .i64 a0_0, .int .i64 a0_1, .int .i64 a0_2, .int .i64 a0_3] 62 (0, 0)) (by (with_reducible repeat (first | refine blk_drewN ?_ _ | refine blk_drew ?_ | refine blk_alloc ?_ _)); exact BK656.out)) : gb656 ≠ gb657)); have n6_ := Aside0.mk ((by rw [hg]; exact Nat.ne_of_gt (blk_lt (g := gb656) (o := .cells #[.int .i64 a0_0, .int .i64 a0_1, .int .i64 a0_2, .int .i64 a0_3] 62 (0, 0)) (by (with_reducible repeat (first | refine blk_drewN ?_ _ | refine blk_drew ?_ | refine blk_alloc ?_ _)); exact BK656.out)) : gb657 ≠ gb656)); clear BK656; clear HB; have BK656 := n0_; have HB := n1_; have BK657 := n2_; have GW657 := n3_; have GE657 := n4_; have NB656_657 := n5_; have NB657_656 := n6_; clear n0_ n1_ n2_ n3_ n4_ n5_ n6_; clear hb hbox hg; have hnb24 := NB656_657.out; have hnc24 := NB657_656.out; have hcz25_0 : w23.cell? ⟨gb656, 0, none⟩ = some (.int .i64 a0_0) := (blk_cell BK656.out 0).trans rfl; have hcz25_1 : w23.cell? ⟨gb656, 1, none⟩ = some (.int .i64 a0_1) := (blk_cell BK656.out 1).trans rfl; have hcz25_2 : w23.cell? ⟨gb656, 2, none⟩ = some (.int .i64 a0_2) := (blk_cell BK656.out 2).trans rfl; have hcz25_3 : w23.cell? ⟨gb656, 3, none⟩ = some (.int .i64 a0_3) := (blk_cell BK656.out 3).trans rfl; have hfz25_0 := blk_frozen BK656.out 0; have hfz25_1 := blk_frozen BK656.out 1; have hfz25_2 := blk_frozen BK656.out 2; have hfz25_3 := blk_frozen BK656.out 3; have hcz26_0 : w23.cell? ⟨gb657, 0, none⟩ = some (.int .i64 a1_0) := (blk_cell BK657.out 0).trans rfl; have hcz26_1 : w23.cell? ⟨gb657, 1, none⟩ = some (.int .i64 a1_1) := (blk_cell BK657.out 1).trans rfl; have hcz26_2 : w23.cell? ⟨gb657, 2, none⟩ = some (.int .i64 a1_2) := (blk_cell BK657.out 2).trans rfl; have hcz26_3 : w23.cell? ⟨gb657, 3, none⟩ = some (.int .i64 a1_3) := (blk_cell BK657.out 3).trans rfl; have hfz26_0 := blk_frozen BK657.out 0; have hfz26_1 := blk_frozen BK657.out 1; have hfz26_2 := blk_frozen BK657.out 2; have hfz26_3 := blk_frozen BK657.out 3))
   go_ret
   exact ⟨by first | rfl | (simp [errW_none, errW_some] <;> rfl) | (simp [*, errW_none, errW_some] <;> rfl), by repeat (first | (with_reducible first | exact HB.out | apply below_alloc | apply pw_below_drewN | apply below_drew1 | refine below_set ?_ GE656.out | refine below_set ?_ GE657.out) | exact HB.out)⟩
 ·rw [if_neg c3] at H
  have c3b0 : (a0_0 == a1_0) = false := beq_eq_false_iff_ne.mpr c3
  have c3b1 : (a0_0 != a1_0) = true := bne_iff_ne.mpr c3
  obtain rfl := Option.some.inj H
  go_enter Try.func81, Try.ntmps81
  go_wp2_with (first | ((with_reducible refine gate_dst (N := 2) rfl ?_); refine box_event ?hg (N := 2) ?hd (cs := #[.int .i64 a0_0, .int .i64 a0_1, .int .i64 a0_2, .int .i64 a0_3]) (t := 62) ?hr ?_; (case hd => rfl); (case hg => rfl); (case hr => first | (go_simp; done) | (go_simp; rfl)); intro gb656 hg w27 hbox hb; have n0_ := Aside0.mk (below_step (by repeat (first | (with_reducible first | exact HB.out | apply below_alloc | apply pw_below_drewN | apply below_drew1) | exact HB.out)) hb); have n1_ := Aside0.mk (hbox); have n2_ := Aside0.mk ((by rw [hg]; exact (below_size (by repeat (first | (with_reducible first | exact HB.out | apply below_alloc | apply pw_below_drewN | apply below_drew1) | exact HB.out))) : w.heap.size ≤ gb656)); have n3_ := Aside0.mk ((by rw [hg]; exact (below_size (by repeat (first | (with_reducible first | exact HB.out | apply below_alloc | apply pw_below_drewN | apply below_drew1) | exact HB.out))) : w.heap.size ≤ gb656)); clear HB; have HB := n0_; have BK656 := n1_; have GW656 := n2_; have GE656 := n3_; clear n0_ n1_ n2_ n3_; clear hb hbox hg) | ((with_reducible refine gate_dst (N := 3) rfl ?_); refine box_event ?hg (N := 3) ?hd (cs := #[.int .i64 a1_0, .int .i64 a1_1, .int .i64 a1_2, .int .i64 a1_3]) (t := 62) ?hr ?_; (case hd => rfl); (case hg => rfl); (case hr => first | (go_simp; done) | (go_simp; rfl)); intro gb657 hg w28 hbox hb; have n0_ := Aside0.mk (blk_below (g := gb656) (o := .cells #[.int .i64 a0_0, .int .i64 a0_1, .int .i64 a0_2, .int .i64 a0_3] 62 (0, 0)) (by (with_reducible repeat (first | refine blk_drewN ?_ _ | refine blk_drew ?_ | refine blk_alloc ?_ _)); exact BK656.out) hb); have n1_ := Aside0.mk (below_step (by repeat (first | (with_reducible first | exact HB.out | apply below_alloc | apply pw_below_drewN | apply below_drew1 | refine below_set ?_ GE656.out) | exact HB.out)) hb); have n2_ := Aside0.mk (hbox); have n3_ := Aside0.mk ((by rw [hg]; exact (below_size (by repeat (first | (with_reducible first | exact HB.out | apply below_alloc | apply pw_below_drewN | apply below_drew1 | refine below_set ?_ GE656.out) | exact HB.out))) : w.heap.size ≤ gb657)); have n4_ := Aside0.mk ((by rw [hg]; exact (below_size (by repeat (first | (with_reducible first | exact HB.out | apply below_alloc | apply pw_below_drewN | apply below_drew1 | refine below_set ?_ GE656.out) | exact HB.out))) : w.heap.size ≤ gb657)); have n5_ := Aside0.mk ((by rw [hg]; exact Nat.ne_of_lt (blk_lt (g := gb656) (o := .cells #[.int .i64 a0_0, .int .i64 a0_1, .int .i64 a0_2, .int .i64 a0_3] 62 (0, 0)) (by (with_reducible repeat (first | refine blk_drewN ?_ _ | refine blk_drew ?_ | refine blk_alloc ?_ _)); exact BK656.out)) : gb656 ≠ gb657)); have n6_ := Aside0.mk ((by rw [hg]; exact Nat.ne_of_gt (blk_lt (g := gb656) (o := .cells #[.int .i64 a0_0, .int .i64 a0_1, .int .i64 a0_2, .int .i64 a0_3] 62 (0, 0)) (by (with_reducible repeat (first | refine blk_drewN ?_ _ | refine blk_drew ?_ | refine blk_alloc ?_ _)); exact BK656.out)) : gb657 ≠ gb656)); clear BK656; clear HB; have BK656 := n0_; have HB := n1_; have BK657 := n2_; have GW657 := n3_; have GE657 := n4_; have NB656_657 := n5_; have NB657_656 := n6_; clear n0_ n1_ n2_ n3_ n4_ n5_ n6_; clear hb hbox hg; have hnb29 := NB656_657.out; have hnc29 := NB657_656.out; have hcz30_0 : w28.cell? ⟨gb656, 0, none⟩ = some (.int .i64 a0_0) := (blk_cell BK656.out 0).trans rfl; have hcz30_1 : w28.cell? ⟨gb656, 1, none⟩ = some (.int .i64 a0_1) := (blk_cell BK656.out 1).trans rfl; have hcz30_2 : w28.cell? ⟨gb656, 2, none⟩ = some (.int .i64 a0_2) := (blk_cell BK656.out 2).trans rfl; have hcz30_3 : w28.cell? ⟨gb656, 3, none⟩ = some (.int .i64 a0_3) := (blk_cell BK656.out 3).trans rfl; have hfz30_0 := blk_frozen BK656.out 0; have hfz30_1 := blk_frozen BK656.out 1; have hfz30_2 := blk_frozen BK656.out 2; have hfz30_3 := blk_frozen BK656.out 3; have hcz31_0 : w28.cell? ⟨gb657, 0, none⟩ = some (.int .i64 a1_0) := (blk_cell BK657.out 0).trans rfl; have hcz31_1 : w28.cell? ⟨gb657, 1, none⟩ = some (.int .i64 a1_1) := (blk_cell BK657.out 1).trans rfl; have hcz31_2 : w28.cell? ⟨gb657, 2, none⟩ = some (.int .i64 a1_2) := (blk_cell BK657.out 2).trans rfl; have hcz31_3 : w28.cell? ⟨gb657, 3, none⟩ = some (.int .i64 a1_3) := (blk_cell BK657.out 3).trans rfl; have hfz31_0 := blk_frozen BK657.out 0; have hfz31_1 := blk_frozen BK657.out 1; have hfz31_2 := blk_frozen BK657.out 2; have hfz31_3 := blk_frozen BK657.out 3))
  go_ret
  exact ⟨by first | rfl | (simp [errW_none, errW_some] <;> rfl) | (simp [*, errW_none, errW_some] <;> rfl), by repeat (first | (with_reducible first | exact HB.out | apply below_alloc | apply pw_below_drewN | apply below_drew1 | refine below_set ?_ GE656.out | refine below_set ?_ GE657.out) | exact HB.out)⟩
end Go.Proofs.Ytomaeijhljpgdaa.G
namespace Go.Proofs.Ytomaeijhljpgdaa.G
open Go.RowKit Go.Proofs.YtomaeijhljpgdaaW.PrintWords Go.Proofs.YtomaeijhljpgdaaW.PrintLast Go.Proofs.YtomaeijhljpgdaaW.PrintMore
attribute [local go_sem] max2_int min2_int max_two min_two max_three min_three max_four min_four   -- for this text's walks alone
set_option linter.unusedVariables false
set_option linter.unusedSimpArgs false
def laws_eqKeysResult.f (k : Nat) (a0_0 : Int) (a0_1 : Int) (a0_2 : Int) (a0_3 : Int) (a0_4 : Int) (l0_5 : List (S26)) (a1_0 : Int) (a1_1 : Int) (a1_2 : Int) (a1_3 : Int) (a1_4 : Int) (l1_5 : List (S26)) : Option (Bool) := if a0_0 = a1_0 then ((laws_eqKeys.f a0_1 a0_2 a0_3 a0_4 a1_1 a1_2 a1_3 a1_4).bind fun t660 => (if t660 = true then ((laws_eqTermS.f k l0_5 l1_5).bind fun t661 => (if t661 = true then (some true) else (some false))) else (some false))) else (some false)
set_option maxHeartbeats 8000000 in
set_option maxRecDepth 100000 in
theorem laws_eqKeysResult.calls (k : Nat) (a0_0 : Int) (a0_1 : Int) (a0_2 : Int) (a0_3 : Int) (a0_4 : Int) (A0_5 : Option Addr) (c0_5 : Nat) (l0_5 : List (S26)) (a1_0 : Int) (a1_1 : Int) (a1_2 : Int) (a1_3 : Int) (a1_4 : Int) (A1_5 : Option Addr) (c1_5 : Nat) (l1_5 : List (S26)) (r : Bool) (w : World) (hr0_5 : Kd.C k26 w A0_5 l0_5.length l0_5) (hc0_5 : l0_5.length ≤ c0_5) (hr1_5 : Kd.C k26 w A1_5 l1_5.length l1_5) (hc1_5 : l1_5.length ≤ c1_5) (h : laws_eqKeysResult.f k a0_0 a0_1 a0_2 a0_3 a0_4 l0_5 a1_0 a1_1 a1_2 a1_3 a1_4 l1_5 = some r) :
  Calls Try.prog 42 #[.agg #[.int .i64 a0_0, .int .i64 a0_1, .int .i64 a0_2, .int .i64 a0_3, .int .i64 a0_4, .slice A0_5 l0_5.length c0_5], .agg #[.int .i64 a1_0, .int .i64 a1_1, .int .i64 a1_2, .int .i64 a1_3, .int .i64 a1_4, .slice A1_5 l1_5.length c1_5]] w fun e w' => e = .returned (.bool r) ∧ Below w.heap.size w w' := by
 have hu64 := Try.underlying64
 have hu62 := Try.underlying62
 have HR0_5 := Aside0.mk hr0_5
 have HC0_5 := Aside0.mk hc0_5
 clear hr0_5 hc0_5
 have HR1_5 := Aside0.mk hr1_5
 have HC1_5 := Aside0.mk hc1_5
 clear hr1_5 hc1_5
 have HB := Aside0.mk (Below.refl w.heap.size w)
 have H : (if a0_0 = a1_0 then ((laws_eqKeys.f a0_1 a0_2 a0_3 a0_4 a1_1 a1_2 a1_3 a1_4).bind fun t660 => (if t660 = true then ((laws_eqTermS.f k l0_5 l1_5).bind fun t661 => (if t661 = true then (some true) else (some false))) else (some false))) else (some false)) = some r := h
 clear h
 by_cases c3 : a0_0 = a1_0
 ·rw [if_pos c3] at H
  have c3b0 : (a0_0 == a1_0) = true := beq_iff_eq.mpr c3
  have c3b1 : (a0_0 != a1_0) = false := bne_eq_false_iff_eq.mpr c3
  clear c3
  replace H := Option.bind_eq_some_iff.mp H
  obtain ⟨t660, A40, H⟩ := H
  try dsimp only at H
  have A4 := Aside0.mk A40
  clear A40
  by_cases c5 : t660 = true
  ·subst c5
   rw [if_pos rfl] at H
   replace H := Option.bind_eq_some_iff.mp H
   obtain ⟨t661, A60, H⟩ := H
   try dsimp only at H
   have A6 := Aside0.mk A60
   clear A60
   by_cases c7 : t661 = true
   ·subst c7
    rw [if_pos rfl] at H
    obtain rfl := Option.some.inj H
    go_enter Try.func42, Try.ntmps42
    go_wp2_with (first | ((with_reducible refine gate_dst (N := 2) rfl ?_); refine box_event ?hg (N := 2) ?hd (cs := #[.int .i64 a0_0, .int .i64 a0_1, .int .i64 a0_2, .int .i64 a0_3, .int .i64 a0_4, .slice A0_5 l0_5.length c0_5]) (t := 64) ?hr ?_; (case hd => rfl); (case hg => rfl); (case hr => first | (go_simp; done) | (go_simp; rfl)); intro gb658 hg w8 hbox hb; have n0_ := Aside0.mk (below_step (by repeat (first | (with_reducible first | exact HB.out | apply below_alloc | apply pw_below_drewN | apply below_drew1) | exact HB.out)) hb); have n1_ := Aside0.mk (hbox); have n2_ := Aside0.mk ((by rw [hg]; exact (below_size (by repeat (first | (with_reducible first | exact HB.out | apply below_alloc | apply pw_below_drewN | apply below_drew1) | exact HB.out))) : w.heap.size ≤ gb658)); have n3_ := Aside0.mk ((by rw [hg]; exact (below_size (by repeat (first | (with_reducible first | exact HB.out | apply below_alloc | apply pw_below_drewN | apply below_drew1) | exact HB.out))) : w.heap.size ≤ gb658)); clear HB; have HB := n0_; have BK658 := n1_; have GW658 := n2_; have GE658 := n3_; clear n0_ n1_ n2_ n3_; clear hb hbox hg) | ((with_reducible refine gate_dst (N := 3) rfl ?_); refine box_event ?hg (N := 3) ?hd (cs := #[.int .i64 a1_0, .int .i64 a1_1, .int .i64 a1_2, .int .i64 a1_3, .int .i64 a1_4, .slice A1_5 l1_5.length c1_5]) (t := 64) ?hr ?_; (case hd => rfl); (case hg => rfl); (case hr => first | (go_simp; done) | (go_simp; rfl)); intro gb659 hg w9 hbox hb; have n0_ := Aside0.mk (blk_below (g := gb658) (o := .cells #[.int .i64 a0_0, .int .i64 a0_1, .int .i64 a0_2, .int .i64 a0_3, .int .i64 a0_4, .slice A0_5 l0_5.length c0_5] 64 (0, 0)) (by (with_reducible repeat (first | refine blk_drewN ?_ _ | refine blk_drew ?_ | refine blk_alloc ?_ _)); exact BK658.out) hb); have n1_ := Aside0.mk (below_step (by repeat (first | (with_reducible first | exact HB.out | apply below_alloc | apply pw_below_drewN | apply below_drew1 | refine below_set ?_ GE658.out) | exact HB.out)) hb); have n2_ := Aside0.mk (hbox); have n3_ := Aside0.mk ((by rw [hg]; exact (below_size (by repeat (first | (with_reducible first | exact HB.out | apply below_alloc | apply pw_below_drewN | apply below_drew1 | refine below_set ?_ GE658.out) | exact HB.out))) : w.heap.size ≤ gb659)); have n4_ := Aside0.mk ((by rw [hg]; exact (below_size (by repeat (first | (with_reducible first | exact HB.out | apply below_alloc | apply pw_below_drewN | apply below_drew1 | refine below_set ?_ GE658.out) | exact HB.out))) : w.heap.size ≤ gb659)); have n5_ := Aside0.mk ((by rw [hg]; exact Nat.ne_of_lt (blk_lt (g := gb658) (o := .cells #[.int .i64 a0_0, .int .i64 a0_1, .int .i64 a0_2, .int .i64 a0_3, .int .i64 a0_4, .slice A0_5 l0_5.length c0_5] 64 (0, 0)) (by (with_reducible repeat (first | refine blk_drewN ?_ _ | refine blk_drew ?_ | refine blk_alloc ?_ _)); exact BK658.out)) : gb658 ≠ gb659)); have n6_ := Aside0.mk ((by rw [hg]; exact Nat.ne_of_gt (blk_lt (g := gb658) (o := .cells #[.int .i64 a0_0, .int .i64 a0_1, .int .i64 a0_2, .int .i64 a0_3, .int .i64 a0_4, .slice A0_5 l0_5.length c0_5] 64 (0, 0)) (by (with_reducible repeat (first | refine blk_drewN ?_ _ | refine blk_drew ?_ | refine blk_alloc ?_ _)); exact BK658.out)) : gb659 ≠ gb658)); clear BK658; clear HB; have BK658 := n0_; have HB := n1_; have BK659 := n2_; have GW659 := n3_; have GE659 := n4_; have NB658_659 := n5_; have NB659_658 := n6_; clear n0_ n1_ n2_ n3_ n4_ n5_ n6_; clear hb hbox hg; have hnb10 := NB658_659.out; have hnc10 := NB659_658.out; have hcz11_0 : w9.cell? ⟨gb658, 0, none⟩ = some (.int .i64 a0_0) := (blk_cell BK658.out 0).trans rfl; have hcz11_1 : w9.cell? ⟨gb658, 1, none⟩ = some (.int .i64 a0_1) := (blk_cell BK658.out 1).trans rfl; have hcz11_2 : w9.cell? ⟨gb658, 2, none⟩ = some (.int .i64 a0_2) := (blk_cell BK658.out 2).trans rfl; have hcz11_3 : w9.cell? ⟨gb658, 3, none⟩ = some (.int .i64 a0_3) := (blk_cell BK658.out 3).trans rfl; have hcz11_4 : w9.cell? ⟨gb658, 4, none⟩ = some (.int .i64 a0_4) := (blk_cell BK658.out 4).trans rfl; have hcz11_5 : w9.cell? ⟨gb658, 5, none⟩ = some (.slice A0_5 l0_5.length c0_5) := (blk_cell BK658.out 5).trans rfl; have hfz11_0 := blk_frozen BK658.out 0; have hfz11_1 := blk_frozen BK658.out 1; have hfz11_2 := blk_frozen BK658.out 2; have hfz11_3 := blk_frozen BK658.out 3; have hfz11_4 := blk_frozen BK658.out 4; have hfz11_5 := blk_frozen BK658.out 5; have hcz12_0 : w9.cell? ⟨gb659, 0, none⟩ = some (.int .i64 a1_0) := (blk_cell BK659.out 0).trans rfl; have hcz12_1 : w9.cell? ⟨gb659, 1, none⟩ = some (.int .i64 a1_1) := (blk_cell BK659.out 1).trans rfl; have hcz12_2 : w9.cell? ⟨gb659, 2, none⟩ = some (.int .i64 a1_2) := (blk_cell BK659.out 2).trans rfl; have hcz12_3 : w9.cell? ⟨gb659, 3, none⟩ = some (.int .i64 a1_3) := (blk_cell BK659.out 3).trans rfl; have hcz12_4 : w9.cell? ⟨gb659, 4, none⟩ = some (.int .i64 a1_4) := (blk_cell BK659.out 4).trans rfl; have hcz12_5 : w9.cell? ⟨gb659, 5, none⟩ = some (.slice A1_5 l1_5.length c1_5) := (blk_cell BK659.out 5).trans rfl; have hfz12_0 := blk_frozen BK659.out 0; have hfz12_1 := blk_frozen BK659.out 1; have hfz12_2 := blk_frozen BK659.out 2; have hfz12_3 := blk_frozen BK659.out 3; have hfz12_4 := blk_frozen BK659.out 4; have hfz12_5 := blk_frozen BK659.out 5) | ((with_reducible refine gate_callee (f := 81) rfl ?_); refine goesL_ (some 14) rfl rfl Try.func81 (by kernel_rfl) rfl #[.agg #[.int .i64 a0_1, .int .i64 a0_2, .int .i64 a0_3, .int .i64 a0_4], .agg #[.int .i64 a1_1, .int .i64 a1_2, .int .i64 a1_3, .int .i64 a1_4]] rfl (by (try simp only [List.map_toArray, List.map_cons, List.map_nil]); first | done | rfl | (simp only [List.length_drop, List.length_take]; rfl)) ?_; (with_reducible refine (laws_eqKeys.calls a0_1 a0_2 a0_3 a0_4 a1_1 a1_2 a1_3 a1_4 true _ A4.out).mono ?_); rintro e w13 ⟨rfl, hb⟩; refine ⟨_, rfl, ?_⟩; have n0_ := Aside0.mk (blk_below (g := gb658) (o := .cells #[.int .i64 a0_0, .int .i64 a0_1, .int .i64 a0_2, .int .i64 a0_3, .int .i64 a0_4, .slice A0_5 l0_5.length c0_5] 64 (0, 0)) (by (with_reducible repeat (first | refine blk_drewN ?_ _ | refine blk_drew ?_ | refine blk_alloc ?_ _)); exact BK658.out) hb); have n1_ := Aside0.mk (blk_below (g := gb659) (o := .cells #[.int .i64 a1_0, .int .i64 a1_1, .int .i64 a1_2, .int .i64 a1_3, .int .i64 a1_4, .slice A1_5 l1_5.length c1_5] 64 (0, 0)) (by (with_reducible repeat (first | refine blk_drewN ?_ _ | refine blk_drew ?_ | refine blk_alloc ?_ _)); exact BK659.out) hb); have n2_ := Aside0.mk (below_step (by repeat (first | (with_reducible first | exact HB.out | apply below_alloc | apply pw_below_drewN | apply below_drew1 | refine below_set ?_ GE658.out | refine below_set ?_ GE659.out) | exact HB.out)) hb); clear BK658; clear BK659; clear HB; have BK658 := n0_; have BK659 := n1_; have HB := n2_; clear n0_ n1_ n2_; (try clear hb); (try clear hb2); (try clear hk); (try clear hi); have hcz14_0 : w13.cell? ⟨gb658, 0, none⟩ = some (.int .i64 a0_0) := (blk_cell BK658.out 0).trans rfl; have hcz14_1 : w13.cell? ⟨gb658, 1, none⟩ = some (.int .i64 a0_1) := (blk_cell BK658.out 1).trans rfl; have hcz14_2 : w13.cell? ⟨gb658, 2, none⟩ = some (.int .i64 a0_2) := (blk_cell BK658.out 2).trans rfl; have hcz14_3 : w13.cell? ⟨gb658, 3, none⟩ = some (.int .i64 a0_3) := (blk_cell BK658.out 3).trans rfl; have hcz14_4 : w13.cell? ⟨gb658, 4, none⟩ = some (.int .i64 a0_4) := (blk_cell BK658.out 4).trans rfl; have hcz14_5 : w13.cell? ⟨gb658, 5, none⟩ = some (.slice A0_5 l0_5.length c0_5) := (blk_cell BK658.out 5).trans rfl; have hfz14_0 := blk_frozen BK658.out 0; have hfz14_1 := blk_frozen BK658.out 1; have hfz14_2 := blk_frozen BK658.out 2; have hfz14_3 := blk_frozen BK658.out 3; have hfz14_4 := blk_frozen BK658.out 4; have hfz14_5 := blk_frozen BK658.out 5; have hcz15_0 : w13.cell? ⟨gb659, 0, none⟩ = some (.int .i64 a1_0) := (blk_cell BK659.out 0).trans rfl; have hcz15_1 : w13.cell? ⟨gb659, 1, none⟩ = some (.int .i64 a1_1) := (blk_cell BK659.out 1).trans rfl; have hcz15_2 : w13.cell? ⟨gb659, 2, none⟩ = some (.int .i64 a1_2) := (blk_cell BK659.out 2).trans rfl; have hcz15_3 : w13.cell? ⟨gb659, 3, none⟩ = some (.int .i64 a1_3) := (blk_cell BK659.out 3).trans rfl; have hcz15_4 : w13.cell? ⟨gb659, 4, none⟩ = some (.int .i64 a1_4) := (blk_cell BK659.out 4).trans rfl; have hcz15_5 : w13.cell? ⟨gb659, 5, none⟩ = some (.slice A1_5 l1_5.length c1_5) := (blk_cell BK659.out 5).trans rfl; have hfz15_0 := blk_frozen BK659.out 0; have hfz15_1 := blk_frozen BK659.out 1; have hfz15_2 := blk_frozen BK659.out 2; have hfz15_3 := blk_frozen BK659.out 3; have hfz15_4 := blk_frozen BK659.out 4; have hfz15_5 := blk_frozen BK659.out 5) | ((with_reducible refine gate_callee (f := 27) rfl ?_); refine goesL_ (some 20) rfl rfl Try.func27 (by kernel_rfl) rfl #[.slice A0_5 l0_5.length c0_5, .slice A1_5 l1_5.length c1_5] rfl (by (try simp only [List.map_toArray, List.map_cons, List.map_nil]); first | done | rfl | (simp only [List.length_drop, List.length_take]; rfl)) ?_; (with_reducible refine (laws_eqTermS.calls k _ _ l0_5 _ _ l1_5 true _ ?side1 ?side2 ?side3 ?side4 A6.out).mono ?_); (case side1 => repeat (first | exact (Kd.C_below HR0_5.out HB.out) | (with_reducible refine Kd.C_alloc ?_ _) | (with_reducible refine Kd.C_drewN ?_ _) | (with_reducible refine Kd.C_drew ?_))); (case side2 => exact HC0_5.out); (case side3 => repeat (first | exact (Kd.C_below HR1_5.out HB.out) | (with_reducible refine Kd.C_alloc ?_ _) | (with_reducible refine Kd.C_drewN ?_ _) | (with_reducible refine Kd.C_drew ?_))); (case side4 => exact HC1_5.out); rintro e w16 ⟨rfl, hb⟩; refine ⟨_, rfl, ?_⟩; have n0_ := Aside0.mk (blk_below (g := gb658) (o := .cells #[.int .i64 a0_0, .int .i64 a0_1, .int .i64 a0_2, .int .i64 a0_3, .int .i64 a0_4, .slice A0_5 l0_5.length c0_5] 64 (0, 0)) (by (with_reducible repeat (first | refine blk_drewN ?_ _ | refine blk_drew ?_ | refine blk_alloc ?_ _)); exact BK658.out) hb); have n1_ := Aside0.mk (blk_below (g := gb659) (o := .cells #[.int .i64 a1_0, .int .i64 a1_1, .int .i64 a1_2, .int .i64 a1_3, .int .i64 a1_4, .slice A1_5 l1_5.length c1_5] 64 (0, 0)) (by (with_reducible repeat (first | refine blk_drewN ?_ _ | refine blk_drew ?_ | refine blk_alloc ?_ _)); exact BK659.out) hb); have n2_ := Aside0.mk (below_step (by repeat (first | (with_reducible first | exact HB.out | apply below_alloc | apply pw_below_drewN | apply below_drew1 | refine below_set ?_ GE658.out | refine below_set ?_ GE659.out) | exact HB.out)) hb); clear BK658; clear BK659; clear HB; have BK658 := n0_; have BK659 := n1_; have HB := n2_; clear n0_ n1_ n2_; (try clear hb); (try clear hb2); (try clear hk); (try clear hi)))
    go_ret
    exact ⟨by first | rfl | (simp [errW_none, errW_some] <;> rfl) | (simp [*, errW_none, errW_some] <;> rfl), by repeat (first | (with_reducible first | exact HB.out | apply below_alloc | apply pw_below_drewN | apply below_drew1 | refine below_set ?_ GE658.out | refine below_set ?_ GE659.out) | exact HB.out)⟩
   ·replace c7 := Bool.eq_false_iff.mpr c7
    subst c7
    rw [if_neg (show ¬ (false = true) by decide)] at H
    obtain rfl := Option.some.inj H
    go_enter Try.func42, Try.ntmps42
    go_wp2_with (first | ((with_reducible refine gate_dst (N := 2) rfl ?_); refine box_event ?hg (N := 2) ?hd (cs := #[.int .i64 a0_0, .int .i64 a0_1, .int .i64 a0_2, .int .i64 a0_3, .int .i64 a0_4, .slice A0_5 l0_5.length c0_5]) (t := 64) ?hr ?_; (case hd => rfl); (case hg => rfl); (case hr => first | (go_simp; done) | (go_simp; rfl)); intro gb658 hg w17 hbox hb; have n0_ := Aside0.mk (below_step (by repeat (first | (with_reducible first | exact HB.out | apply below_alloc | apply pw_below_drewN | apply below_drew1) | exact HB.out)) hb); have n1_ := Aside0.mk (hbox); have n2_ := Aside0.mk ((by rw [hg]; exact (below_size (by repeat (first | (with_reducible first | exact HB.out | apply below_alloc | apply pw_below_drewN | apply below_drew1) | exact HB.out))) : w.heap.size ≤ gb658)); have n3_ := Aside0.mk ((by rw [hg]; exact (below_size (by repeat (first | (with_reducible first | exact HB.out | apply below_alloc | apply pw_below_drewN | apply below_drew1) | exact HB.out))) : w.heap.size ≤ gb658)); clear HB; have HB := n0_; have BK658 := n1_; have GW658 := n2_; have GE658 := n3_; clear n0_ n1_ n2_ n3_; clear hb hbox hg) | ((with_reducible refine gate_dst (N := 3) rfl ?_); refine box_event ?hg (N := 3) ?hd (cs := #[.int .i64 a1_0, .int .i64 a1_1, .int .i64 a1_2, .int .i64 a1_3, .int .i64 a1_4, .slice A1_5 l1_5.length c1_5]) (t := 64) ?hr ?_; (case hd => rfl); (case hg => rfl); (case hr => first | (go_simp; done) | (go_simp; rfl)); intro gb659 hg w18 hbox hb; have n0_ := Aside0.mk (blk_below (g := gb658) (o := .cells #[.int .i64 a0_0, .int .i64 a0_1, .int .i64 a0_2, .int .i64 a0_3, .int .i64 a0_4, .slice A0_5 l0_5.length c0_5] 64 (0, 0)) (by (with_reducible repeat (first | refine blk_drewN ?_ _ | refine blk_drew ?_ | refine blk_alloc ?_ _)); exact BK658.out) hb); have n1_ := Aside0.mk (below_step (by repeat (first | (with_reducible first | exact HB.out | apply below_alloc | apply pw_below_drewN | apply below_drew1 | refine below_set ?_ GE658.out) | exact HB.out)) hb); have n2_ := Aside0.mk (hbox); have n3_ := Aside0.mk ((by rw [hg]; exact (below_size (by repeat (first | (with_reducible first | exact HB.out | apply below_alloc | apply pw_below_drewN | apply below_drew1 | refine below_set ?_ GE658.out) | exact HB.out))) : w.heap.size ≤ gb659)); have n4_ := Aside0.mk ((by rw [hg]; exact (below_size (by repeat (first | (with_reducible first | exact HB.out | apply below_alloc | apply pw_below_drewN | apply below_drew1 | refine below_set ?_ GE658.out) | exact HB.out))) : w.heap.size ≤ gb659)); have n5_ := Aside0.mk ((by rw [hg]; exact Nat.ne_of_lt (blk_lt (g := gb658) (o := .cells #[.int .i64 a0_0, .int .i64 a0_1, .int .i64 a0_2, .int .i64 a0_3, .int .i64 a0_4, .slice A0_5 l0_5.length c0_5] 64 (0, 0)) (by (with_reducible repeat (first | refine blk_drewN ?_ _ | refine blk_drew ?_ | refine blk_alloc ?_ _)); exact BK658.out)) : gb658 ≠ gb659)); have n6_ := Aside0.mk ((by rw [hg]; exact Nat.ne_of_gt (blk_lt (g := gb658) (o := .cells #[.int .i64 a0_0, .int .i64 a0_1, .int .i64 a0_2, .int .i64 a0_3, .int .i64 a0_4, .slice A0_5 l0_5.length c0_5] 64 (0, 0)) (by (with_reducible repeat (first | refine blk_drewN ?_ _ | refine blk_drew ?_ | refine blk_alloc ?_ _)); exact BK658.out)) : gb659 ≠ gb658)); clear BK658; clear HB; have BK658 := n0_; have HB := n1_; have BK659 := n2_; have GW659 := n3_; have GE659 := n4_; have NB658_659 := n5_; have NB659_658 := n6_; clear n0_ n1_ n2_ n3_ n4_ n5_ n6_; clear hb hbox hg; have hnb19 := NB658_659.out; have hnc19 := NB659_658.out; have hcz20_0 : w18.cell? ⟨gb658, 0, none⟩ = some (.int .i64 a0_0) := (blk_cell BK658.out 0).trans rfl; have hcz20_1 : w18.cell? ⟨gb658, 1, none⟩ = some (.int .i64 a0_1) := (blk_cell BK658.out 1).trans rfl; have hcz20_2 : w18.cell? ⟨gb658, 2, none⟩ = some (.int .i64 a0_2) := (blk_cell BK658.out 2).trans rfl; have hcz20_3 : w18.cell? ⟨gb658, 3, none⟩ = some (.int .i64 a0_3) := (blk_cell BK658.out 3).trans rfl; have hcz20_4 : w18.cell? ⟨gb658, 4, none⟩ = some (.int .i64 a0_4) := (blk_cell BK658.out 4).trans rfl; have hcz20_5 : w18.cell? ⟨gb658, 5, none⟩ = some (.slice A0_5 l0_5.length c0_5) := (blk_cell BK658.out 5).trans rfl; have hfz20_0 := blk_frozen BK658.out 0; have hfz20_1 := blk_frozen BK658.out 1; have hfz20_2 := blk_frozen BK658.out 2; have hfz20_3 := blk_frozen BK658.out 3; have hfz20_4 := blk_frozen BK658.out 4; have hfz20_5 := blk_frozen BK658.out 5; have hcz21_0 : w18.cell? ⟨gb659, 0, none⟩ = some (.int .i64 a1_0) := (blk_cell BK659.out 0).trans rfl; have hcz21_1 : w18.cell? ⟨gb659, 1, none⟩ = some (.int .i64 a1_1) := (blk_cell BK659.out 1).trans rfl; have hcz21_2 : w18.cell? ⟨gb659, 2, none⟩ = some (.int .i64 a1_2) := (blk_cell BK659.out 2).trans rfl; have hcz21_3 : w18.cell? ⟨gb659, 3, none⟩ = some (.int .i64 a1_3) := (blk_cell BK659.out 3).trans rfl; have hcz21_4 : w18.cell? ⟨gb659, 4, none⟩ = some (.int .i64 a1_4) := (blk_cell BK659.out 4).trans rfl; have hcz21_5 : w18.cell? ⟨gb659, 5, none⟩ = some (.slice A1_5 l1_5.length c1_5) := (blk_cell BK659.out 5).trans rfl; have hfz21_0 := blk_frozen BK659.out 0; have hfz21_1 := blk_frozen BK659.out 1; have hfz21_2 := blk_frozen BK659.out 2; have hfz21_3 := blk_frozen BK659.out 3; have hfz21_4 := blk_frozen BK659.out 4; have hfz21_5 := blk_frozen BK659.out 5) | ((with_reducible refine gate_callee (f := 81) rfl ?_); refine goesL_ (some 14) rfl rfl Try.func81 (by kernel_rfl) rfl #[.agg #[.int .i64 a0_1, .int .i64 a0_2, .int .i64 a0_3, .int .i64 a0_4], .agg #[.int .i64 a1_1, .int .i64 a1_2, .int .i64 a1_3, .int .i64 a1_4]] rfl (by (try simp only [List.map_toArray, List.map_cons, List.map_nil]); first | done | rfl | (simp only [List.length_drop, List.length_take]; rfl)) ?_; (with_reducible refine (laws_eqKeys.calls a0_1 a0_2 a0_3 a0_4 a1_1 a1_2 a1_3 a1_4 true _ A4.out).mono ?_); rintro e w22 ⟨rfl, hb⟩; refine ⟨_, rfl, ?_⟩; have n0_ := Aside0.mk (blk_below (g := gb658) (o := .cells #[.int .i64 a0_0, .int .i64 a0_1, .int .i64 a0_2, .int .i64 a0_3, .int .i64 a0_4, .slice A0_5 l0_5.length c0_5] 64 (0, 0)) (by (with_reducible repeat (first | refine blk_drewN ?_ _ | refine blk_drew ?_ | refine blk_alloc ?_ _)); exact BK658.out) hb); have n1_ := Aside0.mk (blk_below (g := gb659) (o := .cells #[.int .i64 a1_0, .int .i64 a1_1, .int .i64 a1_2, .int .i64 a1_3, .int .i64 a1_4, .slice A1_5 l1_5.length c1_5] 64 (0, 0)) (by (with_reducible repeat (first | refine blk_drewN ?_ _ | refine blk_drew ?_ | refine blk_alloc ?_ _)); exact BK659.out) hb); have n2_ := Aside0.mk (below_step (by repeat (first | (with_reducible first | exact HB.out | apply below_alloc | apply pw_below_drewN | apply below_drew1 | refine below_set ?_ GE658.out | refine below_set ?_ GE659.out) | exact HB.out)) hb); clear BK658; clear BK659; clear HB; have BK658 := n0_; have BK659 := n1_; have HB := n2_; clear n0_ n1_ n2_; (try clear hb); (try clear hb2); (try clear hk); (try clear hi); have hcz23_0 : w22.cell? ⟨gb658, 0, none⟩ = some (.int .i64 a0_0) := (blk_cell BK658.out 0).trans rfl; have hcz23_1 : w22.cell? ⟨gb658, 1, none⟩ = some (.int .i64 a0_1) := (blk_cell BK658.out 1).trans rfl; have hcz23_2 : w22.cell? ⟨gb658, 2, none⟩ = some (.int .i64 a0_2) := (blk_cell BK658.out 2).trans rfl; have hcz23_3 : w22.cell? ⟨gb658, 3, none⟩ = some (.int .i64 a0_3) := (blk_cell BK658.out 3).trans rfl; have hcz23_4 : w22.cell? ⟨gb658, 4, none⟩ = some (.int .i64 a0_4) := (blk_cell BK658.out 4).trans rfl; have hcz23_5 : w22.cell? ⟨gb658, 5, none⟩ = some (.slice A0_5 l0_5.length c0_5) := (blk_cell BK658.out 5).trans rfl; have hfz23_0 := blk_frozen BK658.out 0; have hfz23_1 := blk_frozen BK658.out 1; have hfz23_2 := blk_frozen BK658.out 2; have hfz23_3 := blk_frozen BK658.out 3; have hfz23_4 := blk_frozen BK658.out 4; have hfz23_5 := blk_frozen BK658.out 5; have hcz24_0 : w22.cell? ⟨gb659, 0, none⟩ = some (.int .i64 a1_0) := (blk_cell BK659.out 0).trans rfl; have hcz24_1 : w22.cell? ⟨gb659, 1, none⟩ = some (.int .i64 a1_1) := (blk_cell BK659.out 1).trans rfl; have hcz24_2 : w22.cell? ⟨gb659, 2, none⟩ = some (.int .i64 a1_2) := (blk_cell BK659.out 2).trans rfl; have hcz24_3 : w22.cell? ⟨gb659, 3, none⟩ = some (.int .i64 a1_3) := (blk_cell BK659.out 3).trans rfl; have hcz24_4 : w22.cell? ⟨gb659, 4, none⟩ = some (.int .i64 a1_4) := (blk_cell BK659.out 4).trans rfl; have hcz24_5 : w22.cell? ⟨gb659, 5, none⟩ = some (.slice A1_5 l1_5.length c1_5) := (blk_cell BK659.out 5).trans rfl; have hfz24_0 := blk_frozen BK659.out 0; have hfz24_1 := blk_frozen BK659.out 1; have hfz24_2 := blk_frozen BK659.out 2; have hfz24_3 := blk_frozen BK659.out 3; have hfz24_4 := blk_frozen BK659.out 4; have hfz24_5 := blk_frozen BK659.out 5) | ((with_reducible refine gate_callee (f := 27) rfl ?_); refine goesL_ (some 20) rfl rfl Try.func27 (by kernel_rfl) rfl #[.slice A0_5 l0_5.length c0_5, .slice A1_5 l1_5.length c1_5] rfl (by (try simp only [List.map_toArray, List.map_cons, List.map_nil]); first | done | rfl | (simp only [List.length_drop, List.length_take]; rfl)) ?_; (with_reducible refine (laws_eqTermS.calls k _ _ l0_5 _ _ l1_5 false _ ?side1 ?side2 ?side3 ?side4 A6.out).mono ?_); (case side1 => repeat (first | exact (Kd.C_below HR0_5.out HB.out) | (with_reducible refine Kd.C_alloc ?_ _) | (with_reducible refine Kd.C_drewN ?_ _) | (with_reducible refine Kd.C_drew ?_))); (case side2 => exact HC0_5.out); (case side3 => repeat (first | exact (Kd.C_below HR1_5.out HB.out) | (with_reducible refine Kd.C_alloc ?_ _) | (with_reducible refine Kd.C_drewN ?_ _) | (with_reducible refine Kd.C_drew ?_))); (case side4 => exact HC1_5.out); rintro e w25 ⟨rfl, hb⟩; refine ⟨_, rfl, ?_⟩; have n0_ := Aside0.mk (blk_below (g := gb658) (o := .cells #[.int .i64 a0_0, .int .i64 a0_1, .int .i64 a0_2, .int .i64 a0_3, .int .i64 a0_4, .slice A0_5 l0_5.length c0_5] 64 (0, 0)) (by (with_reducible repeat (first | refine blk_drewN ?_ _ | refine blk_drew ?_ | refine blk_alloc ?_ _)); exact BK658.out) hb); have n1_ := Aside0.mk (blk_below (g := gb659) (o := .cells #[.int .i64 a1_0, .int .i64 a1_1, .int .i64 a1_2, .int .i64 a1_3, .int .i64 a1_4, .slice A1_5 l1_5.length c1_5] 64 (0, 0)) (by (with_reducible repeat (first | refine blk_drewN ?_ _ | refine blk_drew ?_ | refine blk_alloc ?_ _)); exact BK659.out) hb); have n2_ := Aside0.mk (below_step (by repeat (first | (with_reducible first | exact HB.out | apply below_alloc | apply pw_below_drewN | apply below_drew1 | refine below_set ?_ GE658.out | refine below_set ?_ GE659.out) | exact HB.out)) hb); clear BK658; clear BK659; clear HB; have BK658 := n0_; have BK659 := n1_; have HB := n2_; clear n0_ n1_ n2_; (try clear hb); (try clear hb2); (try clear hk); (try clear hi)))
    go_ret
    exact ⟨by first | rfl | (simp [errW_none, errW_some] <;> rfl) | (simp [*, errW_none, errW_some] <;> rfl), by repeat (first | (with_reducible first | exact HB.out | apply below_alloc | apply pw_below_drewN | apply below_drew1 | refine below_set ?_ GE658.out | refine below_set ?_ GE659.out) | exact HB.out)⟩
  ·replace c5 := Bool.eq_false_iff.mpr c5
   subst c5
   rw [if_neg (show ¬ (false = true) by decide)] at H
   obtain rfl := Option.some.inj H
   go_enter Try.func42, Try.ntmps42
   go_wp2_with (first | ((with_reducible refine gate_dst (N := 2) rfl ?_); refine box_event ?hg (N := 2) ?hd (cs := #[.int .i64 a0_0, .int .i64 a0_1, .int .i64 a0_2, .int .i64 a0_3, .int .i64 a0_4, .slice A0_5 l0_5.length c0_5]) (t := 64) ?hr ?_; (case hd => rfl); (case hg => rfl); (case hr => first | (go_simp; done) | (go_simp; rfl)); intro gb658 hg w26 hbox hb; have n0_ := Aside0.mk (below_step (by repeat (first | (with_reducible first | exact HB.out | apply below_alloc | apply pw_below_drewN | apply below_drew1) | exact HB.out)) hb); have n1_ := Aside0.mk (hbox); have n2_ := Aside0.mk ((by rw [hg]; exact (below_size (by repeat (first | (with_reducible first | exact HB.out | apply below_alloc | apply pw_below_drewN | apply below_drew1) | exact HB.out))) : w.heap.size ≤ gb658)); have n3_ := Aside0.mk ((by rw [hg]; exact (below_size (by repeat (first | (with_reducible first | exact HB.out | apply below_alloc | apply pw_below_drewN | apply below_drew1) | exact HB.out))) : w.heap.size ≤ gb658)); clear HB; have HB := n0_; have BK658 := n1_; have GW658 := n2_; have GE658 := n3_; clear n0_ n1_ n2_ n3_; clear hb hbox hg) | ((with_reducible refine gate_dst (N := 3) rfl ?_); refine box_event ?hg (N := 3) ?hd (cs := #[.int .i64 a1_0, .int .i64 a1_1, .int .i64 a1_2, .int .i64 a1_3, .int .i64 a1_4, .slice A1_5 l1_5.length c1_5]) (t := 64) ?hr ?_; (case hd => rfl); (case hg => rfl); (case hr => first | (go_simp; done) | (go_simp; rfl)); intro gb659 hg w27 hbox hb; have n0_ := Aside0.mk (blk_below (g := gb658) (o := .cells #[.int .i64 a0_0, .int .i64 a0_1, .int .i64 a0_2, .int .i64 a0_3, .int .i64 a0_4, .slice A0_5 l0_5.length c0_5] 64 (0, 0)) (by (with_reducible repeat (first | refine blk_drewN ?_ _ | refine blk_drew ?_ | refine blk_alloc ?_ _)); exact BK658.out) hb); have n1_ := Aside0.mk (below_step (by repeat (first | (with_reducible first | exact HB.out | apply below_alloc | apply pw_below_drewN | apply below_drew1 | refine below_set ?_ GE658.out) | exact HB.out)) hb); have n2_ := Aside0.mk (hbox); have n3_ := Aside0.mk ((by rw [hg]; exact (below_size (by repeat (first | (with_reducible first | exact HB.out | apply below_alloc | apply pw_below_drewN | apply below_drew1 | refine below_set ?_ GE658.out) | exact HB.out))) : w.heap.size ≤ gb659)); have n4_ := Aside0.mk ((by rw [hg]; exact (below_size (by repeat (first | (with_reducible first | exact HB.out | apply below_alloc | apply pw_below_drewN | apply below_drew1 | refine below_set ?_ GE658.out) | exact HB.out))) : w.heap.size ≤ gb659)); have n5_ := Aside0.mk ((by rw [hg]; exact Nat.ne_of_lt (blk_lt (g := gb658) (o := .cells #[.int .i64 a0_0, .int .i64 a0_1, .int .i64 a0_2, .int .i64 a0_3, .int .i64 a0_4, .slice A0_5 l0_5.length c0_5] 64 (0, 0)) (by (with_reducible repeat (first | refine blk_drewN ?_ _ | refine blk_drew ?_ | refine blk_alloc ?_ _)); exact BK658.out)) : gb658 ≠ gb659)); have n6_ := Aside0.mk ((by rw [hg]; exact Nat.ne_of_gt (blk_lt (g := gb658) (o := .cells #[.int .i64 a0_0, .int .i64 a0_1, .int .i64 a0_2, .int .i64 a0_3, .int .i64 a0_4, .slice A0_5 l0_5.length c0_5] 64 (0, 0)) (by (with_reducible repeat (first | refine blk_drewN ?_ _ | refine blk_drew ?_ | refine blk_alloc ?_ _)); exact BK658.out)) : gb659 ≠ gb658)); clear BK658; clear HB; have BK658 := n0_; have HB := n1_; have BK659 := n2_; have GW659 := n3_; have GE659 := n4_; have NB658_659 := n5_; have NB659_658 := n6_; clear n0_ n1_ n2_ n3_ n4_ n5_ n6_; clear hb hbox hg; have hnb28 := NB658_659.out; have hnc28 := NB659_658.out; have hcz29_0 : w27.cell? ⟨gb658, 0, none⟩ = some (.int .i64 a0_0) := (blk_cell BK658.out 0).trans rfl; have hcz29_1 : w27.cell? ⟨gb658, 1, none⟩ = some (.int .i64 a0_1) := (blk_cell BK658.out 1).trans rfl; have hcz29_2 : w27.cell? ⟨gb658, 2, none⟩ = some (.int .i64 a0_2) := (blk_cell BK658.out 2).trans rfl; have hcz29_3 : w27.cell? ⟨gb658, 3, none⟩ = some (.int .i64 a0_3) := (blk_cell BK658.out 3).trans rfl; have hcz29_4 : w27.cell? ⟨gb658, 4, none⟩ = some (.int .i64 a0_4) := (blk_cell BK658.out 4).trans rfl; have hcz29_5 : w27.cell? ⟨gb658, 5, none⟩ = some (.slice A0_5 l0_5.length c0_5) := (blk_cell BK658.out 5).trans rfl; have hfz29_0 := blk_frozen BK658.out 0; have hfz29_1 := blk_frozen BK658.out 1; have hfz29_2 := blk_frozen BK658.out 2; have hfz29_3 := blk_frozen BK658.out 3; have hfz29_4 := blk_frozen BK658.out 4; have hfz29_5 := blk_frozen BK658.out 5; have hcz30_0 : w27.cell? ⟨gb659, 0, none⟩ = some (.int .i64 a1_0) := (blk_cell BK659.out 0).trans rfl; have hcz30_1 : w27.cell? ⟨gb659, 1, none⟩ = some (.int .i64 a1_1) := (blk_cell BK659.out 1).trans rfl; have hcz30_2 : w27.cell? ⟨gb659, 2, none⟩ = some (.int .i64 a1_2) := (blk_cell BK659.out 2).trans rfl; have hcz30_3 : w27.cell? ⟨gb659, 3, none⟩ = some (.int .i64 a1_3) := (blk_cell BK659.out 3).trans rfl; have hcz30_4 : w27.cell? ⟨gb659, 4, none⟩ = some (.int .i64 a1_4) := (blk_cell BK659.out 4).trans rfl; have hcz30_5 : w27.cell? ⟨gb659, 5, none⟩ = some (.slice A1_5 l1_5.length c1_5) := (blk_cell BK659.out 5).trans rfl; have hfz30_0 := blk_frozen BK659.out 0; have hfz30_1 := blk_frozen BK659.out 1; have hfz30_2 := blk_frozen BK659.out 2; have hfz30_3 := blk_frozen BK659.out 3; have hfz30_4 := blk_frozen BK659.out 4; have hfz30_5 := blk_frozen BK659.out 5) | ((with_reducible refine gate_callee (f := 81) rfl ?_); refine goesL_ (some 14) rfl rfl Try.func81 (by kernel_rfl) rfl #[.agg #[.int .i64 a0_1, .int .i64 a0_2, .int .i64 a0_3, .int .i64 a0_4], .agg #[.int .i64 a1_1, .int .i64 a1_2, .int .i64 a1_3, .int .i64 a1_4]] rfl (by (try simp only [List.map_toArray, List.map_cons, List.map_nil]); first | done | rfl | (simp only [List.length_drop, List.length_take]; rfl)) ?_; (with_reducible refine (laws_eqKeys.calls a0_1 a0_2 a0_3 a0_4 a1_1 a1_2 a1_3 a1_4 false _ A4.out).mono ?_); rintro e w31 ⟨rfl, hb⟩; refine ⟨_, rfl, ?_⟩; have n0_ := Aside0.mk (blk_below (g := gb658) (o := .cells #[.int .i64 a0_0, .int .i64 a0_1, .int .i64 a0_2, .int .i64 a0_3, .int .i64 a0_4, .slice A0_5 l0_5.length c0_5] 64 (0, 0)) (by (with_reducible repeat (first | refine blk_drewN ?_ _ | refine blk_drew ?_ | refine blk_alloc ?_ _)); exact BK658.out) hb); have n1_ := Aside0.mk (blk_below (g := gb659) (o := .cells #[.int .i64 a1_0, .int .i64 a1_1, .int .i64 a1_2, .int .i64 a1_3, .int .i64 a1_4, .slice A1_5 l1_5.length c1_5] 64 (0, 0)) (by (with_reducible repeat (first | refine blk_drewN ?_ _ | refine blk_drew ?_ | refine blk_alloc ?_ _)); exact BK659.out) hb); have n2_ := Aside0.mk (below_step (by repeat (first | (with_reducible first | exact HB.out | apply below_alloc | apply pw_below_drewN | apply below_drew1 | refine below_set ?_ GE658.out | refine below_set ?_ GE659.out) | exact HB.out)) hb); clear BK658; clear BK659; clear HB; have BK658 := n0_; have BK659 := n1_; have HB := n2_; clear n0_ n1_ n2_; (try clear hb); (try clear hb2); (try clear hk); (try clear hi)))
   go_ret
   exact ⟨by first | rfl | (simp [errW_none, errW_some] <;> rfl) | (simp [*, errW_none, errW_some] <;> rfl), by repeat (first | (with_reducible first | exact HB.out | apply below_alloc | apply pw_below_drewN | apply below_drew1 | refine below_set ?_ GE658.out | refine below_set ?_ GE659.out) | exact HB.out)⟩
 ·rw [if_neg c3] at H
  have c3b0 : (a0_0 == a1_0) = false := beq_eq_false_iff_ne.mpr c3
  have c3b1 : (a0_0 != a1_0) = true := bne_iff_ne.mpr c3
  obtain rfl := Option.some.inj H
  go_enter Try.func42, Try.ntmps42
  go_wp2_with (first | ((with_reducible refine gate_dst (N := 2) rfl ?_); refine box_event ?hg (N := 2) ?hd (cs := #[.int .i64 a0_0, .int .i64 a0_1, .int .i64 a0_2, .int .i64 a0_3, .int .i64 a0_4, .slice A0_5 l0_5.length c0_5]) (t := 64) ?hr ?_; (case hd => rfl); (case hg => rfl); (case hr => first | (go_simp; done) | (go_simp; rfl)); intro gb658 hg w32 hbox hb; have n0_ := Aside0.mk (below_step (by repeat (first | (with_reducible first | exact HB.out | apply below_alloc | apply pw_below_drewN | apply below_drew1) | exact HB.out)) hb); have n1_ := Aside0.mk (hbox); have n2_ := Aside0.mk ((by rw [hg]; exact (below_size (by repeat (first | (with_reducible first | exact HB.out | apply below_alloc | apply pw_below_drewN | apply below_drew1) | exact HB.out))) : w.heap.size ≤ gb658)); have n3_ := Aside0.mk ((by rw [hg]; exact (below_size (by repeat (first | (with_reducible first | exact HB.out | apply below_alloc | apply pw_below_drewN | apply below_drew1) | exact HB.out))) : w.heap.size ≤ gb658)); clear HB; have HB := n0_; have BK658 := n1_; have GW658 := n2_; have GE658 := n3_; clear n0_ n1_ n2_ n3_; clear hb hbox hg) | ((with_reducible refine gate_dst (N := 3) rfl ?_); refine box_event ?hg (N := 3) ?hd (cs := #[.int .i64 a1_0, .int .i64 a1_1, .int .i64 a1_2, .int .i64 a1_3, .int .i64 a1_4, .slice A1_5 l1_5.length c1_5]) (t := 64) ?hr ?_; (case hd => rfl); (case hg => rfl); (case hr => first | (go_simp; done) | (go_simp; rfl)); intro gb659 hg w33 hbox hb; have n0_ := Aside0.mk (blk_below (g := gb658) (o := .cells #[.int .i64 a0_0, .int .i64 a0_1, .int .i64 a0_2, .int .i64 a0_3, .int .i64 a0_4, .slice A0_5 l0_5.length c0_5] 64 (0, 0)) (by (with_reducible repeat (first | refine blk_drewN ?_ _ | refine blk_drew ?_ | refine blk_alloc ?_ _)); exact BK658.out) hb); have n1_ := Aside0.mk (below_step (by repeat (first | (with_reducible first | exact HB.out | apply below_alloc | apply pw_below_drewN | apply below_drew1 | refine below_set ?_ GE658.out) | exact HB.out)) hb); have n2_ := Aside0.mk (hbox); have n3_ := Aside0.mk ((by rw [hg]; exact (below_size (by repeat (first | (with_reducible first | exact HB.out | apply below_alloc | apply pw_below_drewN | apply below_drew1 | refine below_set ?_ GE658.out) | exact HB.out))) : w.heap.size ≤ gb659)); have n4_ := Aside0.mk ((by rw [hg]; exact (below_size (by repeat (first | (with_reducible first | exact HB.out | apply below_alloc | apply pw_below_drewN | apply below_drew1 | refine below_set ?_ GE658.out) | exact HB.out))) : w.heap.size ≤ gb659)); have n5_ := Aside0.mk ((by rw [hg]; exact Nat.ne_of_lt (blk_lt (g := gb658) (o := .cells #[.int .i64 a0_0, .int .i64 a0_1, .int .i64 a0_2, .int .i64 a0_3, .int .i64 a0_4, .slice A0_5 l0_5.length c0_5] 64 (0, 0)) (by (with_reducible repeat (first | refine blk_drewN ?_ _ | refine blk_drew ?_ | refine blk_alloc ?_ _)); exact BK658.out)) : gb658 ≠ gb659)); have n6_ := Aside0.mk ((by rw [hg]; exact Nat.ne_of_gt (blk_lt (g := gb658) (o := .cells #[.int .i64 a0_0, .int .i64 a0_1, .int .i64 a0_2, .int .i64 a0_3, .int .i64 a0_4, .slice A0_5 l0_5.length c0_5] 64 (0, 0)) (by (with_reducible repeat (first | refine blk_drewN ?_ _ | refine blk_drew ?_ | refine blk_alloc ?_ _)); exact BK658.out)) : gb659 ≠ gb658)); clear BK658; clear HB; have BK658 := n0_; have HB := n1_; have BK659 := n2_; have GW659 := n3_; have GE659 := n4_; have NB658_659 := n5_; have NB659_658 := n6_; clear n0_ n1_ n2_ n3_ n4_ n5_ n6_; clear hb hbox hg; have hnb34 := NB658_659.out; have hnc34 := NB659_658.out; have hcz35_0 : w33.cell? ⟨gb658, 0, none⟩ = some (.int .i64 a0_0) := (blk_cell BK658.out 0).trans rfl; have hcz35_1 : w33.cell? ⟨gb658, 1, none⟩ = some (.int .i64 a0_1) := (blk_cell BK658.out 1).trans rfl; have hcz35_2 : w33.cell? ⟨gb658, 2, none⟩ = some (.int .i64 a0_2) := (blk_cell BK658.out 2).trans rfl; have hcz35_3 : w33.cell? ⟨gb658, 3, none⟩ = some (.int .i64 a0_3) := (blk_cell BK658.out 3).trans rfl; have hcz35_4 : w33.cell? ⟨gb658, 4, none⟩ = some (.int .i64 a0_4) := (blk_cell BK658.out 4).trans rfl; have hcz35_5 : w33.cell? ⟨gb658, 5, none⟩ = some (.slice A0_5 l0_5.length c0_5) := (blk_cell BK658.out 5).trans rfl; have hfz35_0 := blk_frozen BK658.out 0; have hfz35_1 := blk_frozen BK658.out 1; have hfz35_2 := blk_frozen BK658.out 2; have hfz35_3 := blk_frozen BK658.out 3; have hfz35_4 := blk_frozen BK658.out 4; have hfz35_5 := blk_frozen BK658.out 5; have hcz36_0 : w33.cell? ⟨gb659, 0, none⟩ = some (.int .i64 a1_0) := (blk_cell BK659.out 0).trans rfl; have hcz36_1 : w33.cell? ⟨gb659, 1, none⟩ = some (.int .i64 a1_1) := (blk_cell BK659.out 1).trans rfl; have hcz36_2 : w33.cell? ⟨gb659, 2, none⟩ = some (.int .i64 a1_2) := (blk_cell BK659.out 2).trans rfl; have hcz36_3 : w33.cell? ⟨gb659, 3, none⟩ = some (.int .i64 a1_3) := (blk_cell BK659.out 3).trans rfl; have hcz36_4 : w33.cell? ⟨gb659, 4, none⟩ = some (.int .i64 a1_4) := (blk_cell BK659.out 4).trans rfl; have hcz36_5 : w33.cell? ⟨gb659, 5, none⟩ = some (.slice A1_5 l1_5.length c1_5) := (blk_cell BK659.out 5).trans rfl; have hfz36_0 := blk_frozen BK659.out 0; have hfz36_1 := blk_frozen BK659.out 1; have hfz36_2 := blk_frozen BK659.out 2; have hfz36_3 := blk_frozen BK659.out 3; have hfz36_4 := blk_frozen BK659.out 4; have hfz36_5 := blk_frozen BK659.out 5))
  go_ret
  exact ⟨by first | rfl | (simp [errW_none, errW_some] <;> rfl) | (simp [*, errW_none, errW_some] <;> rfl), by repeat (first | (with_reducible first | exact HB.out | apply below_alloc | apply pw_below_drewN | apply below_drew1 | refine below_set ?_ GE658.out | refine below_set ?_ GE659.out) | exact HB.out)⟩
end Go.Proofs.Ytomaeijhljpgdaa.G
namespace Go.Proofs.Ytomaeijhljpgdaa.G
open Go.RowKit Go.Proofs.YtomaeijhljpgdaaW.PrintWords Go.Proofs.YtomaeijhljpgdaaW.PrintLast Go.Proofs.YtomaeijhljpgdaaW.PrintMore
attribute [local go_sem] max2_int min2_int max_two min_two max_three min_three max_four min_four   -- for this text's walks alone
set_option linter.unusedVariables false
set_option linter.unusedSimpArgs false
def laws_markKeysResult.f (k : Nat) (a0_0 : Int) (a0_1 : Int) (a0_2 : Int) (a0_3 : Int) (a0_4 : Int) (l0_5 : List (S26)) (a1 : Int) : Option (Int × (List (S26))) := (laws_markTermS.f k l0_5 a1).bind fun bt663 => (some (bt663.1, bt663.2))
set_option maxHeartbeats 8000000 in
set_option maxRecDepth 100000 in
theorem laws_markKeysResult.calls (k : Nat) (a0_0 : Int) (a0_1 : Int) (a0_2 : Int) (a0_3 : Int) (a0_4 : Int) (P0_5_ : Nat → Prop) (u9000_ : Value) (l0_5 : List (S26)) (a1 : Int) (r1 : Int) (r2 : List (S26)) (w0 w : World) (hB : Below w0.heap.size w0 w) (ho0_5 : Kd.R k26 26 w w0.heap.size P0_5_ u9000_ l0_5) (h : laws_markKeysResult.f k a0_0 a0_1 a0_2 a0_3 a0_4 l0_5 a1 = some (r1, r2)) :
  Calls Try.prog 43 #[.agg #[.int .i64 a0_0, .int .i64 a0_1, .int .i64 a0_2, .int .i64 a0_3, .int .i64 a0_4, u9000_], .int .i64 a1] w fun e w' => e = .returned (.int .i64 r1) ∧ Kd.R k26 26 w' w0.heap.size (fun k_ => (P0_5_ k_ ∨ w.heap.size ≤ k_)) u9000_ r2 ∧ Below w0.heap.size w0 w' ∧ Kept w w' (fun k_ => P0_5_ k_) := by
 have hu64 := Try.underlying64
 have HO0_5 := Aside0.mk (show Kd.R k26 26 w w0.heap.size (fun k_ => (P0_5_ k_ ∨ w.heap.size ≤ k_)) u9000_ l0_5 from Kd.R_mono ho0_5 (fun k_ hk => (.inl hk)))
 have HK := Aside0.mk (Kept.refl w (fun k_ => P0_5_ k_))
 have HW0 := Aside0.mk hB.size
 have HB := Aside0.mk hB
 clear hB
 have H : ((laws_markTermS.f k l0_5 a1).bind fun bt663 => (some (bt663.1, bt663.2))) = some (r1, r2) := h
 clear h
 replace H := Option.bind_eq_some_iff.mp H
 obtain ⟨⟨t663, t664⟩, A30, H⟩ := H
 try dsimp only at H
 have A3 := Aside0.mk A30
 clear A30
 simp only [Option.some.injEq, Prod.mk.injEq] at H
 obtain ⟨rfl, rfl⟩ := H
 obtain ⟨Ao4, co4, eo4⟩ := Kd.R_slice HO0_5.out
 subst eo4
 go_enter Try.func43, Try.ntmps43
 go_wp2_with (first | ((with_reducible refine gate_dst (N := 2) rfl ?_); refine box_event ?hg (N := 2) ?hd (cs := #[.int .i64 a0_0, .int .i64 a0_1, .int .i64 a0_2, .int .i64 a0_3, .int .i64 a0_4, .slice Ao4 l0_5.length co4]) (t := 64) ?hr ?_; (case hd => rfl); (case hg => rfl); (case hr => first | (go_simp; done) | (go_simp; rfl)); intro gb662 hg w5 hbox hb; have n0_ := Aside0.mk (Kd.R_below (by (with_reducible repeat (first | apply Kd.R_alloc | apply Kd.R_drewN | apply Kd.R_drew)); exact HO0_5.out) hb); have n1_ := Aside0.mk (Kept.below (S := (fun k_ => P0_5_ k_)) (by repeat (first | (with_reducible first | exact HK.out | apply Kept.alloc | apply Kept.drewN | apply Kept.drew) | exact HK.out)) hb); have n2_ := Aside0.mk (below_step (by repeat (first | (with_reducible first | exact HB.out | apply below_alloc | apply pw_below_drewN | apply below_drew1) | exact HB.out)) hb); have n3_ := Aside0.mk (hbox); have n4_ := Aside0.mk ((by rw [hg]; exact (by first | exact HK.out.1 | exact (show Kept w _ (fun k_ => P0_5_ k_) from by repeat (first | (with_reducible first | exact HK.out | apply Kept.alloc | apply Kept.drewN | apply Kept.drew) | exact HK.out)).1) : w.heap.size ≤ gb662)); have n5_ := Aside0.mk ((by rw [hg]; exact (below_size (by repeat (first | (with_reducible first | exact HB.out | apply below_alloc | apply pw_below_drewN | apply below_drew1) | exact HB.out))) : w0.heap.size ≤ gb662)); clear HO0_5; clear HK; clear HB; have HO0_5 := n0_; have HK := n1_; have HB := n2_; have BK662 := n3_; have GW662 := n4_; have GE662 := n5_; clear n0_ n1_ n2_ n3_ n4_ n5_; clear hb hbox hg; have hcz6_0 : w5.cell? ⟨gb662, 0, none⟩ = some (.int .i64 a0_0) := (blk_cell BK662.out 0).trans rfl; have hcz6_1 : w5.cell? ⟨gb662, 1, none⟩ = some (.int .i64 a0_1) := (blk_cell BK662.out 1).trans rfl; have hcz6_2 : w5.cell? ⟨gb662, 2, none⟩ = some (.int .i64 a0_2) := (blk_cell BK662.out 2).trans rfl; have hcz6_3 : w5.cell? ⟨gb662, 3, none⟩ = some (.int .i64 a0_3) := (blk_cell BK662.out 3).trans rfl; have hcz6_4 : w5.cell? ⟨gb662, 4, none⟩ = some (.int .i64 a0_4) := (blk_cell BK662.out 4).trans rfl; have hcz6_5 : w5.cell? ⟨gb662, 5, none⟩ = some (.slice Ao4 l0_5.length co4) := (blk_cell BK662.out 5).trans rfl; have hfz6_0 := blk_frozen BK662.out 0; have hfz6_1 := blk_frozen BK662.out 1; have hfz6_2 := blk_frozen BK662.out 2; have hfz6_3 := blk_frozen BK662.out 3; have hfz6_4 := blk_frozen BK662.out 4; have hfz6_5 := blk_frozen BK662.out 5) | ((with_reducible refine gate_callee (f := 29) rfl ?_); refine goesL_ (some 8) rfl rfl Try.func29 (by kernel_rfl) rfl #[.slice Ao4 l0_5.length co4, .int .i64 a1] rfl (by (try simp only [List.map_toArray, List.map_cons, List.map_nil]); first | done | rfl | (simp only [List.length_drop, List.length_take]; rfl)) ?_; (with_reducible refine (laws_markTermS.calls k (fun k_ => some k_ = (.slice Ao4 l0_5.length co4 : Value).ownBlock) (.slice Ao4 l0_5.length co4) l0_5 a1 t663 t664 w0 _ ?side1 ?side2 A3.out).mono ?_); (case side1 => repeat (first | (with_reducible first | exact HB.out | apply below_alloc | apply pw_below_drewN | apply below_drew1 | refine below_set ?_ GE662.out) | exact HB.out)); (case side2 => exact Kd.R_tight rfl HO0_5.out); rintro e w7 ⟨rfl, hy0, hb, hkp⟩; refine ⟨_, rfl, ?_⟩; have n0_ := Aside0.mk (Kd.R_reok rfl hy0 (fun k_ e_ => HO0_5.out.1 k_ e_)); have n1_ := Aside0.mk (blk_kept (by (with_reducible repeat (first | refine blk_drewN ?_ _ | refine blk_drew ?_ | refine blk_alloc ?_ _)); exact BK662.out) hkp (fun hs_ => (fun e_ => (Kd.R_ne HO0_5.out BK662.out (by decide)) e_) hs_)); have n2_ := Aside0.mk (Kept.then_ (S := (fun k_ => P0_5_ k_)) (by repeat (first | (with_reducible first | exact HK.out | apply Kept.alloc | apply Kept.drewN | apply Kept.drew | refine Kept.setCell ?_ (.inr GW662.out) _) | exact HK.out)) hkp (fun k_ hs_ => (fun e_ => (HO0_5.out.1 k_ e_.symm)) hs_)); have n3_ := Aside0.mk (hb); clear HO0_5; clear BK662; clear HK; clear HB; have HO0_5 := n0_; have BK662 := n1_; have HK := n2_; have HB := n3_; clear n0_ n1_ n2_ n3_; (try clear hb); (try clear hkp); (try clear hy0)))
 go_ret
 exact ⟨by first | rfl | (simp [errW_none, errW_some] <;> rfl) | (simp [*, errW_none, errW_some] <;> rfl), by (with_reducible repeat (first | apply Kd.R_alloc | apply Kd.R_drewN | apply Kd.R_drew)); exact HO0_5.out, by repeat (first | (with_reducible first | exact HB.out | apply below_alloc | apply pw_below_drewN | apply below_drew1 | refine below_set ?_ GE662.out) | exact HB.out), by repeat (first | (with_reducible first | exact HK.out | apply Kept.alloc | apply Kept.drewN | apply Kept.drew | refine Kept.setCell ?_ (.inr GW662.out) _) | exact HK.out)⟩
end Go.Proofs.Ytomaeijhljpgdaa.G
namespace Go.Proofs.Ytomaeijhljpgdaa.G
open Go.RowKit Go.Proofs.YtomaeijhljpgdaaW.PrintWords Go.Proofs.YtomaeijhljpgdaaW.PrintLast Go.Proofs.YtomaeijhljpgdaaW.PrintMore
attribute [local go_sem] max2_int min2_int max_two min_two max_three min_three max_four min_four   -- for this text's walks alone
set_option linter.unusedVariables false
set_option linter.unusedSimpArgs false
def laws_heldTermS.l0 : Nat → List (S26) → Int → Int → Option (Int)
 | 0, _, _, _ => none
 | k + 1, x0, x1, x5 => if x5 < (x0.length : Int) then (if 0 ≤ x5 then (if ((rd_T26 x0 x5).f0) = x1 then (if ((rd_T26 x0 x5).f1) = (wrap64 (x1 + 1)) then (if ((rd_T26 x0 x5).f2) = (wrap64 ((wrap64 (x1 + 1)) + 1)) then (if ((rd_T26 x0 x5).f3) = (wrap64 ((wrap64 ((wrap64 (x1 + 1)) + 1)) + 1)) then (laws_heldTermS.l0 k x0 (wrap64 ((wrap64 ((wrap64 ((wrap64 (x1 + 1)) + 1)) + 1)) + 1)) (wrap64 (x5 + 1))) else (some (-1))) else (some (-1))) else (some (-1))) else (some (-1))) else (none)) else (some x1)
def laws_heldTermS.f (k : Nat) (l0 : List (S26)) (a1 : Int) : Option (Int) := laws_heldTermS.l0 k l0 a1 0
set_option maxHeartbeats 8000000 in
set_option maxRecDepth 100000 in
theorem laws_heldTermS.calls (k : Nat) (A0 : Option Addr) (c0 : Nat) (l0 : List (S26)) (a1 : Int) (r : Int) (w : World) (hr0 : Kd.C k26 w A0 l0.length l0) (hc0 : l0.length ≤ c0) (h : laws_heldTermS.f k l0 a1 = some r) :
  Calls Try.prog 73 #[.slice A0 l0.length c0, .int .i64 a1] w fun e w' => e = .returned (.int .i64 r) ∧ Drawn0 w w' := by
 have HR0 := Aside0.mk hr0
 have HC0 := Aside0.mk hc0
 clear hr0 hc0
 have H : (laws_heldTermS.l0 k l0 a1 0) = some r := h
 clear h
 have H' := Aside0.mk H
 clear H
 go_enter Try.func73, Try.ntmps73
 go_wp2
 go_loopg [1, 5] k (fun kq v1 v5 w' => ∃ (x1_1 : Int) (x5_1 : Int), v1 = .int .i64 x1_1 ∧ v5 = .int .i64 x5_1 ∧ Aside0 (laws_heldTermS.l0 kq l0 x1_1 x5_1 = some r) ∧ Aside0 (kq ≤ k) ∧ Drawn0 w w')
 case atStart => exact ⟨(a1), (0), (by first | rfl | (simp; done) | (simp [*]; done)), (by first | rfl | (simp; done) | (simp [*]; done)), H', ⟨Nat.le_refl _⟩, by repeat (first | exact Drawn0.refl _ | apply Drawn0.step)⟩
 case round =>
  clear H'
  try clear p2
  obtain ⟨x1_1, x5_1, rfl, rfl, HA, HK1, ⟨m1, rfl⟩⟩ := hrel
  cases gk with
  | zero => exact absurd HA.out (by simp [laws_heldTermS.l0])
  | succ k1 =>
   have H := HA.out
   clear HA
   simp only [laws_heldTermS.l0] at H
   by_cases c3 : x5_1 < (l0.length : Int)
   ·rw [if_pos c3] at H
    have c3b0 : decide (x5_1 < (l0.length : Int)) = true := decide_eq_true c3
    clear c3
    by_cases c4 : 0 ≤ x5_1
    ·rw [if_pos c4] at H
     have c4b0 : decide (0 ≤ x5_1) = true := decide_eq_true c4
     clear c4
     by_cases c5 : ((rd_T26 l0 x5_1).f0) = x1_1
     ·rw [if_pos c5] at H
      have c5b0 : (((rd_T26 l0 x5_1).f0) == x1_1) = true := beq_iff_eq.mpr c5
      have c5b1 : (((rd_T26 l0 x5_1).f0) != x1_1) = false := bne_eq_false_iff_eq.mpr c5
      clear c5
      by_cases c6 : ((rd_T26 l0 x5_1).f1) = (wrap64 (x1_1 + 1))
      ·rw [if_pos c6] at H
       have c6b0 : (((rd_T26 l0 x5_1).f1) == (wrap64 (x1_1 + 1))) = true := beq_iff_eq.mpr c6
       have c6b1 : (((rd_T26 l0 x5_1).f1) != (wrap64 (x1_1 + 1))) = false := bne_eq_false_iff_eq.mpr c6
       clear c6
       by_cases c7 : ((rd_T26 l0 x5_1).f2) = (wrap64 ((wrap64 (x1_1 + 1)) + 1))
       ·rw [if_pos c7] at H
        have c7b0 : (((rd_T26 l0 x5_1).f2) == (wrap64 ((wrap64 (x1_1 + 1)) + 1))) = true := beq_iff_eq.mpr c7
        have c7b1 : (((rd_T26 l0 x5_1).f2) != (wrap64 ((wrap64 (x1_1 + 1)) + 1))) = false := bne_eq_false_iff_eq.mpr c7
        clear c7
        by_cases c8 : ((rd_T26 l0 x5_1).f3) = (wrap64 ((wrap64 ((wrap64 (x1_1 + 1)) + 1)) + 1))
        ·rw [if_pos c8] at H
         have c8b0 : (((rd_T26 l0 x5_1).f3) == (wrap64 ((wrap64 ((wrap64 (x1_1 + 1)) + 1)) + 1))) = true := beq_iff_eq.mpr c8
         have c8b1 : (((rd_T26 l0 x5_1).f3) != (wrap64 ((wrap64 ((wrap64 (x1_1 + 1)) + 1)) + 1))) = false := bne_eq_false_iff_eq.mpr c8
         clear c8
         have H' := Aside0.mk H
         clear H
         have p498 : 0 ≤ (x5_1 : Int) := of_decide_eq_true (by first | (with_reducible assumption) | assumption)
         have q498 : x5_1 < (l0.length : Int) := of_decide_eq_true (by first | (with_reducible assumption) | assumption)
         obtain ⟨ad498, e498, hx498_0, hx498_1, hx498_2, hx498_3⟩ := at_T26 HR0.out x5_1 p498 q498
         cases e498
         replace p498 := eq_true p498
         replace q498 := eq_true q498
         have p499 : 0 ≤ (x5_1 : Int) := of_decide_eq_true (by first | (with_reducible assumption) | assumption)
         have q499 : x5_1 < (l0.length : Int) := of_decide_eq_true (by first | (with_reducible assumption) | assumption)
         obtain ⟨ad499, e499, hx499_0, hx499_1, hx499_2, hx499_3⟩ := at_T26 HR0.out x5_1 p499 q499
         obtain rfl : ad498 = ad499 := (by injection e499)
         replace p499 := eq_true p499
         replace q499 := eq_true q499
         have p500 : 0 ≤ (x5_1 : Int) := of_decide_eq_true (by first | (with_reducible assumption) | assumption)
         have q500 : x5_1 < (l0.length : Int) := of_decide_eq_true (by first | (with_reducible assumption) | assumption)
         obtain ⟨ad500, e500, hx500_0, hx500_1, hx500_2, hx500_3⟩ := at_T26 HR0.out x5_1 p500 q500
         obtain rfl : ad498 = ad500 := (by injection e500)
         replace p500 := eq_true p500
         replace q500 := eq_true q500
         have p501 : 0 ≤ (x5_1 : Int) := of_decide_eq_true (by first | (with_reducible assumption) | assumption)
         have q501 : x5_1 < (l0.length : Int) := of_decide_eq_true (by first | (with_reducible assumption) | assumption)
         obtain ⟨ad501, e501, hx501_0, hx501_1, hx501_2, hx501_3⟩ := at_T26 HR0.out x5_1 p501 q501
         obtain rfl : ad498 = ad501 := (by injection e501)
         replace p501 := eq_true p501
         replace q501 := eq_true q501
         go_wp2
         go_roundg k1
         case measure => have := HK1.out; omega
         case rel => exact ⟨(wrap64 ((wrap64 ((wrap64 ((wrap64 (x1_1 + 1)) + 1)) + 1)) + 1)), (wrap64 (x5_1 + 1)), (by first | rfl | (simp; done) | (simp [*]; done)), (by first | rfl | (simp; done) | (simp [*]; done)), H', ⟨by have := HK1.out; omega⟩, by repeat (first | exact Drawn0.refl _ | apply Drawn0.step)⟩
        ·rw [if_neg c8] at H
         have c8b0 : (((rd_T26 l0 x5_1).f3) == (wrap64 ((wrap64 ((wrap64 (x1_1 + 1)) + 1)) + 1))) = false := beq_eq_false_iff_ne.mpr c8
         have c8b1 : (((rd_T26 l0 x5_1).f3) != (wrap64 ((wrap64 ((wrap64 (x1_1 + 1)) + 1)) + 1))) = true := bne_iff_ne.mpr c8
         obtain rfl := Option.some.inj H
         have p498 : 0 ≤ (x5_1 : Int) := of_decide_eq_true (by first | (with_reducible assumption) | assumption)
         have q498 : x5_1 < (l0.length : Int) := of_decide_eq_true (by first | (with_reducible assumption) | assumption)
         obtain ⟨ad498, e498, hx498_0, hx498_1, hx498_2, hx498_3⟩ := at_T26 HR0.out x5_1 p498 q498
         cases e498
         replace p498 := eq_true p498
         replace q498 := eq_true q498
         have p499 : 0 ≤ (x5_1 : Int) := of_decide_eq_true (by first | (with_reducible assumption) | assumption)
         have q499 : x5_1 < (l0.length : Int) := of_decide_eq_true (by first | (with_reducible assumption) | assumption)
         obtain ⟨ad499, e499, hx499_0, hx499_1, hx499_2, hx499_3⟩ := at_T26 HR0.out x5_1 p499 q499
         obtain rfl : ad498 = ad499 := (by injection e499)
         replace p499 := eq_true p499
         replace q499 := eq_true q499
         have p500 : 0 ≤ (x5_1 : Int) := of_decide_eq_true (by first | (with_reducible assumption) | assumption)
         have q500 : x5_1 < (l0.length : Int) := of_decide_eq_true (by first | (with_reducible assumption) | assumption)
         obtain ⟨ad500, e500, hx500_0, hx500_1, hx500_2, hx500_3⟩ := at_T26 HR0.out x5_1 p500 q500
         obtain rfl : ad498 = ad500 := (by injection e500)
         replace p500 := eq_true p500
         replace q500 := eq_true q500
         have p501 : 0 ≤ (x5_1 : Int) := of_decide_eq_true (by first | (with_reducible assumption) | assumption)
         have q501 : x5_1 < (l0.length : Int) := of_decide_eq_true (by first | (with_reducible assumption) | assumption)
         obtain ⟨ad501, e501, hx501_0, hx501_1, hx501_2, hx501_3⟩ := at_T26 HR0.out x5_1 p501 q501
         obtain rfl : ad498 = ad501 := (by injection e501)
         replace p501 := eq_true p501
         replace q501 := eq_true q501
         go_wp2
         go_ret
         exact ⟨by first | rfl | (simp; done) | (simp [*]; done), by repeat (first | exact Drawn0.refl _ | apply Drawn0.step)⟩
       ·rw [if_neg c7] at H
        have c7b0 : (((rd_T26 l0 x5_1).f2) == (wrap64 ((wrap64 (x1_1 + 1)) + 1))) = false := beq_eq_false_iff_ne.mpr c7
        have c7b1 : (((rd_T26 l0 x5_1).f2) != (wrap64 ((wrap64 (x1_1 + 1)) + 1))) = true := bne_iff_ne.mpr c7
        obtain rfl := Option.some.inj H
        have p498 : 0 ≤ (x5_1 : Int) := of_decide_eq_true (by first | (with_reducible assumption) | assumption)
        have q498 : x5_1 < (l0.length : Int) := of_decide_eq_true (by first | (with_reducible assumption) | assumption)
        obtain ⟨ad498, e498, hx498_0, hx498_1, hx498_2, hx498_3⟩ := at_T26 HR0.out x5_1 p498 q498
        cases e498
        replace p498 := eq_true p498
        replace q498 := eq_true q498
        have p499 : 0 ≤ (x5_1 : Int) := of_decide_eq_true (by first | (with_reducible assumption) | assumption)
        have q499 : x5_1 < (l0.length : Int) := of_decide_eq_true (by first | (with_reducible assumption) | assumption)
        obtain ⟨ad499, e499, hx499_0, hx499_1, hx499_2, hx499_3⟩ := at_T26 HR0.out x5_1 p499 q499
        obtain rfl : ad498 = ad499 := (by injection e499)
        replace p499 := eq_true p499
        replace q499 := eq_true q499
        have p500 : 0 ≤ (x5_1 : Int) := of_decide_eq_true (by first | (with_reducible assumption) | assumption)
        have q500 : x5_1 < (l0.length : Int) := of_decide_eq_true (by first | (with_reducible assumption) | assumption)
        obtain ⟨ad500, e500, hx500_0, hx500_1, hx500_2, hx500_3⟩ := at_T26 HR0.out x5_1 p500 q500
        obtain rfl : ad498 = ad500 := (by injection e500)
        replace p500 := eq_true p500
        replace q500 := eq_true q500
        go_wp2
        go_ret
        exact ⟨by first | rfl | (simp; done) | (simp [*]; done), by repeat (first | exact Drawn0.refl _ | apply Drawn0.step)⟩
      ·rw [if_neg c6] at H
       have c6b0 : (((rd_T26 l0 x5_1).f1) == (wrap64 (x1_1 + 1))) = false := beq_eq_false_iff_ne.mpr c6
       have c6b1 : (((rd_T26 l0 x5_1).f1) != (wrap64 (x1_1 + 1))) = true := bne_iff_ne.mpr c6
       obtain rfl := Option.some.inj H
       have p498 : 0 ≤ (x5_1 : Int) := of_decide_eq_true (by first | (with_reducible assumption) | assumption)
       have q498 : x5_1 < (l0.length : Int) := of_decide_eq_true (by first | (with_reducible assumption) | assumption)
       obtain ⟨ad498, e498, hx498_0, hx498_1, hx498_2, hx498_3⟩ := at_T26 HR0.out x5_1 p498 q498
       cases e498
       replace p498 := eq_true p498
       replace q498 := eq_true q498
       have p499 : 0 ≤ (x5_1 : Int) := of_decide_eq_true (by first | (with_reducible assumption) | assumption)
       have q499 : x5_1 < (l0.length : Int) := of_decide_eq_true (by first | (with_reducible assumption) | assumption)
       obtain ⟨ad499, e499, hx499_0, hx499_1, hx499_2, hx499_3⟩ := at_T26 HR0.out x5_1 p499 q499
       obtain rfl : ad498 = ad499 := (by injection e499)
       replace p499 := eq_true p499
       replace q499 := eq_true q499
       go_wp2
       go_ret
       exact ⟨by first | rfl | (simp; done) | (simp [*]; done), by repeat (first | exact Drawn0.refl _ | apply Drawn0.step)⟩
     ·rw [if_neg c5] at H
      have c5b0 : (((rd_T26 l0 x5_1).f0) == x1_1) = false := beq_eq_false_iff_ne.mpr c5
      have c5b1 : (((rd_T26 l0 x5_1).f0) != x1_1) = true := bne_iff_ne.mpr c5
      obtain rfl := Option.some.inj H
      have p498 : 0 ≤ (x5_1 : Int) := of_decide_eq_true (by first | (with_reducible assumption) | assumption)
      have q498 : x5_1 < (l0.length : Int) := of_decide_eq_true (by first | (with_reducible assumption) | assumption)
      obtain ⟨ad498, e498, hx498_0, hx498_1, hx498_2, hx498_3⟩ := at_T26 HR0.out x5_1 p498 q498
      cases e498
      replace p498 := eq_true p498
      replace q498 := eq_true q498
      go_wp2
      go_ret
      exact ⟨by first | rfl | (simp; done) | (simp [*]; done), by repeat (first | exact Drawn0.refl _ | apply Drawn0.step)⟩
    ·rw [if_neg c4] at H
     exact absurd H (by simp)
   ·rw [if_neg c3] at H
    have c3b0 : decide (x5_1 < (l0.length : Int)) = false := decide_eq_false c3
    clear c3
    obtain rfl := Option.some.inj H
    go_wp2
    go_ret
    exact ⟨by first | rfl | (simp; done) | (simp [*]; done), by repeat (first | exact Drawn0.refl _ | apply Drawn0.step)⟩
end Go.Proofs.Ytomaeijhljpgdaa.G
namespace Go.Proofs.Ytomaeijhljpgdaa.G
open Go.RowKit Go.Proofs.YtomaeijhljpgdaaW.PrintWords Go.Proofs.YtomaeijhljpgdaaW.PrintLast Go.Proofs.YtomaeijhljpgdaaW.PrintMore
attribute [local go_sem] max2_int min2_int max_two min_two max_three min_three max_four min_four   -- for this text's walks alone
set_option linter.unusedVariables false
set_option linter.unusedSimpArgs false
def laws_heldKeysResult.f (k : Nat) (a0_0 : Int) (a0_1 : Int) (a0_2 : Int) (a0_3 : Int) (a0_4 : Int) (l0_5 : List (S26)) (a1 : Int) : Option (Int) := (laws_heldTermS.f k l0_5 a1).bind fun t666 => (if t666 < 0 then (some (-1)) else (some t666))
set_option maxHeartbeats 8000000 in
set_option maxRecDepth 100000 in
theorem laws_heldKeysResult.calls (k : Nat) (a0_0 : Int) (a0_1 : Int) (a0_2 : Int) (a0_3 : Int) (a0_4 : Int) (A0_5 : Option Addr) (c0_5 : Nat) (l0_5 : List (S26)) (a1 : Int) (r : Int) (w : World) (hr0_5 : Kd.C k26 w A0_5 l0_5.length l0_5) (hc0_5 : l0_5.length ≤ c0_5) (h : laws_heldKeysResult.f k a0_0 a0_1 a0_2 a0_3 a0_4 l0_5 a1 = some r) :
  Calls Try.prog 44 #[.agg #[.int .i64 a0_0, .int .i64 a0_1, .int .i64 a0_2, .int .i64 a0_3, .int .i64 a0_4, .slice A0_5 l0_5.length c0_5], .int .i64 a1] w fun e w' => e = .returned (.int .i64 r) ∧ Below w.heap.size w w' := by
 have hu64 := Try.underlying64
 have HR0_5 := Aside0.mk hr0_5
 have HC0_5 := Aside0.mk hc0_5
 clear hr0_5 hc0_5
 have HB := Aside0.mk (Below.refl w.heap.size w)
 have H : ((laws_heldTermS.f k l0_5 a1).bind fun t666 => (if t666 < 0 then (some (-1)) else (some t666))) = some r := h
 clear h
 replace H := Option.bind_eq_some_iff.mp H
 obtain ⟨t666, A30, H⟩ := H
 try dsimp only at H
 have A3 := Aside0.mk A30
 clear A30
 by_cases c4 : t666 < 0
 ·rw [if_pos c4] at H
  have c4b0 : decide (t666 < 0) = true := decide_eq_true c4
  clear c4
  obtain rfl := Option.some.inj H
  go_enter Try.func44, Try.ntmps44
  go_wp2_with (first | ((with_reducible refine gate_dst (N := 2) rfl ?_); refine box_event ?hg (N := 2) ?hd (cs := #[.int .i64 a0_0, .int .i64 a0_1, .int .i64 a0_2, .int .i64 a0_3, .int .i64 a0_4, .slice A0_5 l0_5.length c0_5]) (t := 64) ?hr ?_; (case hd => rfl); (case hg => rfl); (case hr => first | (go_simp; done) | (go_simp; rfl)); intro gb665 hg w5 hbox hb; have n0_ := Aside0.mk (below_step (by repeat (first | (with_reducible first | exact HB.out | apply below_alloc | apply pw_below_drewN | apply below_drew1) | exact HB.out)) hb); have n1_ := Aside0.mk (hbox); have n2_ := Aside0.mk ((by rw [hg]; exact (below_size (by repeat (first | (with_reducible first | exact HB.out | apply below_alloc | apply pw_below_drewN | apply below_drew1) | exact HB.out))) : w.heap.size ≤ gb665)); have n3_ := Aside0.mk ((by rw [hg]; exact (below_size (by repeat (first | (with_reducible first | exact HB.out | apply below_alloc | apply pw_below_drewN | apply below_drew1) | exact HB.out))) : w.heap.size ≤ gb665)); clear HB; have HB := n0_; have BK665 := n1_; have GW665 := n2_; have GE665 := n3_; clear n0_ n1_ n2_ n3_; clear hb hbox hg; have hcz6_0 : w5.cell? ⟨gb665, 0, none⟩ = some (.int .i64 a0_0) := (blk_cell BK665.out 0).trans rfl; have hcz6_1 : w5.cell? ⟨gb665, 1, none⟩ = some (.int .i64 a0_1) := (blk_cell BK665.out 1).trans rfl; have hcz6_2 : w5.cell? ⟨gb665, 2, none⟩ = some (.int .i64 a0_2) := (blk_cell BK665.out 2).trans rfl; have hcz6_3 : w5.cell? ⟨gb665, 3, none⟩ = some (.int .i64 a0_3) := (blk_cell BK665.out 3).trans rfl; have hcz6_4 : w5.cell? ⟨gb665, 4, none⟩ = some (.int .i64 a0_4) := (blk_cell BK665.out 4).trans rfl; have hcz6_5 : w5.cell? ⟨gb665, 5, none⟩ = some (.slice A0_5 l0_5.length c0_5) := (blk_cell BK665.out 5).trans rfl; have hfz6_0 := blk_frozen BK665.out 0; have hfz6_1 := blk_frozen BK665.out 1; have hfz6_2 := blk_frozen BK665.out 2; have hfz6_3 := blk_frozen BK665.out 3; have hfz6_4 := blk_frozen BK665.out 4; have hfz6_5 := blk_frozen BK665.out 5) | ((with_reducible refine gate_callee (f := 73) rfl ?_); refine goesL_ (some 8) rfl rfl Try.func73 (by kernel_rfl) rfl #[.slice A0_5 l0_5.length c0_5, .int .i64 a1] rfl (by (try simp only [List.map_toArray, List.map_cons, List.map_nil]); first | done | rfl | (simp only [List.length_drop, List.length_take]; rfl)) ?_; (with_reducible refine (laws_heldTermS.calls k _ _ l0_5 a1 t666 _ ?side1 ?side2 A3.out).mono ?_); (case side1 => repeat (first | exact (Kd.C_below HR0_5.out HB.out) | (with_reducible refine Kd.C_alloc ?_ _) | (with_reducible refine Kd.C_drewN ?_ _) | (with_reducible refine Kd.C_drew ?_))); (case side2 => exact HC0_5.out); rintro e w' ⟨rfl, ⟨nd, rfl⟩⟩; refine ⟨_, rfl, ?_⟩))
  go_ret
  exact ⟨by first | rfl | (simp [errW_none, errW_some] <;> rfl) | (simp [*, errW_none, errW_some] <;> rfl), by repeat (first | (with_reducible first | exact HB.out | apply below_alloc | apply pw_below_drewN | apply below_drew1 | refine below_set ?_ GE665.out) | exact HB.out)⟩
 ·rw [if_neg c4] at H
  have c4b0 : decide (t666 < 0) = false := decide_eq_false c4
  clear c4
  obtain rfl := Option.some.inj H
  go_enter Try.func44, Try.ntmps44
  go_wp2_with (first | ((with_reducible refine gate_dst (N := 2) rfl ?_); refine box_event ?hg (N := 2) ?hd (cs := #[.int .i64 a0_0, .int .i64 a0_1, .int .i64 a0_2, .int .i64 a0_3, .int .i64 a0_4, .slice A0_5 l0_5.length c0_5]) (t := 64) ?hr ?_; (case hd => rfl); (case hg => rfl); (case hr => first | (go_simp; done) | (go_simp; rfl)); intro gb665 hg w7 hbox hb; have n0_ := Aside0.mk (below_step (by repeat (first | (with_reducible first | exact HB.out | apply below_alloc | apply pw_below_drewN | apply below_drew1) | exact HB.out)) hb); have n1_ := Aside0.mk (hbox); have n2_ := Aside0.mk ((by rw [hg]; exact (below_size (by repeat (first | (with_reducible first | exact HB.out | apply below_alloc | apply pw_below_drewN | apply below_drew1) | exact HB.out))) : w.heap.size ≤ gb665)); have n3_ := Aside0.mk ((by rw [hg]; exact (below_size (by repeat (first | (with_reducible first | exact HB.out | apply below_alloc | apply pw_below_drewN | apply below_drew1) | exact HB.out))) : w.heap.size ≤ gb665)); clear HB; have HB := n0_; have BK665 := n1_; have GW665 := n2_; have GE665 := n3_; clear n0_ n1_ n2_ n3_; clear hb hbox hg; have hcz8_0 : w7.cell? ⟨gb665, 0, none⟩ = some (.int .i64 a0_0) := (blk_cell BK665.out 0).trans rfl; have hcz8_1 : w7.cell? ⟨gb665, 1, none⟩ = some (.int .i64 a0_1) := (blk_cell BK665.out 1).trans rfl; have hcz8_2 : w7.cell? ⟨gb665, 2, none⟩ = some (.int .i64 a0_2) := (blk_cell BK665.out 2).trans rfl; have hcz8_3 : w7.cell? ⟨gb665, 3, none⟩ = some (.int .i64 a0_3) := (blk_cell BK665.out 3).trans rfl; have hcz8_4 : w7.cell? ⟨gb665, 4, none⟩ = some (.int .i64 a0_4) := (blk_cell BK665.out 4).trans rfl; have hcz8_5 : w7.cell? ⟨gb665, 5, none⟩ = some (.slice A0_5 l0_5.length c0_5) := (blk_cell BK665.out 5).trans rfl; have hfz8_0 := blk_frozen BK665.out 0; have hfz8_1 := blk_frozen BK665.out 1; have hfz8_2 := blk_frozen BK665.out 2; have hfz8_3 := blk_frozen BK665.out 3; have hfz8_4 := blk_frozen BK665.out 4; have hfz8_5 := blk_frozen BK665.out 5) | ((with_reducible refine gate_callee (f := 73) rfl ?_); refine goesL_ (some 8) rfl rfl Try.func73 (by kernel_rfl) rfl #[.slice A0_5 l0_5.length c0_5, .int .i64 a1] rfl (by (try simp only [List.map_toArray, List.map_cons, List.map_nil]); first | done | rfl | (simp only [List.length_drop, List.length_take]; rfl)) ?_; (with_reducible refine (laws_heldTermS.calls k _ _ l0_5 a1 t666 _ ?side1 ?side2 A3.out).mono ?_); (case side1 => repeat (first | exact (Kd.C_below HR0_5.out HB.out) | (with_reducible refine Kd.C_alloc ?_ _) | (with_reducible refine Kd.C_drewN ?_ _) | (with_reducible refine Kd.C_drew ?_))); (case side2 => exact HC0_5.out); rintro e w' ⟨rfl, ⟨nd, rfl⟩⟩; refine ⟨_, rfl, ?_⟩))
  go_ret
  exact ⟨by first | rfl | (simp [errW_none, errW_some] <;> rfl) | (simp [*, errW_none, errW_some] <;> rfl), by repeat (first | (with_reducible first | exact HB.out | apply below_alloc | apply pw_below_drewN | apply below_drew1 | refine below_set ?_ GE665.out) | exact HB.out)⟩
end Go.Proofs.Ytomaeijhljpgdaa.G
