/- Part 5 of the proof of FnExactMakeProof: what the functions on its road do, and the plain laws. -/
import Derived.Test.YtomaeijhljpgdaaCFnExactMakeProof2
namespace Go.Proofs.Ytomaeijhljpgdaa.G
open Go.RowKit Go.Proofs.YtomaeijhljpgdaaW.PrintWords Go.Proofs.YtomaeijhljpgdaaW.PrintLast Go.Proofs.YtomaeijhljpgdaaW.PrintMore
attribute [local go_sem] max2_int min2_int max_two min_two max_three min_three max_four min_four   -- for this text's walks alone
set_option linter.unusedVariables false
set_option linter.unusedSimpArgs false
def spec_MakeProof.f (k : Nat) (l0 : List S26) (a1 a2 a3 a4 a5 : Int) : Option (Int × Int × List S26) := (spec_l9Asked.f k l0 [a1, a2, a3, a4]).bind fun c => (if c = 0 then ((spec_l9Word.f a5).bind fun u0 => (if u0 = true then ((spec_l5Copy.f l0).bind fun lc => ((spec_l9Proof.f k lc 0 a1 a2 a3 a4 a5).bind fun q => (if q.2.2 = 0 then (some (0, q.1, q.2.1)) else (some (q.2.2, 0, []))))) else (some (3, 0, [])))) else (some (c, 0, [])))
set_option maxHeartbeats 4000000 in
set_option maxRecDepth 100000 in
theorem spec_MakeProof.calls (k : Nat) (A0 : Option Addr) (c0 : Nat) (l0 : List (S26)) (a1 a2 a3 a4 a5 : Int) (r1 : Int) (r2 : Int) (r3 : List (S26)) (w : World) (hr0 : Kd.C k26 w A0 l0.length l0) (hc0 : l0.length ≤ c0) (h : spec_MakeProof.f k l0 a1 a2 a3 a4 a5 = some (r1, r2, r3)) :
    Calls Try.prog 33 #[.slice A0 l0.length c0, .int .i64 a1, .int .i64 a2, .int .i64 a3, .int .i64 a4, .int .i64 a5] w fun e w' => ∃ v2_ : Value, e = .returned (.agg #[.int .i64 r1, .int .i64 r2, v2_]) ∧ Kd.R k26 26 w' w.heap.size (fun _ => True) v2_ r3 ∧ Below w.heap.size w w' := by
  unfold spec_MakeProof.f at h
  obtain ⟨c, hf, h⟩ := Option.bind_eq_some_iff.mp h
  have HF := Aside0.mk hf
  clear hf
  have HR := Aside0.mk hr0
  have HC := Aside0.mk hc0
  have HB := Aside0.mk (Below.refl w.heap.size w)
  clear hr0 hc0
  by_cases hz : c = 0
  · rw [if_pos hz] at h
    subst hz
    obtain ⟨u0, hu0, h⟩ := Option.bind_eq_some_iff.mp h
    have HU0 := Aside0.mk hu0
    clear hu0
    cases u0 with
    | false =>
      rw [if_neg (by decide)] at h
      simp only [Option.some.injEq, Prod.mk.injEq] at h
      obtain ⟨rfl, rfl, rfl⟩ := h
      go_enter Try.func33, Try.ntmps33
      go_wp2_with (first | ((with_reducible refine gate_dst (N := 12) rfl ?_); refine box_event ?hg (N := 12) ?hd (cs := #[.int .i64 0, .int .i64 0, .slice none 0 0]) (t := 30) ?hr ?_; (case hd => rfl); (case hg => rfl); (case hr => first | (go_simp; done) | (go_simp; rfl)); intro g12 hg w2 hbox hb; have n0_ := Aside0.mk (below_step HB.out hb); have BK := Aside0.mk hbox; have GE := Aside0.mk (show w.heap.size ≤ g12 by rw [hg]; exact below_size HB.out); clear HB; have HB := n0_; clear n0_ hb hbox hg; (try clear q0_ q1_ q2_ f0_ f1_ f2_); have q0_ : w2.cell? ⟨g12, 0, none⟩ = some (.int .i64 0) := (blk_cell BK.out 0).trans rfl; have q1_ : w2.cell? ⟨g12, 1, none⟩ = some (.int .i64 0) := (blk_cell BK.out 1).trans rfl; have q2_ : w2.cell? ⟨g12, 2, none⟩ = some (.slice none 0 0) := (blk_cell BK.out 2).trans rfl; have f0_ := blk_frozen BK.out 0; have f1_ := blk_frozen BK.out 1; have f2_ := blk_frozen BK.out 2) | ((with_reducible refine gate_dst (N := 21) rfl ?_); refine Kd.R_lit (Kd.int .i64) _ 2 ?hg (N := 21) ?hd (xs := ([a1, a2, a3, a4] : List Int)) (inner := [.int .i64 a1, .int .i64 a2, .int .i64 a3, .int .i64 a4]) (ok := fun _ => True) (okp := fun _ => True) ?hr ?hp (fun _ hk => hk) trivial (Below.refl _ _) (Nat.le_refl _) (by simp) ?_; (case hd => rfl); (case hg => rfl); (case hr => first | (go_simp; done) | (go_simp; rfl)); (case hp => exact reps_ints _); intro v1 w1 ho hb hg hn; clear hg hn; obtain ⟨AP, cP, eP⟩ := Kd.R_slice ho; subst eP; have HP := Aside0.mk ho; clear ho; have n0_ := Aside0.mk (below_step HB.out hb); have n1_ := Aside0.mk (blk_below BK.out hb); clear HB BK; have HB := n0_; have BK := n1_; clear n0_ n1_; clear hb; (try clear q0_ q1_ q2_ f0_ f1_ f2_); have q0_ : w1.cell? ⟨g12, 0, none⟩ = some (.int .i64 0) := (blk_cell BK.out 0).trans rfl; have q1_ : w1.cell? ⟨g12, 1, none⟩ = some (.int .i64 0) := (blk_cell BK.out 1).trans rfl; have q2_ : w1.cell? ⟨g12, 2, none⟩ = some (.slice none 0 0) := (blk_cell BK.out 2).trans rfl; have f0_ := blk_frozen BK.out 0; have f1_ := blk_frozen BK.out 1; have f2_ := blk_frozen BK.out 2) | (go_at_call 74; refine (spec_l9Asked.calls k A0 c0 l0 AP cP [a1, a2, a3, a4] _ _ (Kd.C_below HR.out HB.out) HC.out (Kd.R_reads' HP.out).2.2 (Kd.R_reads' HP.out).2.1 HF.out).mono ?_; rintro e w4 ⟨rfl, hb⟩; have n0_ := Aside0.mk (below_step HB.out hb); have n1_ := Aside0.mk (blk_below BK.out hb); have n2_ := Aside0.mk (Kd.R_below HP.out hb); clear HB BK HP; have HB := n0_; have BK := n1_; have HP := n2_; clear n0_ n1_ n2_; clear hb; (try clear q0_ q1_ q2_ f0_ f1_ f2_); have q0_ : w4.cell? ⟨g12, 0, none⟩ = some (.int .i64 0) := (blk_cell BK.out 0).trans rfl; have q1_ : w4.cell? ⟨g12, 1, none⟩ = some (.int .i64 0) := (blk_cell BK.out 1).trans rfl; have q2_ : w4.cell? ⟨g12, 2, none⟩ = some (.slice none 0 0) := (blk_cell BK.out 2).trans rfl; have f0_ := blk_frozen BK.out 0; have f1_ := blk_frozen BK.out 1; have f2_ := blk_frozen BK.out 2) | (go_at_call 66; refine (spec_l9Word.calls a5 _ _ HU0.out).mono ?_; rintro e w4 ⟨rfl, hd⟩; have hb := hd.below; clear hd; have n0_ := Aside0.mk (below_step HB.out hb); have n1_ := Aside0.mk (blk_below BK.out hb); clear HB BK; have HB := n0_; have BK := n1_; clear n0_ n1_; clear hb; (try clear q0_ q1_ q2_ f0_ f1_ f2_); have q0_ : w4.cell? ⟨g12, 0, none⟩ = some (.int .i64 0) := (blk_cell BK.out 0).trans rfl; have q1_ : w4.cell? ⟨g12, 1, none⟩ = some (.int .i64 0) := (blk_cell BK.out 1).trans rfl; have q2_ : w4.cell? ⟨g12, 2, none⟩ = some (.slice none 0 0) := (blk_cell BK.out 2).trans rfl; have f0_ := blk_frozen BK.out 0; have f1_ := blk_frozen BK.out 1; have f2_ := blk_frozen BK.out 2))
      refine bodyPost_ret (results_cell_row rfl _ _ g12 30 #[.int .i64 3, .int .i64 0, .slice none 0 0] (0, 0) _ rfl (blk_put (blk_put (blk_put BK.out 0 _ rfl) 1 _ rfl) 2 _ rfl) Try.underlying30 rfl (by kernel_rfl)) rfl ?_
      exact ⟨_, rfl, Kd.R_nil _ _ _ _ _, below_set (below_set (below_set HB.out GE.out) GE.out) GE.out⟩
    | true =>
      rw [if_pos rfl] at h
      obtain ⟨lc, hcp, h⟩ := Option.bind_eq_some_iff.mp h
      have HCP := Aside0.mk hcp
      obtain ⟨q, hq, h⟩ := Option.bind_eq_some_iff.mp h
      have HQ := Aside0.mk hq
      clear hcp hq
      by_cases hc : q.2.2 = 0
      · rw [if_pos hc] at h
        simp only [Option.some.injEq, Prod.mk.injEq] at h
        obtain ⟨rfl, rfl, rfl⟩ := h
        have hc0 : (q.2.2 == 0) = true := by simpa using hc
        have hc1 : (q.2.2 != 0) = false := by simpa using hc
        go_enter Try.func33, Try.ntmps33
        go_wp2_with (first | ((with_reducible refine gate_dst (N := 12) rfl ?_); refine box_event ?hg (N := 12) ?hd (cs := #[.int .i64 0, .int .i64 0, .slice none 0 0]) (t := 30) ?hr ?_; (case hd => rfl); (case hg => rfl); (case hr => first | (go_simp; done) | (go_simp; rfl)); intro g12 hg w2 hbox hb; have n0_ := Aside0.mk (below_step HB.out hb); have BK := Aside0.mk hbox; have GE := Aside0.mk (show w.heap.size ≤ g12 by rw [hg]; exact below_size HB.out); clear HB; have HB := n0_; clear n0_ hb hbox hg; (try clear q0_ q1_ q2_ f0_ f1_ f2_); have q0_ : w2.cell? ⟨g12, 0, none⟩ = some (.int .i64 0) := (blk_cell BK.out 0).trans rfl; have q1_ : w2.cell? ⟨g12, 1, none⟩ = some (.int .i64 0) := (blk_cell BK.out 1).trans rfl; have q2_ : w2.cell? ⟨g12, 2, none⟩ = some (.slice none 0 0) := (blk_cell BK.out 2).trans rfl; have f0_ := blk_frozen BK.out 0; have f1_ := blk_frozen BK.out 1; have f2_ := blk_frozen BK.out 2) | ((with_reducible refine gate_dst (N := 21) rfl ?_); refine Kd.R_lit (Kd.int .i64) _ 2 ?hg (N := 21) ?hd (xs := ([a1, a2, a3, a4] : List Int)) (inner := [.int .i64 a1, .int .i64 a2, .int .i64 a3, .int .i64 a4]) (ok := fun _ => True) (okp := fun _ => True) ?hr ?hp (fun _ hk => hk) trivial (Below.refl _ _) (Nat.le_refl _) (by simp) ?_; (case hd => rfl); (case hg => rfl); (case hr => first | (go_simp; done) | (go_simp; rfl)); (case hp => exact reps_ints _); intro v1 w1 ho hb hg hn; clear hg hn; obtain ⟨AP, cP, eP⟩ := Kd.R_slice ho; subst eP; have HP := Aside0.mk ho; clear ho; have n0_ := Aside0.mk (below_step HB.out hb); have n1_ := Aside0.mk (blk_below BK.out hb); clear HB BK; have HB := n0_; have BK := n1_; clear n0_ n1_; clear hb; (try clear q0_ q1_ q2_ f0_ f1_ f2_); have q0_ : w1.cell? ⟨g12, 0, none⟩ = some (.int .i64 0) := (blk_cell BK.out 0).trans rfl; have q1_ : w1.cell? ⟨g12, 1, none⟩ = some (.int .i64 0) := (blk_cell BK.out 1).trans rfl; have q2_ : w1.cell? ⟨g12, 2, none⟩ = some (.slice none 0 0) := (blk_cell BK.out 2).trans rfl; have f0_ := blk_frozen BK.out 0; have f1_ := blk_frozen BK.out 1; have f2_ := blk_frozen BK.out 2) | (go_at_call 74; refine (spec_l9Asked.calls k A0 c0 l0 AP cP [a1, a2, a3, a4] _ _ (Kd.C_below HR.out HB.out) HC.out (Kd.R_reads' HP.out).2.2 (Kd.R_reads' HP.out).2.1 HF.out).mono ?_; rintro e w4 ⟨rfl, hb⟩; have n0_ := Aside0.mk (below_step HB.out hb); have n1_ := Aside0.mk (blk_below BK.out hb); have n2_ := Aside0.mk (Kd.R_below HP.out hb); clear HB BK HP; have HB := n0_; have BK := n1_; have HP := n2_; clear n0_ n1_ n2_; clear hb; (try clear q0_ q1_ q2_ f0_ f1_ f2_); have q0_ : w4.cell? ⟨g12, 0, none⟩ = some (.int .i64 0) := (blk_cell BK.out 0).trans rfl; have q1_ : w4.cell? ⟨g12, 1, none⟩ = some (.int .i64 0) := (blk_cell BK.out 1).trans rfl; have q2_ : w4.cell? ⟨g12, 2, none⟩ = some (.slice none 0 0) := (blk_cell BK.out 2).trans rfl; have f0_ := blk_frozen BK.out 0; have f1_ := blk_frozen BK.out 1; have f2_ := blk_frozen BK.out 2) | (go_at_call 66; refine (spec_l9Word.calls a5 _ _ HU0.out).mono ?_; rintro e w4 ⟨rfl, hd⟩; have hb := hd.below; clear hd; have n0_ := Aside0.mk (below_step HB.out hb); have n1_ := Aside0.mk (blk_below BK.out hb); clear HB BK; have HB := n0_; have BK := n1_; clear n0_ n1_; clear hb; (try clear q0_ q1_ q2_ f0_ f1_ f2_); have q0_ : w4.cell? ⟨g12, 0, none⟩ = some (.int .i64 0) := (blk_cell BK.out 0).trans rfl; have q1_ : w4.cell? ⟨g12, 1, none⟩ = some (.int .i64 0) := (blk_cell BK.out 1).trans rfl; have q2_ : w4.cell? ⟨g12, 2, none⟩ = some (.slice none 0 0) := (blk_cell BK.out 2).trans rfl; have f0_ := blk_frozen BK.out 0; have f1_ := blk_frozen BK.out 1; have f2_ := blk_frozen BK.out 2) | (go_at_call 67; refine (spec_l5Copy.calls A0 c0 l0 lc _ (Kd.C_below HR.out HB.out) HC.out HCP.out).mono ?_; rintro e w4 ⟨v5, rfl, ho, hb⟩; obtain ⟨A5, c5, e5⟩ := Kd.R_slice ho; subst e5; have HO := Aside0.mk (Kd.R_lower ho (below_size HB.out)); clear ho; have n0_ := Aside0.mk (below_step HB.out hb); have n1_ := Aside0.mk (blk_below BK.out hb); clear HB BK; have HB := n0_; have BK := n1_; clear n0_ n1_; clear hb; (try clear q0_ q1_ q2_ f0_ f1_ f2_); have q0_ : w4.cell? ⟨g12, 0, none⟩ = some (.int .i64 0) := (blk_cell BK.out 0).trans rfl; have q1_ : w4.cell? ⟨g12, 1, none⟩ = some (.int .i64 0) := (blk_cell BK.out 1).trans rfl; have q2_ : w4.cell? ⟨g12, 2, none⟩ = some (.slice none 0 0) := (blk_cell BK.out 2).trans rfl; have f0_ := blk_frozen BK.out 0; have f1_ := blk_frozen BK.out 1; have f2_ := blk_frozen BK.out 2) | ((with_reducible refine gate_dst (N := 14) rfl ?_); refine box_event ?hg (N := 14) ?hd (cs := #[.slice none 0 0, .int .i64 0]) (t := 94) ?hr ?_; (case hd => rfl); (case hg => rfl); (case hr => first | (go_simp; done) | (go_simp; rfl)); intro gm hg w3 hbox hb; have BM := Aside0.mk hbox; have GM := Aside0.mk (show w.heap.size ≤ gm by rw [hg]; exact below_size HB.out); have NEM := Aside0.mk (show g12 ≠ gm by rw [hg]; exact Nat.ne_of_lt (blk_lt BK.out)); have NEM1 := NEM.out; have NEM2 := NEM.out.symm; have n9_ := Aside0.mk (R_below_ne HO.out hb (Nat.le_of_eq hg.symm)); clear HO; have HO := n9_; clear n9_; have n0_ := Aside0.mk (below_step HB.out hb); have n1_ := Aside0.mk (blk_below BK.out hb); clear HB BK; have HB := n0_; have BK := n1_; clear n0_ n1_; clear hb hbox hg; have m0_ : w3.cell? ⟨gm, 0, none⟩ = some (.slice none 0 0) := (blk_cell BM.out 0).trans rfl; have m1_ : w3.cell? ⟨gm, 1, none⟩ = some (.int .i64 0) := (blk_cell BM.out 1).trans rfl; have mf0_ := blk_frozen BM.out 0; have mf1_ := blk_frozen BM.out 1; (try clear q0_ q1_ q2_ f0_ f1_ f2_); have q0_ : w3.cell? ⟨g12, 0, none⟩ = some (.int .i64 0) := (blk_cell BK.out 0).trans rfl; have q1_ : w3.cell? ⟨g12, 1, none⟩ = some (.int .i64 0) := (blk_cell BK.out 1).trans rfl; have q2_ : w3.cell? ⟨g12, 2, none⟩ = some (.slice none 0 0) := (blk_cell BK.out 2).trans rfl; have f0_ := blk_frozen BK.out 0; have f1_ := blk_frozen BK.out 1; have f2_ := blk_frozen BK.out 2) | (go_at_call 75; refine (spec_l9Proof.callsE k a1 a2 a3 a4 a5 q (SE.start (st_new BM.out GM.out HO.out)) HQ.out).mono ?_; rintro e w9 ⟨rfl, hs, hk⟩; clear hk; obtain ⟨⟨v9, hv⟩, hk, hB⟩ := hs; obtain ⟨A9, c9, e9⟩ := Kd.R_slice hv.2.2; subst e9; have HV := Aside0.mk hv; have BW := Aside0.mk (blk_keepT (blk_far (blk_far BK.out (p := ⟨gm, 0, none⟩) NEM.out _) (p := ⟨gm, 1, none⟩) NEM.out _) hk (by decide) (by decide)); have n0_ := Aside0.mk ((below_set (j := 1) (v := .int .i64 0) (below_set (j := 0) (v := .slice A5 lc.length c5) HB.out GM.out) GM.out).trans hB); clear HB BK HO BM hk hB hv; have HB := n0_; have BK := BW; clear n0_ BW; (try clear m0_ m1_ mf0_ mf1_); have m0_ : w9.cell? ⟨gm, 0, none⟩ = some _ := (blk_cell HV.out.1 0).trans rfl; have m1_ : w9.cell? ⟨gm, 1, none⟩ = some (.int .i64 q.2.2) := (blk_cell HV.out.1 1).trans rfl; (try clear q0_ q1_ q2_ f0_ f1_ f2_); have q0_ : w9.cell? ⟨g12, 0, none⟩ = some (.int .i64 0) := (blk_cell BK.out 0).trans rfl; have q1_ : w9.cell? ⟨g12, 1, none⟩ = some (.int .i64 0) := (blk_cell BK.out 1).trans rfl; have q2_ : w9.cell? ⟨g12, 2, none⟩ = some (.slice none 0 0) := (blk_cell BK.out 2).trans rfl; have f0_ := blk_frozen BK.out 0; have f1_ := blk_frozen BK.out 1; have f2_ := blk_frozen BK.out 2))
        have HOA := Aside0.mk (show ∀ k, (.slice A9 q.2.1.length c9 : Value).ownBlock = some k → k ≠ g12 from fun k hk e => (Kd.R_ne HV.out.2.2 BK.out (by decide)) (by rw [← e]; exact hk.symm))
        refine bodyPost_ret (results_cell_row rfl _ _ g12 30 #[.int .i64 0, .int .i64 q.1, .slice A9 q.2.1.length c9] (0, 0) _ rfl (blk_put (blk_put (blk_put BK.out 0 _ rfl) 1 _ rfl) 2 _ rfl) Try.underlying30 rfl (by kernel_rfl)) rfl ?_
        exact ⟨_, rfl, Kd.R_mono (Kd.R_far (Kd.R_far (Kd.R_far (R_not HV.out.2.2 HOA.out) (p := ⟨g12, 0, none⟩) (fun k hk => hk) _) (p := ⟨g12, 1, none⟩) (fun k hk => hk) _) (p := ⟨g12, 2, none⟩) (fun k hk => hk) _) (fun _ _ => trivial), below_set (below_set (below_set HB.out GE.out) GE.out) GE.out⟩
      · rw [if_neg hc] at h
        simp only [Option.some.injEq, Prod.mk.injEq] at h
        obtain ⟨rfl, rfl, rfl⟩ := h
        have hc0 : (q.2.2 == 0) = false := by simpa using hc
        have hc1 : (q.2.2 != 0) = true := by simpa using hc
        go_enter Try.func33, Try.ntmps33
        go_wp2_with (first | ((with_reducible refine gate_dst (N := 12) rfl ?_); refine box_event ?hg (N := 12) ?hd (cs := #[.int .i64 0, .int .i64 0, .slice none 0 0]) (t := 30) ?hr ?_; (case hd => rfl); (case hg => rfl); (case hr => first | (go_simp; done) | (go_simp; rfl)); intro g12 hg w2 hbox hb; have n0_ := Aside0.mk (below_step HB.out hb); have BK := Aside0.mk hbox; have GE := Aside0.mk (show w.heap.size ≤ g12 by rw [hg]; exact below_size HB.out); clear HB; have HB := n0_; clear n0_ hb hbox hg; (try clear q0_ q1_ q2_ f0_ f1_ f2_); have q0_ : w2.cell? ⟨g12, 0, none⟩ = some (.int .i64 0) := (blk_cell BK.out 0).trans rfl; have q1_ : w2.cell? ⟨g12, 1, none⟩ = some (.int .i64 0) := (blk_cell BK.out 1).trans rfl; have q2_ : w2.cell? ⟨g12, 2, none⟩ = some (.slice none 0 0) := (blk_cell BK.out 2).trans rfl; have f0_ := blk_frozen BK.out 0; have f1_ := blk_frozen BK.out 1; have f2_ := blk_frozen BK.out 2) | ((with_reducible refine gate_dst (N := 21) rfl ?_); refine Kd.R_lit (Kd.int .i64) _ 2 ?hg (N := 21) ?hd (xs := ([a1, a2, a3, a4] : List Int)) (inner := [.int .i64 a1, .int .i64 a2, .int .i64 a3, .int .i64 a4]) (ok := fun _ => True) (okp := fun _ => True) ?hr ?hp (fun _ hk => hk) trivial (Below.refl _ _) (Nat.le_refl _) (by simp) ?_; (case hd => rfl); (case hg => rfl); (case hr => first | (go_simp; done) | (go_simp; rfl)); (case hp => exact reps_ints _); intro v1 w1 ho hb hg hn; clear hg hn; obtain ⟨AP, cP, eP⟩ := Kd.R_slice ho; subst eP; have HP := Aside0.mk ho; clear ho; have n0_ := Aside0.mk (below_step HB.out hb); have n1_ := Aside0.mk (blk_below BK.out hb); clear HB BK; have HB := n0_; have BK := n1_; clear n0_ n1_; clear hb; (try clear q0_ q1_ q2_ f0_ f1_ f2_); have q0_ : w1.cell? ⟨g12, 0, none⟩ = some (.int .i64 0) := (blk_cell BK.out 0).trans rfl; have q1_ : w1.cell? ⟨g12, 1, none⟩ = some (.int .i64 0) := (blk_cell BK.out 1).trans rfl; have q2_ : w1.cell? ⟨g12, 2, none⟩ = some (.slice none 0 0) := (blk_cell BK.out 2).trans rfl; have f0_ := blk_frozen BK.out 0; have f1_ := blk_frozen BK.out 1; have f2_ := blk_frozen BK.out 2) | (go_at_call 74; refine (spec_l9Asked.calls k A0 c0 l0 AP cP [a1, a2, a3, a4] _ _ (Kd.C_below HR.out HB.out) HC.out (Kd.R_reads' HP.out).2.2 (Kd.R_reads' HP.out).2.1 HF.out).mono ?_; rintro e w4 ⟨rfl, hb⟩; have n0_ := Aside0.mk (below_step HB.out hb); have n1_ := Aside0.mk (blk_below BK.out hb); have n2_ := Aside0.mk (Kd.R_below HP.out hb); clear HB BK HP; have HB := n0_; have BK := n1_; have HP := n2_; clear n0_ n1_ n2_; clear hb; (try clear q0_ q1_ q2_ f0_ f1_ f2_); have q0_ : w4.cell? ⟨g12, 0, none⟩ = some (.int .i64 0) := (blk_cell BK.out 0).trans rfl; have q1_ : w4.cell? ⟨g12, 1, none⟩ = some (.int .i64 0) := (blk_cell BK.out 1).trans rfl; have q2_ : w4.cell? ⟨g12, 2, none⟩ = some (.slice none 0 0) := (blk_cell BK.out 2).trans rfl; have f0_ := blk_frozen BK.out 0; have f1_ := blk_frozen BK.out 1; have f2_ := blk_frozen BK.out 2) | (go_at_call 66; refine (spec_l9Word.calls a5 _ _ HU0.out).mono ?_; rintro e w4 ⟨rfl, hd⟩; have hb := hd.below; clear hd; have n0_ := Aside0.mk (below_step HB.out hb); have n1_ := Aside0.mk (blk_below BK.out hb); clear HB BK; have HB := n0_; have BK := n1_; clear n0_ n1_; clear hb; (try clear q0_ q1_ q2_ f0_ f1_ f2_); have q0_ : w4.cell? ⟨g12, 0, none⟩ = some (.int .i64 0) := (blk_cell BK.out 0).trans rfl; have q1_ : w4.cell? ⟨g12, 1, none⟩ = some (.int .i64 0) := (blk_cell BK.out 1).trans rfl; have q2_ : w4.cell? ⟨g12, 2, none⟩ = some (.slice none 0 0) := (blk_cell BK.out 2).trans rfl; have f0_ := blk_frozen BK.out 0; have f1_ := blk_frozen BK.out 1; have f2_ := blk_frozen BK.out 2) | (go_at_call 67; refine (spec_l5Copy.calls A0 c0 l0 lc _ (Kd.C_below HR.out HB.out) HC.out HCP.out).mono ?_; rintro e w4 ⟨v5, rfl, ho, hb⟩; obtain ⟨A5, c5, e5⟩ := Kd.R_slice ho; subst e5; have HO := Aside0.mk (Kd.R_lower ho (below_size HB.out)); clear ho; have n0_ := Aside0.mk (below_step HB.out hb); have n1_ := Aside0.mk (blk_below BK.out hb); clear HB BK; have HB := n0_; have BK := n1_; clear n0_ n1_; clear hb; (try clear q0_ q1_ q2_ f0_ f1_ f2_); have q0_ : w4.cell? ⟨g12, 0, none⟩ = some (.int .i64 0) := (blk_cell BK.out 0).trans rfl; have q1_ : w4.cell? ⟨g12, 1, none⟩ = some (.int .i64 0) := (blk_cell BK.out 1).trans rfl; have q2_ : w4.cell? ⟨g12, 2, none⟩ = some (.slice none 0 0) := (blk_cell BK.out 2).trans rfl; have f0_ := blk_frozen BK.out 0; have f1_ := blk_frozen BK.out 1; have f2_ := blk_frozen BK.out 2) | ((with_reducible refine gate_dst (N := 14) rfl ?_); refine box_event ?hg (N := 14) ?hd (cs := #[.slice none 0 0, .int .i64 0]) (t := 94) ?hr ?_; (case hd => rfl); (case hg => rfl); (case hr => first | (go_simp; done) | (go_simp; rfl)); intro gm hg w3 hbox hb; have BM := Aside0.mk hbox; have GM := Aside0.mk (show w.heap.size ≤ gm by rw [hg]; exact below_size HB.out); have NEM := Aside0.mk (show g12 ≠ gm by rw [hg]; exact Nat.ne_of_lt (blk_lt BK.out)); have NEM1 := NEM.out; have NEM2 := NEM.out.symm; have n9_ := Aside0.mk (R_below_ne HO.out hb (Nat.le_of_eq hg.symm)); clear HO; have HO := n9_; clear n9_; have n0_ := Aside0.mk (below_step HB.out hb); have n1_ := Aside0.mk (blk_below BK.out hb); clear HB BK; have HB := n0_; have BK := n1_; clear n0_ n1_; clear hb hbox hg; have m0_ : w3.cell? ⟨gm, 0, none⟩ = some (.slice none 0 0) := (blk_cell BM.out 0).trans rfl; have m1_ : w3.cell? ⟨gm, 1, none⟩ = some (.int .i64 0) := (blk_cell BM.out 1).trans rfl; have mf0_ := blk_frozen BM.out 0; have mf1_ := blk_frozen BM.out 1; (try clear q0_ q1_ q2_ f0_ f1_ f2_); have q0_ : w3.cell? ⟨g12, 0, none⟩ = some (.int .i64 0) := (blk_cell BK.out 0).trans rfl; have q1_ : w3.cell? ⟨g12, 1, none⟩ = some (.int .i64 0) := (blk_cell BK.out 1).trans rfl; have q2_ : w3.cell? ⟨g12, 2, none⟩ = some (.slice none 0 0) := (blk_cell BK.out 2).trans rfl; have f0_ := blk_frozen BK.out 0; have f1_ := blk_frozen BK.out 1; have f2_ := blk_frozen BK.out 2) | (go_at_call 75; refine (spec_l9Proof.callsE k a1 a2 a3 a4 a5 q (SE.start (st_new BM.out GM.out HO.out)) HQ.out).mono ?_; rintro e w9 ⟨rfl, hs, hk⟩; clear hk; obtain ⟨⟨v9, hv⟩, hk, hB⟩ := hs; obtain ⟨A9, c9, e9⟩ := Kd.R_slice hv.2.2; subst e9; have HV := Aside0.mk hv; have BW := Aside0.mk (blk_keepT (blk_far (blk_far BK.out (p := ⟨gm, 0, none⟩) NEM.out _) (p := ⟨gm, 1, none⟩) NEM.out _) hk (by decide) (by decide)); have n0_ := Aside0.mk ((below_set (j := 1) (v := .int .i64 0) (below_set (j := 0) (v := .slice A5 lc.length c5) HB.out GM.out) GM.out).trans hB); clear HB BK HO BM hk hB hv; have HB := n0_; have BK := BW; clear n0_ BW; (try clear m0_ m1_ mf0_ mf1_); have m0_ : w9.cell? ⟨gm, 0, none⟩ = some _ := (blk_cell HV.out.1 0).trans rfl; have m1_ : w9.cell? ⟨gm, 1, none⟩ = some (.int .i64 q.2.2) := (blk_cell HV.out.1 1).trans rfl; (try clear q0_ q1_ q2_ f0_ f1_ f2_); have q0_ : w9.cell? ⟨g12, 0, none⟩ = some (.int .i64 0) := (blk_cell BK.out 0).trans rfl; have q1_ : w9.cell? ⟨g12, 1, none⟩ = some (.int .i64 0) := (blk_cell BK.out 1).trans rfl; have q2_ : w9.cell? ⟨g12, 2, none⟩ = some (.slice none 0 0) := (blk_cell BK.out 2).trans rfl; have f0_ := blk_frozen BK.out 0; have f1_ := blk_frozen BK.out 1; have f2_ := blk_frozen BK.out 2))
        refine bodyPost_ret (results_cell_row rfl _ _ g12 30 #[.int .i64 q.2.2, .int .i64 0, .slice none 0 0] (0, 0) _ rfl (blk_put (blk_put (blk_put BK.out 0 _ rfl) 1 _ rfl) 2 _ rfl) Try.underlying30 rfl (by kernel_rfl)) rfl ?_
        exact ⟨_, rfl, Kd.R_nil _ _ _ _ _, below_set (below_set (below_set HB.out GE.out) GE.out) GE.out⟩
  · rw [if_neg hz] at h
    have hz0 : (c == 0) = false := by simpa using hz
    have hz1 : (c != 0) = true := by simpa using hz
    simp only [Option.some.injEq, Prod.mk.injEq] at h
    obtain ⟨rfl, rfl, rfl⟩ := h
    go_enter Try.func33, Try.ntmps33
    go_wp2_with (first | ((with_reducible refine gate_dst (N := 12) rfl ?_); refine box_event ?hg (N := 12) ?hd (cs := #[.int .i64 0, .int .i64 0, .slice none 0 0]) (t := 30) ?hr ?_; (case hd => rfl); (case hg => rfl); (case hr => first | (go_simp; done) | (go_simp; rfl)); intro g12 hg w2 hbox hb; have n0_ := Aside0.mk (below_step HB.out hb); have BK := Aside0.mk hbox; have GE := Aside0.mk (show w.heap.size ≤ g12 by rw [hg]; exact below_size HB.out); clear HB; have HB := n0_; clear n0_ hb hbox hg; (try clear q0_ q1_ q2_ f0_ f1_ f2_); have q0_ : w2.cell? ⟨g12, 0, none⟩ = some (.int .i64 0) := (blk_cell BK.out 0).trans rfl; have q1_ : w2.cell? ⟨g12, 1, none⟩ = some (.int .i64 0) := (blk_cell BK.out 1).trans rfl; have q2_ : w2.cell? ⟨g12, 2, none⟩ = some (.slice none 0 0) := (blk_cell BK.out 2).trans rfl; have f0_ := blk_frozen BK.out 0; have f1_ := blk_frozen BK.out 1; have f2_ := blk_frozen BK.out 2) | ((with_reducible refine gate_dst (N := 21) rfl ?_); refine Kd.R_lit (Kd.int .i64) _ 2 ?hg (N := 21) ?hd (xs := ([a1, a2, a3, a4] : List Int)) (inner := [.int .i64 a1, .int .i64 a2, .int .i64 a3, .int .i64 a4]) (ok := fun _ => True) (okp := fun _ => True) ?hr ?hp (fun _ hk => hk) trivial (Below.refl _ _) (Nat.le_refl _) (by simp) ?_; (case hd => rfl); (case hg => rfl); (case hr => first | (go_simp; done) | (go_simp; rfl)); (case hp => exact reps_ints _); intro v1 w1 ho hb hg hn; clear hg hn; obtain ⟨AP, cP, eP⟩ := Kd.R_slice ho; subst eP; have HP := Aside0.mk ho; clear ho; have n0_ := Aside0.mk (below_step HB.out hb); have n1_ := Aside0.mk (blk_below BK.out hb); clear HB BK; have HB := n0_; have BK := n1_; clear n0_ n1_; clear hb; (try clear q0_ q1_ q2_ f0_ f1_ f2_); have q0_ : w1.cell? ⟨g12, 0, none⟩ = some (.int .i64 0) := (blk_cell BK.out 0).trans rfl; have q1_ : w1.cell? ⟨g12, 1, none⟩ = some (.int .i64 0) := (blk_cell BK.out 1).trans rfl; have q2_ : w1.cell? ⟨g12, 2, none⟩ = some (.slice none 0 0) := (blk_cell BK.out 2).trans rfl; have f0_ := blk_frozen BK.out 0; have f1_ := blk_frozen BK.out 1; have f2_ := blk_frozen BK.out 2) | (go_at_call 74; refine (spec_l9Asked.calls k A0 c0 l0 AP cP [a1, a2, a3, a4] _ _ (Kd.C_below HR.out HB.out) HC.out (Kd.R_reads' HP.out).2.2 (Kd.R_reads' HP.out).2.1 HF.out).mono ?_; rintro e w4 ⟨rfl, hb⟩; have n0_ := Aside0.mk (below_step HB.out hb); have n1_ := Aside0.mk (blk_below BK.out hb); have n2_ := Aside0.mk (Kd.R_below HP.out hb); clear HB BK HP; have HB := n0_; have BK := n1_; have HP := n2_; clear n0_ n1_ n2_; clear hb; (try clear q0_ q1_ q2_ f0_ f1_ f2_); have q0_ : w4.cell? ⟨g12, 0, none⟩ = some (.int .i64 0) := (blk_cell BK.out 0).trans rfl; have q1_ : w4.cell? ⟨g12, 1, none⟩ = some (.int .i64 0) := (blk_cell BK.out 1).trans rfl; have q2_ : w4.cell? ⟨g12, 2, none⟩ = some (.slice none 0 0) := (blk_cell BK.out 2).trans rfl; have f0_ := blk_frozen BK.out 0; have f1_ := blk_frozen BK.out 1; have f2_ := blk_frozen BK.out 2))
    refine bodyPost_ret (results_cell_row rfl _ _ g12 30 #[.int .i64 c, .int .i64 0, .slice none 0 0] (0, 0) _ rfl (blk_put (blk_put (blk_put BK.out 0 _ rfl) 1 _ rfl) 2 _ rfl) Try.underlying30 rfl (by kernel_rfl)) rfl ?_
    exact ⟨_, rfl, Kd.R_nil _ _ _ _ _, below_set (below_set (below_set HB.out GE.out) GE.out) GE.out⟩
end Go.Proofs.Ytomaeijhljpgdaa.G
namespace Go.Proofs.Ytomaeijhljpgdaa.G
open Go.RowKit Go.Proofs.YtomaeijhljpgdaaW.PrintWords Go.Proofs.YtomaeijhljpgdaaW.PrintLast Go.Proofs.YtomaeijhljpgdaaW.PrintMore
attribute [local go_sem] max2_int min2_int max_two min_two max_three min_three max_four min_four   -- for this text's walks alone
set_option linter.unusedVariables false
set_option linter.unusedSimpArgs false
set_option maxHeartbeats 4000000 in
set_option maxRecDepth 100000 in
theorem impl_sheet_told.calls (S N : Nat) (l : List S26) (full : Bool) (at_ : Int) (w : World) (hS : Sheet w N S l full) (hN : N ≤ w.heap.size) :
    Calls Try.prog 55 #[.pointer (some ⟨S, 0, none⟩), .int .i64 at_] w fun e w' => ∃ v, e = .returned (.agg #[.int .i64 (if full = true then 2 else 0), .int .i64 (if full = true then 0 else at_), v]) ∧ k26.R 26 w' N (fun _ => True) v (if full = true then [] else l) ∧ Below N w w' := by
  obtain ⟨v, hb, hns, hr⟩ := hS
  obtain ⟨A, c, rfl⟩ := Kd.R_slice hr
  have BS := Aside0.mk hb
  have HNS := Aside0.mk hns
  have HO := Aside0.mk hr
  have HN := Aside0.mk hN
  have HB := Aside0.mk (Below.refl N w)
  clear hb hns hr hN
  cases full with
  | true =>
    go_enter Try.func55, Try.ntmps55
    go_wp2_with (first | ((with_reducible refine gate_dst (N := 4) rfl ?_); refine box_event ?hg (N := 4) ?hd (cs := #[.int .i64 0, .int .i64 0, .slice none 0 0]) (t := 30) ?hr ?_; (case hd => rfl); (case hg => rfl); (case hr => first | (go_simp; done) | (go_simp; rfl)); intro g4 hg w2 hbox hb; have n0_ := Aside0.mk (below_stepN HB.out (Nat.le_trans HN.out HB.out.size) hb); have n1_ := Aside0.mk hbox; have n2_ := Aside0.mk (blk_below BS.out hb); have n3_ := Aside0.mk (Kd.R_below HO.out hb); have n4_ := Aside0.mk (show S ≠ g4 by rw [hg]; exact Nat.ne_of_lt (blk_lt BS.out)); have n5_ := Aside0.mk (show N ≤ g4 by rw [hg]; exact Nat.le_trans HN.out HB.out.size); have n6_ := Aside0.mk (show ∀ k, (.slice A l.length c : Value).ownBlock = some k → k ≠ g4 from fun k hk => by obtain ⟨_, hi⟩ := Kd.R_own HO.out; rw [hg]; exact Nat.ne_of_lt (own_lt hi k hk)); clear HB BS HO; have HB := n0_; have B4 := n1_; have BS := n2_; have HO := n3_; have NE4 := n4_; have GE4 := n5_; have OW4 := n6_; clear n0_ n1_ n2_ n3_ n4_ n5_ n6_ hb hbox hg; have p0_ : w2.cell? ⟨S, 0, none⟩ = some (.slice A l.length c) := (blk_cell BS.out 0).trans rfl; have p1_ : w2.cell? ⟨S, 1, none⟩ = some (.bool true) := (blk_cell BS.out 1).trans rfl; have q0_ : w2.cell? ⟨g4, 0, none⟩ = some (.int .i64 0) := (blk_cell B4.out 0).trans rfl; have q1_ : w2.cell? ⟨g4, 1, none⟩ = some (.int .i64 0) := (blk_cell B4.out 1).trans rfl; have q2_ : w2.cell? ⟨g4, 2, none⟩ = some (.slice none 0 0) := (blk_cell B4.out 2).trans rfl; have f0_ := blk_frozen B4.out 0; have f1_ := blk_frozen B4.out 1; have f2_ := blk_frozen B4.out 2; have hne_ := NE4.out; have hne2_ := NE4.out.symm))
    refine bodyPost_ret (results_cell_row rfl _ _ g4 30 #[.int .i64 2, .int .i64 0, .slice none 0 0] (0, 0) _ rfl (blk_put (blk_put (blk_put B4.out 0 _ rfl) 1 _ rfl) 2 _ rfl) Try.underlying30 rfl (by kernel_rfl)) rfl ?_
    exact ⟨_, rfl, Kd.R_nil _ _ _ _ _, ((HB.out.setCell (p := ⟨g4, 0, none⟩) GE4.out _).setCell (p := ⟨g4, 1, none⟩) GE4.out _).setCell (p := ⟨g4, 2, none⟩) GE4.out _⟩
  | false =>
    go_enter Try.func55, Try.ntmps55
    go_wp2_with (first | ((with_reducible refine gate_dst (N := 4) rfl ?_); refine box_event ?hg (N := 4) ?hd (cs := #[.int .i64 0, .int .i64 0, .slice none 0 0]) (t := 30) ?hr ?_; (case hd => rfl); (case hg => rfl); (case hr => first | (go_simp; done) | (go_simp; rfl)); intro g4 hg w2 hbox hb; have n0_ := Aside0.mk (below_stepN HB.out (Nat.le_trans HN.out HB.out.size) hb); have n1_ := Aside0.mk hbox; have n2_ := Aside0.mk (blk_below BS.out hb); have n3_ := Aside0.mk (Kd.R_below HO.out hb); have n4_ := Aside0.mk (show S ≠ g4 by rw [hg]; exact Nat.ne_of_lt (blk_lt BS.out)); have n5_ := Aside0.mk (show N ≤ g4 by rw [hg]; exact Nat.le_trans HN.out HB.out.size); have n6_ := Aside0.mk (show ∀ k, (.slice A l.length c : Value).ownBlock = some k → k ≠ g4 from fun k hk => by obtain ⟨_, hi⟩ := Kd.R_own HO.out; rw [hg]; exact Nat.ne_of_lt (own_lt hi k hk)); clear HB BS HO; have HB := n0_; have B4 := n1_; have BS := n2_; have HO := n3_; have NE4 := n4_; have GE4 := n5_; have OW4 := n6_; clear n0_ n1_ n2_ n3_ n4_ n5_ n6_ hb hbox hg; have p0_ : w2.cell? ⟨S, 0, none⟩ = some (.slice A l.length c) := (blk_cell BS.out 0).trans rfl; have p1_ : w2.cell? ⟨S, 1, none⟩ = some (.bool false) := (blk_cell BS.out 1).trans rfl; have q0_ : w2.cell? ⟨g4, 0, none⟩ = some (.int .i64 0) := (blk_cell B4.out 0).trans rfl; have q1_ : w2.cell? ⟨g4, 1, none⟩ = some (.int .i64 0) := (blk_cell B4.out 1).trans rfl; have q2_ : w2.cell? ⟨g4, 2, none⟩ = some (.slice none 0 0) := (blk_cell B4.out 2).trans rfl; have f0_ := blk_frozen B4.out 0; have f1_ := blk_frozen B4.out 1; have f2_ := blk_frozen B4.out 2; have hne_ := NE4.out; have hne2_ := NE4.out.symm))
    refine bodyPost_ret (results_cell_row rfl _ _ g4 30 #[.int .i64 0, .int .i64 at_, .slice A l.length c] (0, 0) _ rfl (blk_put (blk_put (blk_put B4.out 0 _ rfl) 1 _ rfl) 2 _ rfl) Try.underlying30 rfl (by kernel_rfl)) rfl ?_
    refine ⟨_, rfl, ?_, ((HB.out.setCell (p := ⟨g4, 0, none⟩) GE4.out _).setCell (p := ⟨g4, 1, none⟩) GE4.out _).setCell (p := ⟨g4, 2, none⟩) GE4.out _⟩
    exact Kd.R_mono (Kd.R_far (Kd.R_far (Kd.R_far (R_not HO.out OW4.out) (p := ⟨g4, 0, none⟩) (fun k hk => hk) _) (p := ⟨g4, 1, none⟩) (fun k hk => hk) _) (p := ⟨g4, 2, none⟩) (fun k hk => hk) _) (fun _ _ => trivial)
end Go.Proofs.Ytomaeijhljpgdaa.G
namespace Go.Proofs.Ytomaeijhljpgdaa.G
open Go.RowKit Go.Proofs.YtomaeijhljpgdaaW.PrintWords Go.Proofs.YtomaeijhljpgdaaW.PrintLast Go.Proofs.YtomaeijhljpgdaaW.PrintMore
attribute [local go_sem] max2_int min2_int max_two min_two max_three min_three max_four min_four   -- for this text's walks alone
set_option linter.unusedVariables false
set_option linter.unusedSimpArgs false
def toldP (r : Int × List S26 × Bool) : Int × Int × List S26 := if r.2.2 = true then (2, 0, []) else (0, r.1, r.2.1)
theorem impl_sheet_told.calls' (S N : Nat) (l : List S26) (full : Bool) (at_ : Int) (r1 r2 : Int) (r3 : List S26) (w : World) (hS : Sheet w N S l full) (hN : N ≤ w.heap.size) (h : toldP (at_, l, full) = (r1, r2, r3)) :
    Calls Try.prog 55 #[.pointer (some ⟨S, 0, none⟩), .int .i64 at_] w fun e w' => ∃ v, e = .returned (.agg #[.int .i64 r1, .int .i64 r2, v]) ∧ k26.R 26 w' N (fun _ => True) v r3 ∧ Below N w w' := by
  refine (impl_sheet_told.calls S N l full at_ w hS hN).mono ?_
  rintro e w' ⟨v, he, ho, hb⟩
  unfold toldP at h
  cases full with
  | true =>
    simp only [if_true, Prod.mk.injEq] at h he ho
    obtain ⟨rfl, rfl, rfl⟩ := h
    exact ⟨v, he, ho, hb⟩
  | false =>
    simp only [Bool.false_eq_true, if_false, Prod.mk.injEq] at h he ho
    obtain ⟨rfl, rfl, rfl⟩ := h
    exact ⟨v, he, ho, hb⟩
end Go.Proofs.Ytomaeijhljpgdaa.G
namespace Go.Proofs.Ytomaeijhljpgdaa.G
open Go.RowKit Go.Proofs.YtomaeijhljpgdaaW.PrintWords Go.Proofs.YtomaeijhljpgdaaW.PrintLast Go.Proofs.YtomaeijhljpgdaaW.PrintMore
attribute [local go_sem] max2_int min2_int max_two min_two max_three min_three max_four min_four   -- for this text's walks alone
set_option linter.unusedVariables false
set_option linter.unusedSimpArgs false
set_option maxHeartbeats 4000000 in
set_option maxRecDepth 100000 in
theorem impl_placesFault_1.calls (A0 : Option Addr) (n c0 B : Nat) (x : Int) (hn : n ≤ 9223372036854775807) (W : World) (hc : W.cell? ⟨B, 0, none⟩ = some (.slice A0 n c0)) :
    Calls Try.prog 94 (#[.int .i64 x] ++ #[.pointer (some ⟨B, 0, none⟩)]) W fun e w' => e = .returned (.bool (!decide (0 ≤ x ∧ x ≤ (n : Int) - 1))) ∧ Below W.heap.size W w' := by
  have hC := fun W' => impl_isPlace.calls A0 n c0 x hn W'
  generalize decide (0 ≤ x ∧ x ≤ (n : Int) - 1) = r at hC ⊢
  go_enter Try.func94, Try.ntmps94
  go_wp2_with (go_at_call 88; refine (hC _).mono ?_; rintro e w' ⟨rfl, hb⟩)
  go_ret
  exact ⟨rfl, hb⟩
def impl_placesFault.f (l0 : List S26) (l1 : List Int) : Option Int := (impl_TermsFault.f l0).bind fun c => (if c = 0 then (if l1.any (notIn l0) = true then some 3 else some 0) else some c)
set_option maxHeartbeats 4000000 in
set_option maxRecDepth 100000 in
theorem impl_placesFault.calls (A0 : Option Addr) (c0 : Nat) (l0 : List S26) (A1 : Option Addr) (c1 : Nat) (l1 : List Int) (r : Int) (w : World) (hr0 : Kd.C k26 w A0 l0.length l0) (hc0 : l0.length ≤ c0) (hr1 : Kd.C (Kd.int .i64) w A1 l1.length l1) (hc1 : l1.length ≤ c1) (h : impl_placesFault.f l0 l1 = some r) :
    Calls Try.prog 60 #[.slice A0 l0.length c0, .slice A1 l1.length c1] w fun e w' => e = .returned (.int .i64 r) ∧ Below w.heap.size w w' := by
  unfold impl_placesFault.f at h
  have hmf : ∀ (fn : Fn) (first cap : Array Value) (w : World), (Instr.makeFunc fn first cap).run Try.prog w = .ok (.func fn first cap) w := fun _ _ _ _ => rfl
  obtain ⟨c, hc, h⟩ := Option.bind_eq_some_iff.mp h
  have HF := Aside0.mk hc
  have HR0 := Aside0.mk hr0
  have HC0 := Aside0.mk hc0
  have HR1 := Aside0.mk hr1
  have HN0 := Aside0.mk hr0.2.1
  have HN1 := Aside0.mk hr1.2.1
  have HB := Aside0.mk (Below.refl w.heap.size w)
  clear hc hr0 hc0 hr1
  by_cases hz : c = 0
  · rw [if_pos hz] at h
    have hz0 : (c == 0) = true := by simpa using hz
    have hz1 : (c != 0) = false := by simpa using hz
    clear hz
    obtain ⟨b, hb⟩ : ∃ b, b = l1.any (notIn l0) := ⟨_, rfl⟩
    rw [← hb] at h
    have HBE := Aside0.mk hb.symm
    clear hb
    cases b with
    | true =>
      rw [if_pos rfl] at h
      obtain rfl := Option.some.inj h
      go_enter Try.func60, Try.ntmps60
      go_wp2_with (first | ((with_reducible refine gate_dst (N := 2) rfl ?_); refine box_event ?hg (N := 2) ?hd (cs := #[.slice A0 l0.length c0]) (t := 24) ?hr ?_; (case hd => rfl); (case hg => rfl); (case hr => first | (go_simp; done) | (go_simp; rfl)); intro g2 hg w2 hbox hb; have n0_ := Aside0.mk (below_step HB.out hb); have n1_ := Aside0.mk hbox; clear HB; have HB := n0_; have BK2 := n1_; clear n0_ n1_ hb hbox hg; have p0_ : w2.cell? ⟨g2, 0, none⟩ = some (.slice A0 l0.length c0) := (blk_cell BK2.out 0).trans rfl) | (go_at_call 14; with_reducible refine (impl_TermsFault.calls A0 c0 l0 c _ (Kd.C_below HR0.out HB.out) HC0.out HF.out).mono ?_; rintro e w3 ⟨rfl, hb⟩; have n0_ := Aside0.mk (below_step HB.out hb); have n1_ := Aside0.mk (blk_below BK2.out hb); clear HB BK2 hb p0_; have HB := n0_; have BK2 := n1_; clear n0_ n1_) | (go_at_call 85; refine (slices_ContainsFunc_int64_int64.calls 94 #[.pointer (some ⟨g2, 0, none⟩)] (notIn l0) A1 c1 l1 _ (enters_of Try.func94 (by kernel_rfl) rfl) (fun W x _ hB => (impl_placesFault_1.calls A0 l0.length c0 g2 x HN0.out W ((hB.cell (p := ⟨g2, 0, none⟩) (blk_lt BK2.out)).trans ((blk_cell BK2.out 0).trans rfl))).mono (fun _ _ h => ⟨h.1, below_step hB h.2⟩)) (Kd.C_below HR1.out HB.out) HN1.out).mono ?_; rintro e w4 ⟨he, hb⟩; rw [HBE.out] at he; subst he; have n0_ := Aside0.mk (below_step HB.out hb); clear HB hb; have HB := n0_; clear n0_))
      go_ret
      exact ⟨rfl, HB.out⟩
    | false =>
      rw [if_neg (by decide)] at h
      obtain rfl := Option.some.inj h
      go_enter Try.func60, Try.ntmps60
      go_wp2_with (first | ((with_reducible refine gate_dst (N := 2) rfl ?_); refine box_event ?hg (N := 2) ?hd (cs := #[.slice A0 l0.length c0]) (t := 24) ?hr ?_; (case hd => rfl); (case hg => rfl); (case hr => first | (go_simp; done) | (go_simp; rfl)); intro g2 hg w2 hbox hb; have n0_ := Aside0.mk (below_step HB.out hb); have n1_ := Aside0.mk hbox; clear HB; have HB := n0_; have BK2 := n1_; clear n0_ n1_ hb hbox hg; have p0_ : w2.cell? ⟨g2, 0, none⟩ = some (.slice A0 l0.length c0) := (blk_cell BK2.out 0).trans rfl) | (go_at_call 14; with_reducible refine (impl_TermsFault.calls A0 c0 l0 c _ (Kd.C_below HR0.out HB.out) HC0.out HF.out).mono ?_; rintro e w3 ⟨rfl, hb⟩; have n0_ := Aside0.mk (below_step HB.out hb); have n1_ := Aside0.mk (blk_below BK2.out hb); clear HB BK2 hb p0_; have HB := n0_; have BK2 := n1_; clear n0_ n1_) | (go_at_call 85; refine (slices_ContainsFunc_int64_int64.calls 94 #[.pointer (some ⟨g2, 0, none⟩)] (notIn l0) A1 c1 l1 _ (enters_of Try.func94 (by kernel_rfl) rfl) (fun W x _ hB => (impl_placesFault_1.calls A0 l0.length c0 g2 x HN0.out W ((hB.cell (p := ⟨g2, 0, none⟩) (blk_lt BK2.out)).trans ((blk_cell BK2.out 0).trans rfl))).mono (fun _ _ h => ⟨h.1, below_step hB h.2⟩)) (Kd.C_below HR1.out HB.out) HN1.out).mono ?_; rintro e w4 ⟨he, hb⟩; rw [HBE.out] at he; subst he; have n0_ := Aside0.mk (below_step HB.out hb); clear HB hb; have HB := n0_; clear n0_))
      go_ret
      exact ⟨rfl, HB.out⟩
  · rw [if_neg hz] at h
    obtain rfl := Option.some.inj h
    have hz0 : (c == 0) = false := by simpa using hz
    have hz1 : (c != 0) = true := by simpa using hz
    go_enter Try.func60, Try.ntmps60
    go_wp2_with (first | ((with_reducible refine gate_dst (N := 2) rfl ?_); refine box_event ?hg (N := 2) ?hd (cs := #[.slice A0 l0.length c0]) (t := 24) ?hr ?_; (case hd => rfl); (case hg => rfl); (case hr => first | (go_simp; done) | (go_simp; rfl)); intro g2 hg w2 hbox hb; have n0_ := Aside0.mk (below_step HB.out hb); have n1_ := Aside0.mk hbox; clear HB; have HB := n0_; have BK2 := n1_; clear n0_ n1_ hb hbox hg; have p0_ : w2.cell? ⟨g2, 0, none⟩ = some (.slice A0 l0.length c0) := (blk_cell BK2.out 0).trans rfl) | (go_at_call 14; with_reducible refine (impl_TermsFault.calls A0 c0 l0 c _ (Kd.C_below HR0.out HB.out) HC0.out HF.out).mono ?_; rintro e w3 ⟨rfl, hb⟩; have n0_ := Aside0.mk (below_step HB.out hb); have n1_ := Aside0.mk (blk_below BK2.out hb); clear HB BK2 hb p0_; have HB := n0_; have BK2 := n1_; clear n0_ n1_))
    go_ret
    exact ⟨rfl, HB.out⟩
end Go.Proofs.Ytomaeijhljpgdaa.G
namespace Go.Proofs.Ytomaeijhljpgdaa.G
open Go.RowKit Go.Proofs.YtomaeijhljpgdaaW.PrintWords Go.Proofs.YtomaeijhljpgdaaW.PrintLast Go.Proofs.YtomaeijhljpgdaaW.PrintMore
attribute [local go_sem] max2_int min2_int max_two min_two max_three min_three max_four min_four   -- for this text's walks alone
set_option linter.unusedVariables false
set_option linter.unusedSimpArgs false
def impl_isName.f (a0 : Int) : Option (Bool) := (impl_in.f a0 0 9999).bind fun t476 => (some t476)
set_option maxHeartbeats 8000000 in
set_option maxRecDepth 100000 in
theorem impl_isName.calls (a0 : Int) (r : Bool) (w : World) (h : impl_isName.f a0 = some r) :
  Calls Try.prog 101 #[.int .i64 a0] w fun e w' => e = .returned (.bool r) ∧ Drawn0 w w' := by
 have H : ((impl_in.f a0 0 9999).bind fun t476 => (some t476)) = some r := h
 clear h
 replace H := Option.bind_eq_some_iff.mp H
 obtain ⟨t476, A20, H⟩ := H
 try dsimp only at H
 have A2 := Aside0.mk A20
 clear A20
 obtain rfl := Option.some.inj H
 go_enter Try.func101, Try.ntmps101
 go_wp2_with (first | ((with_reducible refine gate_callee (f := 64) rfl ?_); refine goesL_ (some 4) rfl rfl Try.func64 (by kernel_rfl) rfl #[.int .i64 a0, .int .i64 0, .int .i64 9999] rfl (by (try simp only [List.map_toArray, List.map_cons, List.map_nil]); first | done | rfl | (simp only [List.length_drop, List.length_take]; rfl)) ?_; (with_reducible refine (impl_in.calls a0 0 9999 t476 _ A2.out).mono ?_); rintro e w' ⟨rfl, ⟨nd, rfl⟩⟩; refine ⟨_, rfl, ?_⟩))
 go_ret
 exact ⟨by first | rfl | (simp; done) | (simp [*]; done), by repeat (first | exact Drawn0.refl _ | apply Drawn0.step)⟩
end Go.Proofs.Ytomaeijhljpgdaa.G
namespace Go.Proofs.Ytomaeijhljpgdaa.G
open Go.RowKit Go.Proofs.YtomaeijhljpgdaaW.PrintWords Go.Proofs.YtomaeijhljpgdaaW.PrintLast Go.Proofs.YtomaeijhljpgdaaW.PrintMore
attribute [local go_sem] max2_int min2_int max_two min_two max_three min_three max_four min_four   -- for this text's walks alone
set_option linter.unusedVariables false
set_option linter.unusedSimpArgs false
def impl_namesFault.l0 : Nat → Int → List Int → Int → Int → Option (Int)
 | 0, _, _, _, _ => none
 | k + 1, x7, x13, x14, x15 => if x15 < x14 then (if 0 ≤ x15 then (if x15 < (x13.length : Int) then (if x7 = 0 then ((impl_isName.f (rd x13 x15)).bind fun t479 => (if t479 = true then (impl_namesFault.l0 k x7 x13 x14 (wrap64 (x15 + 1))) else (impl_namesFault.l0 k 3 x13 x14 (wrap64 (x15 + 1))))) else (impl_namesFault.l0 k x7 x13 x14 (wrap64 (x15 + 1)))) else (none)) else (none)) else (some x7)
def impl_namesFault.f (k : Nat) (l0 : List (S26)) (l1 : List Int) (l2 : List Int) : Option (Int) := (impl_placesFault.f l0 l2).bind fun t477 => (impl_namesFault.l0 k t477 l1 (l1.length : Int) 0)
set_option maxHeartbeats 8000000 in
set_option maxRecDepth 100000 in
theorem impl_namesFault.calls (k : Nat) (A0 : Option Addr) (c0 : Nat) (l0 : List (S26)) (A1 : Option Addr) (c1 : Nat) (l1 : List Int) (A2 : Option Addr) (c2 : Nat) (l2 : List Int) (r : Int) (w : World) (hr0 : Kd.C k26 w A0 l0.length l0) (hc0 : l0.length ≤ c0) (hr1 : Kd.C (Kd.int .i64) w A1 l1.length l1) (hc1 : l1.length ≤ c1) (hr2 : Kd.C (Kd.int .i64) w A2 l2.length l2) (hc2 : l2.length ≤ c2) (h : impl_namesFault.f k l0 l1 l2 = some r) :
  Calls Try.prog 70 #[.slice A0 l0.length c0, .slice A1 l1.length c1, .slice A2 l2.length c2] w fun e w' => e = .returned (.int .i64 r) ∧ Below w.heap.size w w' := by
 have HR0 := Aside0.mk hr0
 have HC0 := Aside0.mk hc0
 clear hr0 hc0
 have HR1 := Aside0.mk hr1
 have HC1 := Aside0.mk hc1
 clear hr1 hc1
 have HR2 := Aside0.mk hr2
 have HC2 := Aside0.mk hc2
 clear hr2 hc2
 have HB := Aside0.mk (Below.refl w.heap.size w)
 have H : ((impl_placesFault.f l0 l2).bind fun t477 => (impl_namesFault.l0 k t477 l1 (l1.length : Int) 0)) = some r := h
 clear h
 replace H := Option.bind_eq_some_iff.mp H
 obtain ⟨t477, A40, H⟩ := H
 try dsimp only at H
 have A4 := Aside0.mk A40
 clear A40
 have H' := Aside0.mk H
 clear H
 go_enter Try.func70, Try.ntmps70
 go_wp2_with (first | ((with_reducible refine gate_callee (f := 60) rfl ?_); refine goesL_ (some 12) rfl rfl Try.func60 (by kernel_rfl) rfl #[.slice A0 l0.length c0, .slice A2 l2.length c2] rfl (by (try simp only [List.map_toArray, List.map_cons, List.map_nil]); first | done | rfl | (simp only [List.length_drop, List.length_take]; rfl)) ?_; (with_reducible refine (impl_placesFault.calls _ _ l0 _ _ l2 t477 _ ?side1 ?side2 ?side3 ?side4 A4.out).mono ?_); (case side1 => repeat (first | exact HR0.out | (with_reducible refine Kd.C_alloc ?_ _) | (with_reducible refine Kd.C_drewN ?_ _) | (with_reducible refine Kd.C_drew ?_))); (case side2 => exact HC0.out); (case side3 => repeat (first | exact HR2.out | (with_reducible refine Kd.C_alloc ?_ _) | (with_reducible refine Kd.C_drewN ?_ _) | (with_reducible refine Kd.C_drew ?_))); (case side4 => exact HC2.out); rintro e w5 ⟨rfl, hb⟩; refine ⟨_, rfl, ?_⟩; have n0_ := Aside0.mk (below_step (by repeat (first | (with_reducible first | exact HB.out | apply below_alloc | apply pw_below_drewN | apply below_drew1) | exact HB.out)) hb); clear HB; have HB := n0_; clear n0_; (try clear hb); (try clear hb2); (try clear hk); (try clear hi)))
 go_loopg [7, 15] k (fun kq v7 v15 w' => ∃ (x7_1 : Int) (x15_1 : Int), v7 = .int .i64 x7_1 ∧ v15 = .int .i64 x15_1 ∧ Aside0 (impl_namesFault.l0 kq x7_1 l1 (l1.length : Int) x15_1 = some r) ∧ Aside0 (kq ≤ k) ∧ Aside0 (Below w.heap.size w w'))
 case atStart => exact ⟨(t477), (0), (by first | rfl | (simp; done) | (simp [*]; done)), (by first | rfl | (simp; done) | (simp [*]; done)), H', ⟨Nat.le_refl _⟩, ⟨by repeat (first | (with_reducible first | exact HB.out | apply below_alloc | apply pw_below_drewN | apply below_drew1) | exact HB.out)⟩⟩
 case round =>
  clear H'
  try clear c1
  try clear c2
  try clear p2
  obtain ⟨x7_1, x15_1, rfl, rfl, HA, HK1, HB⟩ := hrel
  cases gk with
  | zero => exact absurd HA.out (by simp [impl_namesFault.l0])
  | succ k1 =>
   have H := HA.out
   clear HA
   simp only [impl_namesFault.l0] at H
   by_cases c6 : x15_1 < (l1.length : Int)
   ·rw [if_pos c6] at H
    have c6b0 : decide (x15_1 < (l1.length : Int)) = true := decide_eq_true c6
    clear c6
    by_cases c7 : 0 ≤ x15_1
    ·rw [if_pos c7] at H
     have c7b0 : decide (0 ≤ x15_1) = true := decide_eq_true c7
     clear c7
     by_cases c8 : x15_1 < (l1.length : Int)
     ·rw [if_pos c8] at H
      have c8b0 : decide (x15_1 < (l1.length : Int)) = true := decide_eq_true c8
      clear c8
      by_cases c9 : x7_1 = 0
      ·rw [if_pos c9] at H
       have c9b0 : (x7_1 == 0) = true := beq_iff_eq.mpr c9
       have c9b1 : (x7_1 != 0) = false := bne_eq_false_iff_eq.mpr c9
       clear c9
       replace H := Option.bind_eq_some_iff.mp H
       obtain ⟨t479, A100, H⟩ := H
       try dsimp only at H
       have A10 := Aside0.mk A100
       clear A100
       by_cases c11 : t479 = true
       ·subst c11
        rw [if_pos rfl] at H
        have H' := Aside0.mk H
        clear H
        have p478 : 0 ≤ (x15_1 : Int) := of_decide_eq_true (by first | (with_reducible assumption) | assumption)
        have q478 : x15_1 < (l1.length : Int) := of_decide_eq_true (by first | (with_reducible assumption) | assumption)
        obtain ⟨ad478, e478, hx478_0⟩ := Kd.at_int HR1.out x15_1 p478 q478
        cases e478
        replace hx478_0 := (HB.out.cell (World.block_lt_of_cell? w _ hx478_0)).trans hx478_0
        replace p478 := eq_true p478
        replace q478 := eq_true q478
        go_wp2_with (first | (go_at_call 101; (with_reducible refine (impl_isName.calls (rd l1 x15_1) true _ A10.out).mono ?_); rintro e w' ⟨rfl, ⟨nd, rfl⟩⟩))
        go_roundg k1
        case measure => have := HK1.out; omega
        case rel => exact ⟨(x7_1), (wrap64 (x15_1 + 1)), (by first | rfl | (simp; done) | (simp [*]; done)), (by first | rfl | (simp; done) | (simp [*]; done)), H', ⟨by have := HK1.out; omega⟩, ⟨by repeat (first | (with_reducible first | exact HB.out | apply below_alloc | apply pw_below_drewN | apply below_drew1) | exact HB.out)⟩⟩
       ·replace c11 := Bool.eq_false_iff.mpr c11
        subst c11
        rw [if_neg (show ¬ (false = true) by decide)] at H
        have H' := Aside0.mk H
        clear H
        have p478 : 0 ≤ (x15_1 : Int) := of_decide_eq_true (by first | (with_reducible assumption) | assumption)
        have q478 : x15_1 < (l1.length : Int) := of_decide_eq_true (by first | (with_reducible assumption) | assumption)
        obtain ⟨ad478, e478, hx478_0⟩ := Kd.at_int HR1.out x15_1 p478 q478
        cases e478
        replace hx478_0 := (HB.out.cell (World.block_lt_of_cell? w _ hx478_0)).trans hx478_0
        replace p478 := eq_true p478
        replace q478 := eq_true q478
        go_wp2_with (first | (go_at_call 101; (with_reducible refine (impl_isName.calls (rd l1 x15_1) false _ A10.out).mono ?_); rintro e w' ⟨rfl, ⟨nd, rfl⟩⟩))
        go_roundg k1
        case measure => have := HK1.out; omega
        case rel => exact ⟨(3), (wrap64 (x15_1 + 1)), (by first | rfl | (simp; done) | (simp [*]; done)), (by first | rfl | (simp; done) | (simp [*]; done)), H', ⟨by have := HK1.out; omega⟩, ⟨by repeat (first | (with_reducible first | exact HB.out | apply below_alloc | apply pw_below_drewN | apply below_drew1) | exact HB.out)⟩⟩
      ·rw [if_neg c9] at H
       have c9b0 : (x7_1 == 0) = false := beq_eq_false_iff_ne.mpr c9
       have c9b1 : (x7_1 != 0) = true := bne_iff_ne.mpr c9
       have H' := Aside0.mk H
       clear H
       have p478 : 0 ≤ (x15_1 : Int) := of_decide_eq_true (by first | (with_reducible assumption) | assumption)
       have q478 : x15_1 < (l1.length : Int) := of_decide_eq_true (by first | (with_reducible assumption) | assumption)
       obtain ⟨ad478, e478, hx478_0⟩ := Kd.at_int HR1.out x15_1 p478 q478
       cases e478
       replace hx478_0 := (HB.out.cell (World.block_lt_of_cell? w _ hx478_0)).trans hx478_0
       replace p478 := eq_true p478
       replace q478 := eq_true q478
       go_wp2
       go_roundg k1
       case measure => have := HK1.out; omega
       case rel => exact ⟨(x7_1), (wrap64 (x15_1 + 1)), (by first | rfl | (simp; done) | (simp [*]; done)), (by first | rfl | (simp; done) | (simp [*]; done)), H', ⟨by have := HK1.out; omega⟩, ⟨by repeat (first | (with_reducible first | exact HB.out | apply below_alloc | apply pw_below_drewN | apply below_drew1) | exact HB.out)⟩⟩
     ·rw [if_neg c8] at H
      exact absurd H (by simp)
    ·rw [if_neg c7] at H
     exact absurd H (by simp)
   ·rw [if_neg c6] at H
    have c6b0 : decide (x15_1 < (l1.length : Int)) = false := decide_eq_false c6
    clear c6
    obtain rfl := Option.some.inj H
    go_wp2
    go_ret
    exact ⟨by first | rfl | (simp [errW_none, errW_some] <;> rfl) | (simp [*, errW_none, errW_some] <;> rfl), by repeat (first | (with_reducible first | exact HB.out | apply below_alloc | apply pw_below_drewN | apply below_drew1) | exact HB.out)⟩
end Go.Proofs.Ytomaeijhljpgdaa.G
namespace Go.Proofs.Ytomaeijhljpgdaa.G
open Go.RowKit Go.Proofs.YtomaeijhljpgdaaW.PrintWords Go.Proofs.YtomaeijhljpgdaaW.PrintLast Go.Proofs.YtomaeijhljpgdaaW.PrintMore
attribute [local go_sem] max2_int min2_int max_two min_two max_three min_three max_four min_four   -- for this text's walks alone
set_option linter.unusedVariables false
set_option linter.unusedSimpArgs false
set_option maxHeartbeats 4000000 in
set_option maxRecDepth 100000 in
theorem impl_sheet_prf.callsV (S N : Nat) (v : Value) (l : List S26) (full : Bool) (a b : Int) (w : World) (hS : SheetV w N S v l full) (hN : N ≤ w.heap.size) (hl : l.length ≤ 400) :
    Calls Try.prog 103 #[.pointer (some ⟨S, 0, none⟩), .int .i64 a, .int .i64 b] w fun e w' => e = .returned (.int .i64 (putT l full ⟨4, a, b, 0⟩).1) ∧ (∃ v', SheetV w' N S v' (putT l full ⟨4, a, b, 0⟩).2.1 (putT l full ⟨4, a, b, 0⟩).2.2 ∧ ∀ k, v'.ownBlock = some k → v.ownBlock = some k ∨ w.heap.size ≤ k) ∧ KeepV w w' S v ∧ Below N w w' := by
  have HC := Aside0.mk (impl_sheet_put.callsV 402 S N v l full 4 a b 0 _ w hS hN (tix_f l hl ⟨4, a, b, 0⟩))
  unfold putT
  clear hS hN
  generalize putP l full ⟨4, a, b, 0⟩ (tix l ⟨4, a, b, 0⟩ 0) = r at HC ⊢
  go_enter Try.func103, Try.ntmps103
  go_wp2_with (go_at_call 56; refine HC.out.mono ?_; rintro e w' ⟨rfl, hs, hk, hb⟩)
  go_ret
  exact ⟨rfl, hs, hk, hb⟩
theorem impl_sheet_prf.callsE {N S : Nat} {w0 w : World} {l : List S26} {full : Bool} (a b : Int) (r : Int × List S26 × Bool) (h : SE 107 N S w0 w l (.bool full)) (hl : l.length ≤ 400) (hr : putT l full ⟨4, a, b, 0⟩ = r) :
    Calls Try.prog 103 #[.pointer (some ⟨S, 0, none⟩), .int .i64 a, .int .i64 b] w fun e w' => e = .returned (.int .i64 r.1) ∧ SE 107 N S w0 w' r.2.1 (.bool r.2.2) ∧ KeepT 107 N w w' := by
  subst hr
  exact SE.call h (fun v hv => (impl_sheet_prf.callsV S N v l full a b w hv hv.size hl).mono (fun e w' ⟨h1, h2⟩ => ⟨h1, se_of_V hv h2⟩))
end Go.Proofs.Ytomaeijhljpgdaa.G
namespace Go.Proofs.Ytomaeijhljpgdaa.G
open Go.RowKit Go.Proofs.YtomaeijhljpgdaaW.PrintWords Go.Proofs.YtomaeijhljpgdaaW.PrintLast Go.Proofs.YtomaeijhljpgdaaW.PrintMore
attribute [local go_sem] max2_int min2_int max_two min_two max_three min_three max_four min_four   -- for this text's walks alone
set_option linter.unusedVariables false
set_option linter.unusedSimpArgs false
def proofT (l : List S26) (full : Bool) (sh fi no ke id_ : Int) : Int × List S26 × Bool :=
  let r1 := putT l full ⟨1, 0, 0, 9⟩
  let r2 := putT r1.2.1 r1.2.2 ⟨4, sh, r1.1, 0⟩
  let r3 := putT r2.2.1 r2.2.2 ⟨1, 0, 0, id_⟩
  let r4 := putT r3.2.1 r3.2.2 ⟨4, ke, r3.1, 0⟩
  let r5 := listP r4.2.1 r4.2.2 [fi, no, r4.1]
  let r6 := putT r5.2.1 r5.2.2 ⟨4, r2.1, r5.1, 0⟩
  (r6.1, r6.2)
set_option maxHeartbeats 4000000 in
set_option maxRecDepth 100000 in
theorem impl_sheet_proof.callsE {N S : Nat} {w0 w : World} {l : List S26} {full : Bool} (sh fi no ke id_ : Int) (rr : Int × List S26 × Bool) (h : SE 107 N S w0 w l (.bool full)) (hl : l.length ≤ 400) (hr : proofT l full sh fi no ke id_ = rr) :
    Calls Try.prog 76 #[.pointer (some ⟨S, 0, none⟩), .int .i64 sh, .int .i64 fi, .int .i64 no, .int .i64 ke, .int .i64 id_] w fun e w' => e = .returned (.int .i64 rr.1) ∧ SE 107 N S w0 w' rr.2.1 (.bool rr.2.2) ∧ KeepT 107 N w w' := by
  refine SE.call h (fun v hv => ?_)
  have HS := Aside0.mk (SE.start hv)
  have HL := Aside0.mk hl
  unfold proofT at hr
  dsimp only at hr
  generalize h1 : putT l full ⟨1, 0, 0, 9⟩ = r1 at hr
  have H1 := Aside0.mk h1
  have HL1 := Aside0.mk (h1 ▸ putT_len HL.out : r1.2.1.length ≤ 400)
  clear h1
  generalize h2 : putT r1.2.1 r1.2.2 ⟨4, sh, r1.1, 0⟩ = r2 at hr
  have H2 := Aside0.mk h2
  have HL2 := Aside0.mk (h2 ▸ putT_len HL1.out : r2.2.1.length ≤ 400)
  clear h2
  generalize h3 : putT r2.2.1 r2.2.2 ⟨1, 0, 0, id_⟩ = r3 at hr
  have H3 := Aside0.mk h3
  have HL3 := Aside0.mk (h3 ▸ putT_len HL2.out : r3.2.1.length ≤ 400)
  clear h3
  generalize h4 : putT r3.2.1 r3.2.2 ⟨4, ke, r3.1, 0⟩ = r4 at hr
  have H4 := Aside0.mk h4
  have HL4 := Aside0.mk (h4 ▸ putT_len HL3.out : r4.2.1.length ≤ 400)
  clear h4
  generalize h5 : listP r4.2.1 r4.2.2 [fi, no, r4.1] = r5 at hr
  have H5 := Aside0.mk h5
  have HL5 := Aside0.mk (h5 ▸ listP_len HL4.out : r5.2.1.length ≤ 400)
  clear h5
  generalize h6 : putT r5.2.1 r5.2.2 ⟨4, r2.1, r5.1, 0⟩ = r6 at hr
  have H6 := Aside0.mk h6
  have HL6 := Aside0.mk (h6 ▸ putT_len HL5.out : r6.2.1.length ≤ 400)
  clear h6
  subst hr
  clear h hv hl
  go_enter Try.func76, Try.ntmps76
  go_wp2_with (first | (go_at_call 95; refine (impl_sheet_name.callsE 9 r1 HS.out HL.out H1.out).mono ?_; rintro e w' ⟨rfl, hs, hk⟩; clear HS; have HS := Aside0.mk hs; clear hs hk) | (go_at_call 103; refine (impl_sheet_prf.callsE sh r1.1 r2 HS.out HL1.out H2.out).mono ?_; rintro e w' ⟨rfl, hs, hk⟩; clear HS; have HS := Aside0.mk hs; clear hs hk) | (go_at_call 95; refine (impl_sheet_name.callsE id_ r3 HS.out HL2.out H3.out).mono ?_; rintro e w' ⟨rfl, hs, hk⟩; clear HS; have HS := Aside0.mk hs; clear hs hk) | (go_at_call 103; refine (impl_sheet_prf.callsE ke r3.1 r4 HS.out HL3.out H4.out).mono ?_; rintro e w' ⟨rfl, hs, hk⟩; clear HS; have HS := Aside0.mk hs; clear hs hk) | ((with_reducible refine gate_dst (N := 32) rfl ?_); refine Kd.R_lit (Kd.int .i64) _ 2 ?hg (N := 32) ?hd (xs := ([fi, no, r4.1] : List Int)) (inner := [.int .i64 fi, .int .i64 no, .int .i64 r4.1]) (ok := fun _ => True) (okp := fun _ => True) ?hr ?hp (fun _ hk => hk) trivial (Below.refl _ _) (Nat.le_refl _) (by simp) ?_; (case hd => rfl); (case hg => rfl); (case hr => first | (go_simp; done) | (go_simp; rfl)); (case hp => exact reps_ints _); intro v1 w1 ho hb hg hn; clear hg hn; obtain ⟨AP, cP, eP⟩ := Kd.R_slice ho; subst eP; have HP := Aside0.mk (Kd.R_lower ho HS.out.2.1.1); have n0_ := Aside0.mk (HS.out.below hb); clear HS ho hb; have HS := n0_; clear n0_) | (go_at_call 61; refine (impl_sheet_list.callsE AP cP [fi, no, r4.1] 3 r5 HS.out HL4.out rfl (Kd.R_reads' HP.out).2.2 (Kd.R_reads' HP.out).2.1 (far_row HP.out (by decide) (by decide)) H5.out).mono ?_; rintro e w' ⟨rfl, hs, hk⟩; clear HS; have HS := Aside0.mk hs; clear hs hk) | (go_at_call 103; refine (impl_sheet_prf.callsE r2.1 r5.1 r6 HS.out HL5.out H6.out).mono ?_; rintro e w' ⟨rfl, hs, hk⟩; clear HS; have HS := Aside0.mk hs; clear hs hk))
  go_ret
  exact ⟨rfl, HS.out⟩
end Go.Proofs.Ytomaeijhljpgdaa.G
namespace Go.Proofs.Ytomaeijhljpgdaa.G
open Go.RowKit Go.Proofs.YtomaeijhljpgdaaW.PrintWords Go.Proofs.YtomaeijhljpgdaaW.PrintLast Go.Proofs.YtomaeijhljpgdaaW.PrintMore
attribute [local go_sem] max2_int min2_int max_two min_two max_three min_three max_four min_four   -- for this text's walks alone
set_option linter.unusedVariables false
set_option linter.unusedSimpArgs false
def impl_MakeProof.f (k : Nat) (l0 : List S26) (a1 a2 a3 a4 a5 : Int) : Option (Int × Int × List S26) := (impl_namesFault.f k l0 [a5] [a1, a2, a3, a4]).bind fun c => (if c = 0 then (if l0.length ≤ 400 then (some (toldP (proofT l0 false a1 a2 a3 a4 a5))) else none) else (some (c, 0, [])))
set_option maxHeartbeats 4000000 in
set_option maxRecDepth 100000 in
theorem impl_MakeProof.calls (k : Nat) (A0 : Option Addr) (c0 : Nat) (l0 : List (S26)) (a1 a2 a3 a4 a5 : Int) (r1 : Int) (r2 : Int) (r3 : List (S26)) (w : World) (hr0 : Kd.C k26 w A0 l0.length l0) (hc0 : l0.length ≤ c0) (h : impl_MakeProof.f k l0 a1 a2 a3 a4 a5 = some (r1, r2, r3)) :
    Calls Try.prog 34 #[.slice A0 l0.length c0, .int .i64 a1, .int .i64 a2, .int .i64 a3, .int .i64 a4, .int .i64 a5] w fun e w' => ∃ v2_ : Value, e = .returned (.agg #[.int .i64 r1, .int .i64 r2, v2_]) ∧ Kd.R k26 26 w' w.heap.size (fun _ => True) v2_ r3 ∧ Below w.heap.size w w' := by
  unfold impl_MakeProof.f at h
  obtain ⟨c, hf, h⟩ := Option.bind_eq_some_iff.mp h
  have HF := Aside0.mk hf
  clear hf
  have HR := Aside0.mk hr0
  have HC := Aside0.mk hc0
  have HB := Aside0.mk (Below.refl w.heap.size w)
  clear hr0 hc0
  by_cases hz : c = 0
  · rw [if_pos hz] at h
    subst hz
    by_cases hg : l0.length ≤ 400
    rotate_left
    · rw [if_neg hg] at h; cases h
    rw [if_pos hg] at h
    have HL4 := Aside0.mk hg
    have HL := Aside0.mk (show l0.length * 32 ≤ 140737488355328 by have := HL4.out; omega)
    obtain ⟨r, hr⟩ : ∃ r, proofT l0 false a1 a2 a3 a4 a5 = r := ⟨_, rfl⟩
    rw [hr] at h
    have HRR := Aside0.mk hr
    have HT := Aside0.mk (Option.some.inj h)
    clear hg hr h
    go_enter Try.func34, Try.ntmps34
    go_wp2_with (first | ((with_reducible refine gate_dst (N := 12) rfl ?_); refine box_event ?hg (N := 12) ?hd (cs := #[.int .i64 0, .int .i64 0, .slice none 0 0]) (t := 30) ?hr ?_; (case hd => rfl); (case hg => rfl); (case hr => first | (go_simp; done) | (go_simp; rfl)); intro g12 hg w2 hbox hb; have n0_ := Aside0.mk (below_step HB.out hb); have BK := Aside0.mk hbox; have GE := Aside0.mk (show w.heap.size ≤ g12 by rw [hg]; exact below_size HB.out); clear HB; have HB := n0_; clear n0_ hb hbox hg; (try clear q0_ q1_ q2_ f0_ f1_ f2_); have q0_ : w2.cell? ⟨g12, 0, none⟩ = some (.int .i64 0) := (blk_cell BK.out 0).trans rfl; have q1_ : w2.cell? ⟨g12, 1, none⟩ = some (.int .i64 0) := (blk_cell BK.out 1).trans rfl; have q2_ : w2.cell? ⟨g12, 2, none⟩ = some (.slice none 0 0) := (blk_cell BK.out 2).trans rfl; have f0_ := blk_frozen BK.out 0; have f1_ := blk_frozen BK.out 1; have f2_ := blk_frozen BK.out 2) | ((with_reducible refine gate_dst (N := 17) rfl ?_); refine Kd.R_lit (Kd.int .i64) _ 2 ?hg (N := 17) ?hd (xs := ([a5] : List Int)) (inner := [.int .i64 a5]) (ok := fun _ => True) (okp := fun _ => True) ?hr ?hp (fun _ hk => hk) trivial (Below.refl _ _) (Nat.le_refl _) (by simp) ?_; (case hd => rfl); (case hg => rfl); (case hr => first | (go_simp; done) | (go_simp; rfl)); (case hp => exact reps_ints _); intro v1 w1 ho hb hg hn; clear hg hn; obtain ⟨AP, cP, eP⟩ := Kd.R_slice ho; subst eP; have HP := Aside0.mk ho; clear ho; have n0_ := Aside0.mk (below_step HB.out hb); have n1_ := Aside0.mk (blk_below BK.out hb); clear HB BK; have HB := n0_; have BK := n1_; clear n0_ n1_; clear hb; (try clear q0_ q1_ q2_ f0_ f1_ f2_); have q0_ : w1.cell? ⟨g12, 0, none⟩ = some (.int .i64 0) := (blk_cell BK.out 0).trans rfl; have q1_ : w1.cell? ⟨g12, 1, none⟩ = some (.int .i64 0) := (blk_cell BK.out 1).trans rfl; have q2_ : w1.cell? ⟨g12, 2, none⟩ = some (.slice none 0 0) := (blk_cell BK.out 2).trans rfl; have f0_ := blk_frozen BK.out 0; have f1_ := blk_frozen BK.out 1; have f2_ := blk_frozen BK.out 2) | ((with_reducible refine gate_dst (N := 22) rfl ?_); refine Kd.R_lit (Kd.int .i64) _ 2 ?hg (N := 22) ?hd (xs := ([a1, a2, a3, a4] : List Int)) (inner := [.int .i64 a1, .int .i64 a2, .int .i64 a3, .int .i64 a4]) (ok := fun _ => True) (okp := fun _ => True) ?hr ?hp (fun _ hk => hk) trivial (Below.refl _ _) (Nat.le_refl _) (by simp) ?_; (case hd => rfl); (case hg => rfl); (case hr => first | (go_simp; done) | (go_simp; rfl)); (case hp => exact reps_ints _); intro v1 w1 ho hb hg hn; clear hg hn; obtain ⟨AQ, cQ, eQ⟩ := Kd.R_slice ho; subst eQ; have HQ := Aside0.mk ho; clear ho; have n0_ := Aside0.mk (below_step HB.out hb); have n1_ := Aside0.mk (blk_below BK.out hb); have n2_ := Aside0.mk (Kd.R_below HP.out hb); clear HB BK HP; have HB := n0_; have BK := n1_; have HP := n2_; clear n0_ n1_ n2_; clear hb; (try clear q0_ q1_ q2_ f0_ f1_ f2_); have q0_ : w1.cell? ⟨g12, 0, none⟩ = some (.int .i64 0) := (blk_cell BK.out 0).trans rfl; have q1_ : w1.cell? ⟨g12, 1, none⟩ = some (.int .i64 0) := (blk_cell BK.out 1).trans rfl; have q2_ : w1.cell? ⟨g12, 2, none⟩ = some (.slice none 0 0) := (blk_cell BK.out 2).trans rfl; have f0_ := blk_frozen BK.out 0; have f1_ := blk_frozen BK.out 1; have f2_ := blk_frozen BK.out 2) | (go_at_call 70; refine (impl_namesFault.calls k A0 c0 l0 AP cP [a5] AQ cQ [a1, a2, a3, a4] _ _ (Kd.C_below HR.out HB.out) HC.out (Kd.R_reads' HP.out).2.2 (Kd.R_reads' HP.out).2.1 (Kd.R_reads' HQ.out).2.2 (Kd.R_reads' HQ.out).2.1 HF.out).mono ?_; rintro e w4 ⟨rfl, hb⟩; have n0_ := Aside0.mk (below_step HB.out hb); have n1_ := Aside0.mk (blk_below BK.out hb); have n2_ := Aside0.mk (Kd.R_below HP.out hb); have n3_ := Aside0.mk (Kd.R_below HQ.out hb); clear HB BK HP HQ; have HB := n0_; have BK := n1_; have HP := n2_; have HQ := n3_; clear n0_ n1_ n2_ n3_; clear hb; (try clear q0_ q1_ q2_ f0_ f1_ f2_); have q0_ : w4.cell? ⟨g12, 0, none⟩ = some (.int .i64 0) := (blk_cell BK.out 0).trans rfl; have q1_ : w4.cell? ⟨g12, 1, none⟩ = some (.int .i64 0) := (blk_cell BK.out 1).trans rfl; have q2_ : w4.cell? ⟨g12, 2, none⟩ = some (.slice none 0 0) := (blk_cell BK.out 2).trans rfl; have f0_ := blk_frozen BK.out 0; have f1_ := blk_frozen BK.out 1; have f2_ := blk_frozen BK.out 2) | (go_at_call 54; refine (impl_sheetOf.calls A0 c0 l0 _ (Kd.C_below HR.out HB.out) HC.out HL.out).mono ?_; rintro e w7 ⟨S, rfl, hs, hb⟩; obtain ⟨v7, hv⟩ := hs; have NG := Aside0.mk (blk_lt BK.out); have NW := Aside0.mk HB.out.size; have HS := Aside0.mk (SE.start hv); clear hv; have n0_ := Aside0.mk (below_step HB.out hb); have n1_ := Aside0.mk (blk_below BK.out hb); clear HB BK; have HB := n0_; have BK := n1_; clear n0_ n1_; clear hb; (try clear q0_ q1_ q2_ f0_ f1_ f2_); have q0_ : w7.cell? ⟨g12, 0, none⟩ = some (.int .i64 0) := (blk_cell BK.out 0).trans rfl; have q1_ : w7.cell? ⟨g12, 1, none⟩ = some (.int .i64 0) := (blk_cell BK.out 1).trans rfl; have q2_ : w7.cell? ⟨g12, 2, none⟩ = some (.slice none 0 0) := (blk_cell BK.out 2).trans rfl; have f0_ := blk_frozen BK.out 0; have f1_ := blk_frozen BK.out 1; have f2_ := blk_frozen BK.out 2) | (go_at_call 76; refine (impl_sheet_proof.callsE a1 a2 a3 a4 a5 r HS.out HL4.out HRR.out).mono ?_; rintro e w9 ⟨rfl, hs, hk⟩; clear HS; have HS := Aside0.mk hs; clear hs hk; have BW := Aside0.mk (blk_keepT BK.out HS.out.2.1 (by decide) (by decide)); (try clear q0_ q1_ q2_ f0_ f1_ f2_); have q0_ : w9.cell? ⟨g12, 0, none⟩ = some (.int .i64 0) := (blk_cell BW.out 0).trans rfl; have q1_ : w9.cell? ⟨g12, 1, none⟩ = some (.int .i64 0) := (blk_cell BW.out 1).trans rfl; have q2_ : w9.cell? ⟨g12, 2, none⟩ = some (.slice none 0 0) := (blk_cell BW.out 2).trans rfl; have f0_ := blk_frozen BW.out 0; have f1_ := blk_frozen BW.out 1; have f2_ := blk_frozen BW.out 2) | (go_at_call 55; refine (impl_sheet_told.calls' S _ _ _ _ r1 r2 r3 _ HS.out.1 HS.out.size HT.out).mono ?_; rintro e w10 ⟨v8, rfl, ho, hb⟩; have HO := Aside0.mk ho; clear ho; obtain ⟨A8, c8, e8⟩ := Kd.R_slice HO.out; subst e8; have n0_ := Aside0.mk ((HB.out.trans (HS.out.2.2.mono NW.out)).trans (hb.mono NW.out)); have m1_ : Aside0 (w10.heap[g12]? = _) := Aside0.mk ((hb.block g12 NG.out).trans BW.out); clear HB BK BW hb HS; have HB := n0_; have BK := m1_; clear n0_ m1_; (try clear q0_ q1_ q2_ f0_ f1_ f2_); have q0_ : w10.cell? ⟨g12, 0, none⟩ = some (.int .i64 0) := (blk_cell BK.out 0).trans rfl; have q1_ : w10.cell? ⟨g12, 1, none⟩ = some (.int .i64 0) := (blk_cell BK.out 1).trans rfl; have q2_ : w10.cell? ⟨g12, 2, none⟩ = some (.slice none 0 0) := (blk_cell BK.out 2).trans rfl; have f0_ := blk_frozen BK.out 0; have f1_ := blk_frozen BK.out 1; have f2_ := blk_frozen BK.out 2))
    have HOA := Aside0.mk (show ∀ k, (.slice A8 r3.length c8 : Value).ownBlock = some k → k ≠ g12 from fun k hk => Nat.ne_of_gt (Nat.lt_of_lt_of_le NG.out (Kd.R_base HO.out k hk)))
    refine bodyPost_ret (results_cell_row rfl _ _ g12 30 #[.int .i64 r1, .int .i64 r2, .slice A8 r3.length c8] (0, 0) _ rfl (blk_put (blk_put (blk_put BK.out 0 _ rfl) 1 _ rfl) 2 _ rfl) Try.underlying30 rfl (by kernel_rfl)) rfl ?_
    refine ⟨_, rfl, ?_, below_set (below_set (below_set HB.out GE.out) GE.out) GE.out⟩
    exact Kd.R_mono (Kd.R_lower (Kd.R_far (Kd.R_far (Kd.R_far (R_not HO.out HOA.out) (p := ⟨g12, 0, none⟩) (fun k hk => hk) _) (p := ⟨g12, 1, none⟩) (fun k hk => hk) _) (p := ⟨g12, 2, none⟩) (fun k hk => hk) _) NW.out) (fun _ _ => trivial)
  · rw [if_neg hz] at h
    have hz0 : (c == 0) = false := by simpa using hz
    have hz1 : (c != 0) = true := by simpa using hz
    simp only [Option.some.injEq, Prod.mk.injEq] at h
    obtain ⟨rfl, rfl, rfl⟩ := h
    go_enter Try.func34, Try.ntmps34
    go_wp2_with (first | ((with_reducible refine gate_dst (N := 12) rfl ?_); refine box_event ?hg (N := 12) ?hd (cs := #[.int .i64 0, .int .i64 0, .slice none 0 0]) (t := 30) ?hr ?_; (case hd => rfl); (case hg => rfl); (case hr => first | (go_simp; done) | (go_simp; rfl)); intro g12 hg w2 hbox hb; have n0_ := Aside0.mk (below_step HB.out hb); have BK := Aside0.mk hbox; have GE := Aside0.mk (show w.heap.size ≤ g12 by rw [hg]; exact below_size HB.out); clear HB; have HB := n0_; clear n0_ hb hbox hg; (try clear q0_ q1_ q2_ f0_ f1_ f2_); have q0_ : w2.cell? ⟨g12, 0, none⟩ = some (.int .i64 0) := (blk_cell BK.out 0).trans rfl; have q1_ : w2.cell? ⟨g12, 1, none⟩ = some (.int .i64 0) := (blk_cell BK.out 1).trans rfl; have q2_ : w2.cell? ⟨g12, 2, none⟩ = some (.slice none 0 0) := (blk_cell BK.out 2).trans rfl; have f0_ := blk_frozen BK.out 0; have f1_ := blk_frozen BK.out 1; have f2_ := blk_frozen BK.out 2) | ((with_reducible refine gate_dst (N := 17) rfl ?_); refine Kd.R_lit (Kd.int .i64) _ 2 ?hg (N := 17) ?hd (xs := ([a5] : List Int)) (inner := [.int .i64 a5]) (ok := fun _ => True) (okp := fun _ => True) ?hr ?hp (fun _ hk => hk) trivial (Below.refl _ _) (Nat.le_refl _) (by simp) ?_; (case hd => rfl); (case hg => rfl); (case hr => first | (go_simp; done) | (go_simp; rfl)); (case hp => exact reps_ints _); intro v1 w1 ho hb hg hn; clear hg hn; obtain ⟨AP, cP, eP⟩ := Kd.R_slice ho; subst eP; have HP := Aside0.mk ho; clear ho; have n0_ := Aside0.mk (below_step HB.out hb); have n1_ := Aside0.mk (blk_below BK.out hb); clear HB BK; have HB := n0_; have BK := n1_; clear n0_ n1_; clear hb; (try clear q0_ q1_ q2_ f0_ f1_ f2_); have q0_ : w1.cell? ⟨g12, 0, none⟩ = some (.int .i64 0) := (blk_cell BK.out 0).trans rfl; have q1_ : w1.cell? ⟨g12, 1, none⟩ = some (.int .i64 0) := (blk_cell BK.out 1).trans rfl; have q2_ : w1.cell? ⟨g12, 2, none⟩ = some (.slice none 0 0) := (blk_cell BK.out 2).trans rfl; have f0_ := blk_frozen BK.out 0; have f1_ := blk_frozen BK.out 1; have f2_ := blk_frozen BK.out 2) | ((with_reducible refine gate_dst (N := 22) rfl ?_); refine Kd.R_lit (Kd.int .i64) _ 2 ?hg (N := 22) ?hd (xs := ([a1, a2, a3, a4] : List Int)) (inner := [.int .i64 a1, .int .i64 a2, .int .i64 a3, .int .i64 a4]) (ok := fun _ => True) (okp := fun _ => True) ?hr ?hp (fun _ hk => hk) trivial (Below.refl _ _) (Nat.le_refl _) (by simp) ?_; (case hd => rfl); (case hg => rfl); (case hr => first | (go_simp; done) | (go_simp; rfl)); (case hp => exact reps_ints _); intro v1 w1 ho hb hg hn; clear hg hn; obtain ⟨AQ, cQ, eQ⟩ := Kd.R_slice ho; subst eQ; have HQ := Aside0.mk ho; clear ho; have n0_ := Aside0.mk (below_step HB.out hb); have n1_ := Aside0.mk (blk_below BK.out hb); have n2_ := Aside0.mk (Kd.R_below HP.out hb); clear HB BK HP; have HB := n0_; have BK := n1_; have HP := n2_; clear n0_ n1_ n2_; clear hb; (try clear q0_ q1_ q2_ f0_ f1_ f2_); have q0_ : w1.cell? ⟨g12, 0, none⟩ = some (.int .i64 0) := (blk_cell BK.out 0).trans rfl; have q1_ : w1.cell? ⟨g12, 1, none⟩ = some (.int .i64 0) := (blk_cell BK.out 1).trans rfl; have q2_ : w1.cell? ⟨g12, 2, none⟩ = some (.slice none 0 0) := (blk_cell BK.out 2).trans rfl; have f0_ := blk_frozen BK.out 0; have f1_ := blk_frozen BK.out 1; have f2_ := blk_frozen BK.out 2) | (go_at_call 70; refine (impl_namesFault.calls k A0 c0 l0 AP cP [a5] AQ cQ [a1, a2, a3, a4] _ _ (Kd.C_below HR.out HB.out) HC.out (Kd.R_reads' HP.out).2.2 (Kd.R_reads' HP.out).2.1 (Kd.R_reads' HQ.out).2.2 (Kd.R_reads' HQ.out).2.1 HF.out).mono ?_; rintro e w4 ⟨rfl, hb⟩; have n0_ := Aside0.mk (below_step HB.out hb); have n1_ := Aside0.mk (blk_below BK.out hb); have n2_ := Aside0.mk (Kd.R_below HP.out hb); have n3_ := Aside0.mk (Kd.R_below HQ.out hb); clear HB BK HP HQ; have HB := n0_; have BK := n1_; have HP := n2_; have HQ := n3_; clear n0_ n1_ n2_ n3_; clear hb; (try clear q0_ q1_ q2_ f0_ f1_ f2_); have q0_ : w4.cell? ⟨g12, 0, none⟩ = some (.int .i64 0) := (blk_cell BK.out 0).trans rfl; have q1_ : w4.cell? ⟨g12, 1, none⟩ = some (.int .i64 0) := (blk_cell BK.out 1).trans rfl; have q2_ : w4.cell? ⟨g12, 2, none⟩ = some (.slice none 0 0) := (blk_cell BK.out 2).trans rfl; have f0_ := blk_frozen BK.out 0; have f1_ := blk_frozen BK.out 1; have f2_ := blk_frozen BK.out 2))
    refine bodyPost_ret (results_cell_row rfl _ _ g12 30 #[.int .i64 c, .int .i64 0, .slice none 0 0] (0, 0) _ rfl (blk_put (blk_put (blk_put BK.out 0 _ rfl) 1 _ rfl) 2 _ rfl) Try.underlying30 rfl (by kernel_rfl)) rfl ?_
    exact ⟨_, rfl, Kd.R_nil _ _ _ _ _, below_set (below_set (below_set HB.out GE.out) GE.out) GE.out⟩
end Go.Proofs.Ytomaeijhljpgdaa.G
namespace Go.Proofs.Ytomaeijhljpgdaa.G
open Go.RowKit Go.Proofs.YtomaeijhljpgdaaW.PrintWords Go.Proofs.YtomaeijhljpgdaaW.PrintLast Go.Proofs.YtomaeijhljpgdaaW.PrintMore
attribute [local go_sem] max2_int min2_int max_two min_two max_three min_three max_four min_four   -- for this text's walks alone
set_option linter.unusedVariables false
set_option linter.unusedSimpArgs false
def laws_FnExactMakeProof.j0 : Nat → List (S98) → Int → Int → Int → Int → Int → Bool → Int → Int → List (S26) → Int → Int → List (S26) → Option (Bool)
 | 0, _, _, _, _, _, _, _, _, _, _, _, _, _ => none
 | k + 1, x0, x1, x2, x3, x4, x5, x62, x573000, x573001, x573002, x582000, x582001, x582002 => if x62 = true then (some false) else ((laws_markTermResult.f k x582000 x582001 x582002 1).bind fun bt590 => ((laws_heldTermResult.f k x582000 x582001 bt590.2 1).bind fun t592 => (if t592 < 0 then (some false) else (if t592 = bt590.1 then ((laws_toTermS.f k x0).bind fun t593 => ((impl_MakeProof.f k t593 x1 x2 x3 x4 x5).bind fun bt596 => ((laws_eqTermResult.f k bt596.1 bt596.2.1 bt596.2.2 x573000 x573001 x573002).bind fun t602 => (if t602 = true then ((laws_heldTermResult.f k x582000 x582001 bt590.2 1).bind fun t603 => (if t603 < 0 then (some false) else (if t603 = bt590.1 then (some true) else (some false)))) else (some false))))) else (some false)))))
def laws_FnExactMakeProof.f (k : Nat) (l0 : List (S98)) (a1 : Int) (a2 : Int) (a3 : Int) (a4 : Int) (a5 : Int) : Option (Bool) := (laws_szTermS.f l0 1048576).bind fun t563 => (if t563 < 0 then (some true) else ((laws_toTermS.f k l0).bind fun t564 => ((spec_MakeProof.f k t564 a1 a2 a3 a4 a5).bind fun bt567 => ((laws_toTermS.f k l0).bind fun t573 => ((impl_MakeProof.f k t573 a1 a2 a3 a4 a5).bind fun bt576 => ((laws_eqTermResult.f k bt576.1 bt576.2.1 bt576.2.2 bt567.1 bt567.2.1 bt567.2.2).bind fun t582 => (if t582 = true then ((laws_toTermS.f k l0).bind fun t583 => ((laws_eqTermS.f k t573 t583).bind fun t586 => (if t586 = true then ((laws_markTermS.f k t573 1).bind fun bt587 => (if bt587.1 < 0 then (laws_FnExactMakeProof.j0 k l0 a1 a2 a3 a4 a5 true bt567.1 bt567.2.1 bt567.2.2 bt576.1 bt576.2.1 bt576.2.2) else ((laws_eqTermResult.f k bt576.1 bt576.2.1 bt576.2.2 bt567.1 bt567.2.1 bt567.2.2).bind fun t589 => (laws_FnExactMakeProof.j0 k l0 a1 a2 a3 a4 a5 (!t589) bt567.1 bt567.2.1 bt567.2.2 bt576.1 bt576.2.1 bt576.2.2)))) else (some false)))) else (some false))))))))
set_option maxHeartbeats 8000000 in
set_option maxRecDepth 100000 in
theorem laws_FnExactMakeProof.calls (k : Nat) (A0 : Option Addr) (c0 : Nat) (l0 : List (S98)) (a1 : Int) (a2 : Int) (a3 : Int) (a4 : Int) (a5 : Int) (w : World) (hr0 : Kd.C k98 w A0 l0.length l0) (hc0 : l0.length ≤ c0) (h : laws_FnExactMakeProof.f k l0 a1 a2 a3 a4 a5 = some true) :
  Calls Try.prog 6 #[.slice A0 l0.length c0, .int .i64 a1, .int .i64 a2, .int .i64 a3, .int .i64 a4, .int .i64 a5] w fun e w' => e = .returned (.bool true) ∧ Below w.heap.size w w' := by
 have hu30 := Try.underlying30
 have HR0 := Aside0.mk hr0
 have HC0 := Aside0.mk hc0
 clear hr0 hc0
 have HB := Aside0.mk (Below.refl w.heap.size w)
 have H : ((laws_szTermS.f l0 1048576).bind fun t563 => (if t563 < 0 then (some true) else ((laws_toTermS.f k l0).bind fun t564 => ((spec_MakeProof.f k t564 a1 a2 a3 a4 a5).bind fun bt567 => ((laws_toTermS.f k l0).bind fun t573 => ((impl_MakeProof.f k t573 a1 a2 a3 a4 a5).bind fun bt576 => ((laws_eqTermResult.f k bt576.1 bt576.2.1 bt576.2.2 bt567.1 bt567.2.1 bt567.2.2).bind fun t582 => (if t582 = true then ((laws_toTermS.f k l0).bind fun t583 => ((laws_eqTermS.f k t573 t583).bind fun t586 => (if t586 = true then ((laws_markTermS.f k t573 1).bind fun bt587 => (if bt587.1 < 0 then (laws_FnExactMakeProof.j0 k l0 a1 a2 a3 a4 a5 true bt567.1 bt567.2.1 bt567.2.2 bt576.1 bt576.2.1 bt576.2.2) else ((laws_eqTermResult.f k bt576.1 bt576.2.1 bt576.2.2 bt567.1 bt567.2.1 bt567.2.2).bind fun t589 => (laws_FnExactMakeProof.j0 k l0 a1 a2 a3 a4 a5 (!t589) bt567.1 bt567.2.1 bt567.2.2 bt576.1 bt576.2.1 bt576.2.2)))) else (some false)))) else (some false))))))))) = some true := h
 clear h
 replace H := Option.bind_eq_some_iff.mp H
 obtain ⟨t563, A70, H⟩ := H
 try dsimp only at H
 have A7 := Aside0.mk A70
 clear A70
 by_cases c8 : t563 < 0
 ·rw [if_pos c8] at H
  have c8b0 : decide (t563 < 0) = true := decide_eq_true c8
  clear c8
  clear H
  go_enter Try.func6, Try.ntmps6
  go_wp2_with (first | ((with_reducible refine gate_callee (f := 21) rfl ?_); refine goesL_ (some 23) rfl rfl Try.func21 (by kernel_rfl) rfl #[.slice A0 l0.length c0, .int .i64 1048576] rfl (by (try simp only [List.map_toArray, List.map_cons, List.map_nil]); first | done | rfl | (simp only [List.length_drop, List.length_take]; rfl)) ?_; (with_reducible refine (laws_szTermS.calls _ _ l0 1048576 t563 _ ?side1 ?side2 A7.out).mono ?_); (case side1 => repeat (first | exact HR0.out | (with_reducible refine Kd.C_alloc ?_ _) | (with_reducible refine Kd.C_drewN ?_ _) | (with_reducible refine Kd.C_drew ?_))); (case side2 => exact HC0.out); rintro e w' ⟨rfl, ⟨nd, rfl⟩⟩; refine ⟨_, rfl, ?_⟩))
  go_ret
  exact ⟨by first | rfl | (rw [hr_.out]; first | done | rfl) | (simp [errW_none, errW_some] <;> rfl) | (simp [*, errW_none, errW_some] <;> rfl), by repeat (first | (with_reducible first | exact HB.out | apply below_alloc | apply pw_below_drewN | apply below_drew1) | exact HB.out)⟩
 ·rw [if_neg c8] at H
  have c8b0 : decide (t563 < 0) = false := decide_eq_false c8
  clear c8
  replace H := Option.bind_eq_some_iff.mp H
  obtain ⟨t564, A90, H⟩ := H
  try dsimp only at H
  have A9 := Aside0.mk A90
  clear A90
  replace H := Option.bind_eq_some_iff.mp H
  obtain ⟨⟨t567, t568, t569⟩, A100, H⟩ := H
  try dsimp only at H
  have A10 := Aside0.mk A100
  clear A100
  replace H := Option.bind_eq_some_iff.mp H
  obtain ⟨t573, A110, H⟩ := H
  try dsimp only at H
  have A11 := Aside0.mk A110
  clear A110
  replace H := Option.bind_eq_some_iff.mp H
  obtain ⟨⟨t576, t577, t578⟩, A120, H⟩ := H
  try dsimp only at H
  have A12 := Aside0.mk A120
  clear A120
  replace H := Option.bind_eq_some_iff.mp H
  obtain ⟨t582, A130, H⟩ := H
  try dsimp only at H
  have A13 := Aside0.mk A130
  clear A130
  by_cases c14 : t582 = true
  ·subst c14
   rw [if_pos rfl] at H
   replace H := Option.bind_eq_some_iff.mp H
   obtain ⟨t583, A150, H⟩ := H
   try dsimp only at H
   have A15 := Aside0.mk A150
   clear A150
   replace H := Option.bind_eq_some_iff.mp H
   obtain ⟨t586, A160, H⟩ := H
   try dsimp only at H
   have A16 := Aside0.mk A160
   clear A160
   by_cases c17 : t586 = true
   ·subst c17
    rw [if_pos rfl] at H
    replace H := Option.bind_eq_some_iff.mp H
    obtain ⟨⟨t587, t588⟩, A180, H⟩ := H
    try dsimp only at H
    have A18 := Aside0.mk A180
    clear A180
    have HC19 := Aside0.mk H
    clear H
    go_enter Try.func6, Try.ntmps6
    go_upto_region 14 with (first | ((with_reducible refine gate_callee (f := 21) rfl ?_); refine goesL_ (some 23) rfl rfl Try.func21 (by kernel_rfl) rfl #[.slice A0 l0.length c0, .int .i64 1048576] rfl (by (try simp only [List.map_toArray, List.map_cons, List.map_nil]); first | done | rfl | (simp only [List.length_drop, List.length_take]; rfl)) ?_; (with_reducible refine (laws_szTermS.calls _ _ l0 1048576 t563 _ ?side1 ?side2 A7.out).mono ?_); (case side1 => repeat (first | exact HR0.out | (with_reducible refine Kd.C_alloc ?_ _) | (with_reducible refine Kd.C_drewN ?_ _) | (with_reducible refine Kd.C_drew ?_))); (case side2 => exact HC0.out); rintro e w' ⟨rfl, ⟨nd, rfl⟩⟩; refine ⟨_, rfl, ?_⟩) | ((with_reducible refine gate_callee (f := 23) rfl ?_); refine goesL_ (some 27) rfl rfl Try.func23 (by kernel_rfl) rfl #[.slice A0 l0.length c0] rfl (by (try simp only [List.map_toArray, List.map_cons, List.map_nil]); first | done | rfl | (simp only [List.length_drop, List.length_take]; rfl)) ?_; (with_reducible refine (laws_toTermS.calls k _ _ l0 t564 _ ?side1 ?side2 A9.out).mono ?_); (case side1 => repeat (first | exact HR0.out | (with_reducible refine Kd.C_alloc ?_ _) | (with_reducible refine Kd.C_drewN ?_ _) | (with_reducible refine Kd.C_drew ?_))); (case side2 => exact HC0.out); rintro e w20 ⟨v565, rfl, ho0, hb⟩; refine ⟨_, rfl, ?_⟩; have n0_ := Aside0.mk (Kd.R_lower ho0 (below_size (by repeat (first | (with_reducible first | exact HB.out | apply below_alloc | apply pw_below_drewN | apply below_drew1) | exact HB.out)))); have n1_ := Aside0.mk (below_step (by repeat (first | (with_reducible first | exact HB.out | apply below_alloc | apply pw_below_drewN | apply below_drew1) | exact HB.out)) hb); clear HB; have HO566 := n0_; have HB := n1_; clear n0_ n1_; (try clear hb); (try clear hb2); (try clear hk); (try clear hi); (try clear ho0); obtain ⟨Ao21, co21, eo21⟩ := Kd.R_slice HO566.out; subst eo21) | ((with_reducible refine gate_callee (f := 33) rfl ?_); refine goesL_ (some 33) rfl rfl Try.func33 (by kernel_rfl) rfl #[.slice Ao21 t564.length co21, .int .i64 a1, .int .i64 a2, .int .i64 a3, .int .i64 a4, .int .i64 a5] rfl (by (try simp only [List.map_toArray, List.map_cons, List.map_nil]); first | done | rfl | (simp only [List.length_drop, List.length_take]; rfl)) ?_; (with_reducible refine (spec_MakeProof.calls k _ _ t564 a1 a2 a3 a4 a5 t567 t568 t569 _ ?side1 ?side2 A10.out).mono ?_); (case side1 => repeat (first | exact (Kd.R_reads' HO566.out).2.2 | (with_reducible refine Kd.C_alloc ?_ _) | (with_reducible refine Kd.C_drewN ?_ _) | (with_reducible refine Kd.C_drew ?_))); (case side2 => exact (Kd.R_reads' HO566.out).2.1); rintro e w22 ⟨v570, rfl, ho0, hb⟩; refine ⟨_, rfl, ?_⟩; have n0_ := Aside0.mk (Kd.R_elder' (by (with_reducible repeat (first | apply Kd.R_alloc | apply Kd.R_drewN | apply Kd.R_drew)); exact HO566.out) (Kd.R_base ho0) hb); have n1_ := Aside0.mk (Kd.R_lower (Kd.R_new' ho0 (Kd.R_lt (by (with_reducible repeat (first | apply Kd.R_alloc | apply Kd.R_drewN | apply Kd.R_drew)); exact HO566.out))) (below_size (by repeat (first | (with_reducible first | exact HB.out | apply below_alloc | apply pw_below_drewN | apply below_drew1) | exact HB.out)))); have n2_ := Aside0.mk (below_step (by repeat (first | (with_reducible first | exact HB.out | apply below_alloc | apply pw_below_drewN | apply below_drew1) | exact HB.out)) hb); clear HO566; clear HB; have HO566 := n0_; have HO571 := n1_; have HB := n2_; clear n0_ n1_ n2_; (try clear hb); (try clear hb2); (try clear hk); (try clear hi); (try clear ho0)) | ((with_reducible refine gate_dst (N := 14) rfl ?_); refine box_event ?hg (N := 14) ?hd (cs := #[.int .i64 0, .int .i64 0, .slice none 0 0]) (t := 30) ?hr ?_; (case hd => rfl); (case hg => rfl); (case hr => first | (go_simp; done) | (go_simp; rfl)); intro gb572 hg w23 hbox hb; have n0_ := Aside0.mk (Kd.R_below (by (with_reducible repeat (first | apply Kd.R_alloc | apply Kd.R_drewN | apply Kd.R_drew)); exact HO566.out) hb); have n1_ := Aside0.mk (Kd.R_below (by (with_reducible repeat (first | apply Kd.R_alloc | apply Kd.R_drewN | apply Kd.R_drew)); exact HO571.out) hb); have n2_ := Aside0.mk (below_step (by repeat (first | (with_reducible first | exact HB.out | apply below_alloc | apply pw_below_drewN | apply below_drew1) | exact HB.out)) hb); have n3_ := Aside0.mk (hbox); have n4_ := Aside0.mk ((by rw [hg]; exact (below_size (by repeat (first | (with_reducible first | exact HB.out | apply below_alloc | apply pw_below_drewN | apply below_drew1) | exact HB.out))) : w.heap.size ≤ gb572)); have n5_ := Aside0.mk ((by rw [hg]; exact (below_size (by repeat (first | (with_reducible first | exact HB.out | apply below_alloc | apply pw_below_drewN | apply below_drew1) | exact HB.out))) : w.heap.size ≤ gb572)); clear HO566; clear HO571; clear HB; have HO566 := n0_; have HO571 := n1_; have HB := n2_; have BK572 := n3_; have GW572 := n4_; have GE572 := n5_; clear n0_ n1_ n2_ n3_ n4_ n5_; clear hb hbox hg; have hcz24_0 : w23.cell? ⟨gb572, 0, none⟩ = some (.int .i64 0) := (blk_cell BK572.out 0).trans rfl; have hcz24_1 : w23.cell? ⟨gb572, 1, none⟩ = some (.int .i64 0) := (blk_cell BK572.out 1).trans rfl; have hcz24_2 : w23.cell? ⟨gb572, 2, none⟩ = some (.slice none 0 0) := (blk_cell BK572.out 2).trans rfl; have hfz24_0 := blk_frozen BK572.out 0; have hfz24_1 := blk_frozen BK572.out 1; have hfz24_2 := blk_frozen BK572.out 2; obtain ⟨Ao25, co25, eo25⟩ := Kd.R_slice HO571.out; subst eo25) | ((with_reducible refine gate_callee (f := 23) rfl ?_); refine goesL_ (some 35) rfl rfl Try.func23 (by kernel_rfl) rfl #[.slice A0 l0.length c0] rfl (by (try simp only [List.map_toArray, List.map_cons, List.map_nil]); first | done | rfl | (simp only [List.length_drop, List.length_take]; rfl)) ?_; (with_reducible refine (laws_toTermS.calls k _ _ l0 t573 _ ?side1 ?side2 A11.out).mono ?_); (case side1 => exact Kd.C_below HR0.out (by repeat (first | (with_reducible first | exact HB.out | apply below_alloc | apply pw_below_drewN | apply below_drew1 | refine below_set ?_ GE572.out) | exact HB.out))); (case side2 => exact HC0.out); rintro e w26 ⟨v574, rfl, ho0, hb⟩; refine ⟨_, rfl, ?_⟩; have n0_ := Aside0.mk (Kd.R_elder' (by (with_reducible repeat (first | apply Kd.R_alloc | apply Kd.R_drewN | apply Kd.R_drew)); exact (Kd.R_mono (Kd.R_far (p := ⟨gb572, 2, none⟩) (Kd.R_far (p := ⟨gb572, 1, none⟩) (Kd.R_far (p := ⟨gb572, 0, none⟩) (Kd.R_types HO566.out BK572.out (by decide)) (fun _ hk => hk.2) (.int .i64 t567)) (fun _ hk => hk.2) (.int .i64 t568)) (fun _ hk => hk.2) (.slice Ao25 t569.length co25)) (fun _ h_ => h_.1))) (Kd.R_base ho0) hb); have n1_ := Aside0.mk (Kd.R_elder' (by (with_reducible repeat (first | apply Kd.R_alloc | apply Kd.R_drewN | apply Kd.R_drew)); exact (Kd.R_mono (Kd.R_far (p := ⟨gb572, 2, none⟩) (Kd.R_far (p := ⟨gb572, 1, none⟩) (Kd.R_far (p := ⟨gb572, 0, none⟩) (Kd.R_types HO571.out BK572.out (by decide)) (fun _ hk => hk.2) (.int .i64 t567)) (fun _ hk => hk.2) (.int .i64 t568)) (fun _ hk => hk.2) (.slice Ao25 t569.length co25)) (fun _ h_ => h_.1))) (Kd.R_base ho0) hb); have n2_ := Aside0.mk (Kd.R_lower (Kd.R_new' (Kd.R_new' ho0 (Kd.R_lt (by (with_reducible repeat (first | apply Kd.R_alloc | apply Kd.R_drewN | apply Kd.R_drew)); exact (Kd.R_mono (Kd.R_far (p := ⟨gb572, 2, none⟩) (Kd.R_far (p := ⟨gb572, 1, none⟩) (Kd.R_far (p := ⟨gb572, 0, none⟩) (Kd.R_types HO566.out BK572.out (by decide)) (fun _ hk => hk.2) (.int .i64 t567)) (fun _ hk => hk.2) (.int .i64 t568)) (fun _ hk => hk.2) (.slice Ao25 t569.length co25)) (fun _ h_ => h_.1))))) (Kd.R_lt (by (with_reducible repeat (first | apply Kd.R_alloc | apply Kd.R_drewN | apply Kd.R_drew)); exact (Kd.R_mono (Kd.R_far (p := ⟨gb572, 2, none⟩) (Kd.R_far (p := ⟨gb572, 1, none⟩) (Kd.R_far (p := ⟨gb572, 0, none⟩) (Kd.R_types HO571.out BK572.out (by decide)) (fun _ hk => hk.2) (.int .i64 t567)) (fun _ hk => hk.2) (.int .i64 t568)) (fun _ hk => hk.2) (.slice Ao25 t569.length co25)) (fun _ h_ => h_.1))))) (below_size (by repeat (first | (with_reducible first | exact HB.out | apply below_alloc | apply pw_below_drewN | apply below_drew1 | refine below_set ?_ GE572.out) | exact HB.out)))); have n3_ := Aside0.mk (blk_below (g := gb572) (o := .cells #[.int .i64 t567, .int .i64 t568, .slice Ao25 t569.length co25] 30 (0, 0)) (by (with_reducible repeat (first | refine blk_drewN ?_ _ | refine blk_drew ?_ | refine blk_alloc ?_ _)); refine blk_put (cs := #[.int .i64 t567, .int .i64 t568, .slice none 0 0]) ?_ 2 _ rfl; (with_reducible repeat (first | refine blk_drewN ?_ _ | refine blk_drew ?_ | refine blk_alloc ?_ _)); refine blk_put (cs := #[.int .i64 t567, .int .i64 0, .slice none 0 0]) ?_ 1 _ rfl; (with_reducible repeat (first | refine blk_drewN ?_ _ | refine blk_drew ?_ | refine blk_alloc ?_ _)); refine blk_put (cs := #[.int .i64 0, .int .i64 0, .slice none 0 0]) ?_ 0 _ rfl; (with_reducible repeat (first | refine blk_drewN ?_ _ | refine blk_drew ?_ | refine blk_alloc ?_ _)); exact BK572.out) hb); have n4_ := Aside0.mk (below_step (by repeat (first | (with_reducible first | exact HB.out | apply below_alloc | apply pw_below_drewN | apply below_drew1 | refine below_set ?_ GE572.out) | exact HB.out)) hb); clear HO566; clear HO571; clear BK572; clear HB; have HO566 := n0_; have HO571 := n1_; have HO575 := n2_; have BK572 := n3_; have HB := n4_; clear n0_ n1_ n2_ n3_ n4_; (try clear hb); (try clear hb2); (try clear hk); (try clear hi); (try clear ho0); obtain ⟨Ao27, co27, eo27⟩ := Kd.R_slice HO575.out; subst eo27) | ((with_reducible refine gate_callee (f := 34) rfl ?_); refine goesL_ (some 42) rfl rfl Try.func34 (by kernel_rfl) rfl #[.slice Ao27 t573.length co27, .int .i64 a1, .int .i64 a2, .int .i64 a3, .int .i64 a4, .int .i64 a5] rfl (by (try simp only [List.map_toArray, List.map_cons, List.map_nil]); first | done | rfl | (simp only [List.length_drop, List.length_take]; rfl)) ?_; (with_reducible refine (impl_MakeProof.calls k _ _ t573 a1 a2 a3 a4 a5 t576 t577 t578 _ ?side1 ?side2 A12.out).mono ?_); (case side1 => repeat (first | exact (Kd.R_reads' HO575.out).2.2 | (with_reducible refine Kd.C_alloc ?_ _) | (with_reducible refine Kd.C_drewN ?_ _) | (with_reducible refine Kd.C_drew ?_))); (case side2 => exact (Kd.R_reads' HO575.out).2.1); rintro e w28 ⟨v579, rfl, ho0, hb⟩; refine ⟨_, rfl, ?_⟩; have n0_ := Aside0.mk (Kd.R_elder' (by (with_reducible repeat (first | apply Kd.R_alloc | apply Kd.R_drewN | apply Kd.R_drew)); exact HO566.out) (Kd.R_base ho0) hb); have n1_ := Aside0.mk (Kd.R_elder' (by (with_reducible repeat (first | apply Kd.R_alloc | apply Kd.R_drewN | apply Kd.R_drew)); exact HO571.out) (Kd.R_base ho0) hb); have n2_ := Aside0.mk (Kd.R_elder' (by (with_reducible repeat (first | apply Kd.R_alloc | apply Kd.R_drewN | apply Kd.R_drew)); exact HO575.out) (Kd.R_base ho0) hb); have n3_ := Aside0.mk (Kd.R_lower (Kd.R_new' (Kd.R_new' (Kd.R_new' ho0 (Kd.R_lt (by (with_reducible repeat (first | apply Kd.R_alloc | apply Kd.R_drewN | apply Kd.R_drew)); exact HO566.out))) (Kd.R_lt (by (with_reducible repeat (first | apply Kd.R_alloc | apply Kd.R_drewN | apply Kd.R_drew)); exact HO571.out))) (Kd.R_lt (by (with_reducible repeat (first | apply Kd.R_alloc | apply Kd.R_drewN | apply Kd.R_drew)); exact HO575.out))) (below_size (by repeat (first | (with_reducible first | exact HB.out | apply below_alloc | apply pw_below_drewN | apply below_drew1 | refine below_set ?_ GE572.out) | exact HB.out)))); have n4_ := Aside0.mk (blk_below (g := gb572) (o := .cells #[.int .i64 t567, .int .i64 t568, .slice Ao25 t569.length co25] 30 (0, 0)) (by (with_reducible repeat (first | refine blk_drewN ?_ _ | refine blk_drew ?_ | refine blk_alloc ?_ _)); exact BK572.out) hb); have n5_ := Aside0.mk (below_step (by repeat (first | (with_reducible first | exact HB.out | apply below_alloc | apply pw_below_drewN | apply below_drew1 | refine below_set ?_ GE572.out) | exact HB.out)) hb); clear HO566; clear HO571; clear HO575; clear BK572; clear HB; have HO566 := n0_; have HO571 := n1_; have HO575 := n2_; have HO580 := n3_; have BK572 := n4_; have HB := n5_; clear n0_ n1_ n2_ n3_ n4_ n5_; (try clear hb); (try clear hb2); (try clear hk); (try clear hi); (try clear ho0)) | ((with_reducible refine gate_dst (N := 16) rfl ?_); refine box_event ?hg (N := 16) ?hd (cs := #[.int .i64 0, .int .i64 0, .slice none 0 0]) (t := 30) ?hr ?_; (case hd => rfl); (case hg => rfl); (case hr => first | (go_simp; done) | (go_simp; rfl)); intro gb581 hg w29 hbox hb; have n0_ := Aside0.mk (Kd.R_below (by (with_reducible repeat (first | apply Kd.R_alloc | apply Kd.R_drewN | apply Kd.R_drew)); exact HO566.out) hb); have n1_ := Aside0.mk (Kd.R_below (by (with_reducible repeat (first | apply Kd.R_alloc | apply Kd.R_drewN | apply Kd.R_drew)); exact HO571.out) hb); have n2_ := Aside0.mk (Kd.R_below (by (with_reducible repeat (first | apply Kd.R_alloc | apply Kd.R_drewN | apply Kd.R_drew)); exact HO575.out) hb); have n3_ := Aside0.mk (Kd.R_below (by (with_reducible repeat (first | apply Kd.R_alloc | apply Kd.R_drewN | apply Kd.R_drew)); exact HO580.out) hb); have n4_ := Aside0.mk (blk_below (g := gb572) (o := .cells #[.int .i64 t567, .int .i64 t568, .slice Ao25 t569.length co25] 30 (0, 0)) (by (with_reducible repeat (first | refine blk_drewN ?_ _ | refine blk_drew ?_ | refine blk_alloc ?_ _)); exact BK572.out) hb); have n5_ := Aside0.mk (below_step (by repeat (first | (with_reducible first | exact HB.out | apply below_alloc | apply pw_below_drewN | apply below_drew1 | refine below_set ?_ GE572.out) | exact HB.out)) hb); have n6_ := Aside0.mk (hbox); have n7_ := Aside0.mk ((by rw [hg]; exact (below_size (by repeat (first | (with_reducible first | exact HB.out | apply below_alloc | apply pw_below_drewN | apply below_drew1 | refine below_set ?_ GE572.out) | exact HB.out))) : w.heap.size ≤ gb581)); have n8_ := Aside0.mk ((by rw [hg]; exact (below_size (by repeat (first | (with_reducible first | exact HB.out | apply below_alloc | apply pw_below_drewN | apply below_drew1 | refine below_set ?_ GE572.out) | exact HB.out))) : w.heap.size ≤ gb581)); have n9_ := Aside0.mk ((by rw [hg]; exact Nat.ne_of_lt (blk_lt (g := gb572) (o := .cells #[.int .i64 t567, .int .i64 t568, .slice Ao25 t569.length co25] 30 (0, 0)) (by (with_reducible repeat (first | refine blk_drewN ?_ _ | refine blk_drew ?_ | refine blk_alloc ?_ _)); exact BK572.out)) : gb572 ≠ gb581)); have n10_ := Aside0.mk ((by rw [hg]; exact Nat.ne_of_gt (blk_lt (g := gb572) (o := .cells #[.int .i64 t567, .int .i64 t568, .slice Ao25 t569.length co25] 30 (0, 0)) (by (with_reducible repeat (first | refine blk_drewN ?_ _ | refine blk_drew ?_ | refine blk_alloc ?_ _)); exact BK572.out)) : gb581 ≠ gb572)); clear HO566; clear HO571; clear HO575; clear HO580; clear BK572; clear HB; have HO566 := n0_; have HO571 := n1_; have HO575 := n2_; have HO580 := n3_; have BK572 := n4_; have HB := n5_; have BK581 := n6_; have GW581 := n7_; have GE581 := n8_; have NB572_581 := n9_; have NB581_572 := n10_; clear n0_ n1_ n2_ n3_ n4_ n5_ n6_ n7_ n8_ n9_ n10_; clear hb hbox hg; have hnb30 := NB581_572.out; have hnc30 := NB572_581.out; have hcz31_0 : w29.cell? ⟨gb581, 0, none⟩ = some (.int .i64 0) := (blk_cell BK581.out 0).trans rfl; have hcz31_1 : w29.cell? ⟨gb581, 1, none⟩ = some (.int .i64 0) := (blk_cell BK581.out 1).trans rfl; have hcz31_2 : w29.cell? ⟨gb581, 2, none⟩ = some (.slice none 0 0) := (blk_cell BK581.out 2).trans rfl; have hfz31_0 := blk_frozen BK581.out 0; have hfz31_1 := blk_frozen BK581.out 1; have hfz31_2 := blk_frozen BK581.out 2; obtain ⟨Ao32, co32, eo32⟩ := Kd.R_slice HO580.out; subst eo32; have hcz33_0 : w29.cell? ⟨gb572, 0, none⟩ = some (.int .i64 t567) := (blk_cell BK572.out 0).trans rfl; have hcz33_1 : w29.cell? ⟨gb572, 1, none⟩ = some (.int .i64 t568) := (blk_cell BK572.out 1).trans rfl; have hcz33_2 : w29.cell? ⟨gb572, 2, none⟩ = some (.slice Ao25 t569.length co25) := (blk_cell BK572.out 2).trans rfl; have hfz33_0 := blk_frozen BK572.out 0; have hfz33_1 := blk_frozen BK572.out 1; have hfz33_2 := blk_frozen BK572.out 2) | ((with_reducible refine gate_callee (f := 26) rfl ?_); refine goesL_ (some 45) rfl rfl Try.func26 (by kernel_rfl) rfl #[.agg #[.int .i64 t576, .int .i64 t577, .slice Ao32 t578.length co32], .agg #[.int .i64 t567, .int .i64 t568, .slice Ao25 t569.length co25]] rfl (by (try simp only [List.map_toArray, List.map_cons, List.map_nil]); first | done | rfl | (simp only [List.length_drop, List.length_take]; rfl)) ?_; (with_reducible refine (laws_eqTermResult.calls k t576 t577 _ _ t578 t567 t568 _ _ t569 true _ ?side1 ?side2 ?side3 ?side4 A13.out).mono ?_); (case side1 => refine (Kd.R_reads' (e := 26) (base := w.heap.size) (ok := fun k_ => (((True ∧ some k_ ≠ (.slice Ao21 t564.length co21 : Value).ownBlock) ∧ some k_ ≠ (.slice Ao25 t569.length co25 : Value).ownBlock) ∧ some k_ ≠ (.slice Ao27 t573.length co27 : Value).ownBlock)) (n := t578.length) (c := co32) ?_).2.2; exact (by (with_reducible repeat (first | apply Kd.R_alloc | apply Kd.R_drewN | apply Kd.R_drew)); exact (Kd.R_mono (Kd.R_far (p := ⟨gb581, 2, none⟩) (Kd.R_far (p := ⟨gb581, 1, none⟩) (Kd.R_far (p := ⟨gb581, 0, none⟩) (Kd.R_types HO580.out BK581.out (by decide)) (fun _ hk => hk.2) (.int .i64 t576)) (fun _ hk => hk.2) (.int .i64 t577)) (fun _ hk => hk.2) (.slice Ao32 t578.length co32)) (fun _ h_ => h_.1)))); (case side2 => exact (Kd.R_reads' HO580.out).2.1); (case side3 => refine (Kd.R_reads' (e := 26) (base := w.heap.size) (ok := fun k_ => (((True ∧ some k_ ≠ (.slice Ao21 t564.length co21 : Value).ownBlock) ∧ some k_ ≠ (.slice Ao27 t573.length co27 : Value).ownBlock) ∧ some k_ ≠ (.slice Ao32 t578.length co32 : Value).ownBlock)) (n := t569.length) (c := co25) ?_).2.2; exact (by (with_reducible repeat (first | apply Kd.R_alloc | apply Kd.R_drewN | apply Kd.R_drew)); exact (Kd.R_mono (Kd.R_far (p := ⟨gb581, 2, none⟩) (Kd.R_far (p := ⟨gb581, 1, none⟩) (Kd.R_far (p := ⟨gb581, 0, none⟩) (Kd.R_types HO571.out BK581.out (by decide)) (fun _ hk => hk.2) (.int .i64 t576)) (fun _ hk => hk.2) (.int .i64 t577)) (fun _ hk => hk.2) (.slice Ao32 t578.length co32)) (fun _ h_ => h_.1)))); (case side4 => exact (Kd.R_reads' HO571.out).2.1); rintro e w34 ⟨rfl, hb⟩; refine ⟨_, rfl, ?_⟩; have n0_ := Aside0.mk (Kd.R_below (by (with_reducible repeat (first | apply Kd.R_alloc | apply Kd.R_drewN | apply Kd.R_drew)); exact (Kd.R_mono (Kd.R_far (p := ⟨gb581, 2, none⟩) (Kd.R_far (p := ⟨gb581, 1, none⟩) (Kd.R_far (p := ⟨gb581, 0, none⟩) (Kd.R_types HO566.out BK581.out (by decide)) (fun _ hk => hk.2) (.int .i64 t576)) (fun _ hk => hk.2) (.int .i64 t577)) (fun _ hk => hk.2) (.slice Ao32 t578.length co32)) (fun _ h_ => h_.1))) hb); have n1_ := Aside0.mk (Kd.R_below (by (with_reducible repeat (first | apply Kd.R_alloc | apply Kd.R_drewN | apply Kd.R_drew)); exact (Kd.R_mono (Kd.R_far (p := ⟨gb581, 2, none⟩) (Kd.R_far (p := ⟨gb581, 1, none⟩) (Kd.R_far (p := ⟨gb581, 0, none⟩) (Kd.R_types HO571.out BK581.out (by decide)) (fun _ hk => hk.2) (.int .i64 t576)) (fun _ hk => hk.2) (.int .i64 t577)) (fun _ hk => hk.2) (.slice Ao32 t578.length co32)) (fun _ h_ => h_.1))) hb); have n2_ := Aside0.mk (Kd.R_below (by (with_reducible repeat (first | apply Kd.R_alloc | apply Kd.R_drewN | apply Kd.R_drew)); exact (Kd.R_mono (Kd.R_far (p := ⟨gb581, 2, none⟩) (Kd.R_far (p := ⟨gb581, 1, none⟩) (Kd.R_far (p := ⟨gb581, 0, none⟩) (Kd.R_types HO575.out BK581.out (by decide)) (fun _ hk => hk.2) (.int .i64 t576)) (fun _ hk => hk.2) (.int .i64 t577)) (fun _ hk => hk.2) (.slice Ao32 t578.length co32)) (fun _ h_ => h_.1))) hb); have n3_ := Aside0.mk (Kd.R_below (by (with_reducible repeat (first | apply Kd.R_alloc | apply Kd.R_drewN | apply Kd.R_drew)); exact (Kd.R_mono (Kd.R_far (p := ⟨gb581, 2, none⟩) (Kd.R_far (p := ⟨gb581, 1, none⟩) (Kd.R_far (p := ⟨gb581, 0, none⟩) (Kd.R_types HO580.out BK581.out (by decide)) (fun _ hk => hk.2) (.int .i64 t576)) (fun _ hk => hk.2) (.int .i64 t577)) (fun _ hk => hk.2) (.slice Ao32 t578.length co32)) (fun _ h_ => h_.1))) hb); have n4_ := Aside0.mk (blk_below (g := gb572) (o := .cells #[.int .i64 t567, .int .i64 t568, .slice Ao25 t569.length co25] 30 (0, 0)) (by (with_reducible repeat (first | refine blk_drewN ?_ _ | refine blk_drew ?_ | refine blk_alloc ?_ _)); refine blk_far ?_ NB572_581.out _; (with_reducible repeat (first | refine blk_drewN ?_ _ | refine blk_drew ?_ | refine blk_alloc ?_ _)); refine blk_far ?_ NB572_581.out _; (with_reducible repeat (first | refine blk_drewN ?_ _ | refine blk_drew ?_ | refine blk_alloc ?_ _)); refine blk_far ?_ NB572_581.out _; (with_reducible repeat (first | refine blk_drewN ?_ _ | refine blk_drew ?_ | refine blk_alloc ?_ _)); exact BK572.out) hb); have n5_ := Aside0.mk (blk_below (g := gb581) (o := .cells #[.int .i64 t576, .int .i64 t577, .slice Ao32 t578.length co32] 30 (0, 0)) (by (with_reducible repeat (first | refine blk_drewN ?_ _ | refine blk_drew ?_ | refine blk_alloc ?_ _)); refine blk_put (cs := #[.int .i64 t576, .int .i64 t577, .slice none 0 0]) ?_ 2 _ rfl; (with_reducible repeat (first | refine blk_drewN ?_ _ | refine blk_drew ?_ | refine blk_alloc ?_ _)); refine blk_put (cs := #[.int .i64 t576, .int .i64 0, .slice none 0 0]) ?_ 1 _ rfl; (with_reducible repeat (first | refine blk_drewN ?_ _ | refine blk_drew ?_ | refine blk_alloc ?_ _)); refine blk_put (cs := #[.int .i64 0, .int .i64 0, .slice none 0 0]) ?_ 0 _ rfl; (with_reducible repeat (first | refine blk_drewN ?_ _ | refine blk_drew ?_ | refine blk_alloc ?_ _)); exact BK581.out) hb); have n6_ := Aside0.mk (below_step (by repeat (first | (with_reducible first | exact HB.out | apply below_alloc | apply pw_below_drewN | apply below_drew1 | refine below_set ?_ GE572.out | refine below_set ?_ GE581.out) | exact HB.out)) hb); clear HO566; clear HO571; clear HO575; clear HO580; clear BK572; clear BK581; clear HB; have HO566 := n0_; have HO571 := n1_; have HO575 := n2_; have HO580 := n3_; have BK572 := n4_; have BK581 := n5_; have HB := n6_; clear n0_ n1_ n2_ n3_ n4_ n5_ n6_; (try clear hb); (try clear hb2); (try clear hk); (try clear hi)) | ((with_reducible refine gate_callee (f := 23) rfl ?_); refine goesL_ (some 49) rfl rfl Try.func23 (by kernel_rfl) rfl #[.slice A0 l0.length c0] rfl (by (try simp only [List.map_toArray, List.map_cons, List.map_nil]); first | done | rfl | (simp only [List.length_drop, List.length_take]; rfl)) ?_; (with_reducible refine (laws_toTermS.calls k _ _ l0 t583 _ ?side1 ?side2 A15.out).mono ?_); (case side1 => repeat (first | exact (Kd.C_below HR0.out HB.out) | (with_reducible refine Kd.C_alloc ?_ _) | (with_reducible refine Kd.C_drewN ?_ _) | (with_reducible refine Kd.C_drew ?_))); (case side2 => exact HC0.out); rintro e w35 ⟨v584, rfl, ho0, hb⟩; refine ⟨_, rfl, ?_⟩; have n0_ := Aside0.mk (Kd.R_elder' (by (with_reducible repeat (first | apply Kd.R_alloc | apply Kd.R_drewN | apply Kd.R_drew)); exact HO566.out) (Kd.R_base ho0) hb); have n1_ := Aside0.mk (Kd.R_elder' (by (with_reducible repeat (first | apply Kd.R_alloc | apply Kd.R_drewN | apply Kd.R_drew)); exact HO571.out) (Kd.R_base ho0) hb); have n2_ := Aside0.mk (Kd.R_elder' (by (with_reducible repeat (first | apply Kd.R_alloc | apply Kd.R_drewN | apply Kd.R_drew)); exact HO575.out) (Kd.R_base ho0) hb); have n3_ := Aside0.mk (Kd.R_elder' (by (with_reducible repeat (first | apply Kd.R_alloc | apply Kd.R_drewN | apply Kd.R_drew)); exact HO580.out) (Kd.R_base ho0) hb); have n4_ := Aside0.mk (Kd.R_lower (Kd.R_new' (Kd.R_new' (Kd.R_new' (Kd.R_new' ho0 (Kd.R_lt (by (with_reducible repeat (first | apply Kd.R_alloc | apply Kd.R_drewN | apply Kd.R_drew)); exact HO566.out))) (Kd.R_lt (by (with_reducible repeat (first | apply Kd.R_alloc | apply Kd.R_drewN | apply Kd.R_drew)); exact HO571.out))) (Kd.R_lt (by (with_reducible repeat (first | apply Kd.R_alloc | apply Kd.R_drewN | apply Kd.R_drew)); exact HO575.out))) (Kd.R_lt (by (with_reducible repeat (first | apply Kd.R_alloc | apply Kd.R_drewN | apply Kd.R_drew)); exact HO580.out))) (below_size (by repeat (first | (with_reducible first | exact HB.out | apply below_alloc | apply pw_below_drewN | apply below_drew1 | refine below_set ?_ GE572.out | refine below_set ?_ GE581.out) | exact HB.out)))); have n5_ := Aside0.mk (blk_below (g := gb572) (o := .cells #[.int .i64 t567, .int .i64 t568, .slice Ao25 t569.length co25] 30 (0, 0)) (by (with_reducible repeat (first | refine blk_drewN ?_ _ | refine blk_drew ?_ | refine blk_alloc ?_ _)); exact BK572.out) hb); have n6_ := Aside0.mk (blk_below (g := gb581) (o := .cells #[.int .i64 t576, .int .i64 t577, .slice Ao32 t578.length co32] 30 (0, 0)) (by (with_reducible repeat (first | refine blk_drewN ?_ _ | refine blk_drew ?_ | refine blk_alloc ?_ _)); exact BK581.out) hb); have n7_ := Aside0.mk (below_step (by repeat (first | (with_reducible first | exact HB.out | apply below_alloc | apply pw_below_drewN | apply below_drew1 | refine below_set ?_ GE572.out | refine below_set ?_ GE581.out) | exact HB.out)) hb); clear HO566; clear HO571; clear HO575; clear HO580; clear BK572; clear BK581; clear HB; have HO566 := n0_; have HO571 := n1_; have HO575 := n2_; have HO580 := n3_; have HO585 := n4_; have BK572 := n5_; have BK581 := n6_; have HB := n7_; clear n0_ n1_ n2_ n3_ n4_ n5_ n6_ n7_; (try clear hb); (try clear hb2); (try clear hk); (try clear hi); (try clear ho0); obtain ⟨Ao36, co36, eo36⟩ := Kd.R_slice HO585.out; subst eo36) | ((with_reducible refine gate_callee (f := 27) rfl ?_); refine goesL_ (some 50) rfl rfl Try.func27 (by kernel_rfl) rfl #[.slice Ao27 t573.length co27, .slice Ao36 t583.length co36] rfl (by (try simp only [List.map_toArray, List.map_cons, List.map_nil]); first | done | rfl | (simp only [List.length_drop, List.length_take]; rfl)) ?_; (with_reducible refine (laws_eqTermS.calls k _ _ t573 _ _ t583 true _ ?side1 ?side2 ?side3 ?side4 A16.out).mono ?_); (case side1 => repeat (first | exact (Kd.R_reads' HO575.out).2.2 | (with_reducible refine Kd.C_alloc ?_ _) | (with_reducible refine Kd.C_drewN ?_ _) | (with_reducible refine Kd.C_drew ?_))); (case side2 => exact (Kd.R_reads' HO575.out).2.1); (case side3 => repeat (first | exact (Kd.R_reads' HO585.out).2.2 | (with_reducible refine Kd.C_alloc ?_ _) | (with_reducible refine Kd.C_drewN ?_ _) | (with_reducible refine Kd.C_drew ?_))); (case side4 => exact (Kd.R_reads' HO585.out).2.1); rintro e w37 ⟨rfl, hb⟩; refine ⟨_, rfl, ?_⟩; have n0_ := Aside0.mk (Kd.R_below (by (with_reducible repeat (first | apply Kd.R_alloc | apply Kd.R_drewN | apply Kd.R_drew)); exact HO566.out) hb); have n1_ := Aside0.mk (Kd.R_below (by (with_reducible repeat (first | apply Kd.R_alloc | apply Kd.R_drewN | apply Kd.R_drew)); exact HO571.out) hb); have n2_ := Aside0.mk (Kd.R_below (by (with_reducible repeat (first | apply Kd.R_alloc | apply Kd.R_drewN | apply Kd.R_drew)); exact HO575.out) hb); have n3_ := Aside0.mk (Kd.R_below (by (with_reducible repeat (first | apply Kd.R_alloc | apply Kd.R_drewN | apply Kd.R_drew)); exact HO580.out) hb); have n4_ := Aside0.mk (Kd.R_below (by (with_reducible repeat (first | apply Kd.R_alloc | apply Kd.R_drewN | apply Kd.R_drew)); exact HO585.out) hb); have n5_ := Aside0.mk (blk_below (g := gb572) (o := .cells #[.int .i64 t567, .int .i64 t568, .slice Ao25 t569.length co25] 30 (0, 0)) (by (with_reducible repeat (first | refine blk_drewN ?_ _ | refine blk_drew ?_ | refine blk_alloc ?_ _)); exact BK572.out) hb); have n6_ := Aside0.mk (blk_below (g := gb581) (o := .cells #[.int .i64 t576, .int .i64 t577, .slice Ao32 t578.length co32] 30 (0, 0)) (by (with_reducible repeat (first | refine blk_drewN ?_ _ | refine blk_drew ?_ | refine blk_alloc ?_ _)); exact BK581.out) hb); have n7_ := Aside0.mk (below_step (by repeat (first | (with_reducible first | exact HB.out | apply below_alloc | apply pw_below_drewN | apply below_drew1 | refine below_set ?_ GE572.out | refine below_set ?_ GE581.out) | exact HB.out)) hb); clear HO566; clear HO571; clear HO575; clear HO580; clear HO585; clear BK572; clear BK581; clear HB; have HO566 := n0_; have HO571 := n1_; have HO575 := n2_; have HO580 := n3_; have HO585 := n4_; have BK572 := n5_; have BK581 := n6_; have HB := n7_; clear n0_ n1_ n2_ n3_ n4_ n5_ n6_ n7_; (try clear hb); (try clear hb2); (try clear hk); (try clear hi)) | ((with_reducible refine gate_callee (f := 29) rfl ?_); refine goesL_ (some 54) rfl rfl Try.func29 (by kernel_rfl) rfl #[.slice Ao27 t573.length co27, .int .i64 1] rfl (by (try simp only [List.map_toArray, List.map_cons, List.map_nil]); first | done | rfl | (simp only [List.length_drop, List.length_take]; rfl)) ?_; (with_reducible refine (laws_markTermS.calls k (fun k_ => some k_ = (.slice Ao27 t573.length co27 : Value).ownBlock) (.slice Ao27 t573.length co27) t573 1 t587 t588 w _ ?side1 ?side2 A18.out).mono ?_); (case side1 => repeat (first | (with_reducible first | exact HB.out | apply below_alloc | apply pw_below_drewN | apply below_drew1 | refine below_set ?_ GE572.out | refine below_set ?_ GE581.out) | exact HB.out)); (case side2 => exact Kd.R_tight rfl HO575.out); rintro e w38 ⟨rfl, hy0, hb, hkp⟩; refine ⟨_, rfl, ?_⟩; have n0_ := Aside0.mk (Kd.R_mono (ok' := fun k_ => some k_ ≠ (.slice Ao25 t569.length co25 : Value).ownBlock ∧ some k_ ≠ (.slice Ao27 t573.length co27 : Value).ownBlock ∧ some k_ ≠ (.slice Ao32 t578.length co32 : Value).ownBlock ∧ some k_ ≠ (.slice Ao36 t583.length co36 : Value).ownBlock) (Kd.R_keptB (HO566.out) hkp (fun k_ hk_ hs_ => (hk_.1.1.2) hs_)) (fun k_ hk_ => ⟨hk_.1.1.1.1.2, hk_.1.1.1.2, hk_.1.1.2, hk_.1.2⟩)); have n1_ := Aside0.mk (Kd.R_mono (ok' := fun k_ => some k_ ≠ (.slice Ao21 t564.length co21 : Value).ownBlock ∧ some k_ ≠ (.slice Ao27 t573.length co27 : Value).ownBlock ∧ some k_ ≠ (.slice Ao32 t578.length co32 : Value).ownBlock ∧ some k_ ≠ (.slice Ao36 t583.length co36 : Value).ownBlock) (Kd.R_keptB (HO571.out) hkp (fun k_ hk_ hs_ => (hk_.1.1.2) hs_)) (fun k_ hk_ => ⟨hk_.1.1.1.1.2, hk_.1.1.1.2, hk_.1.1.2, hk_.1.2⟩)); have n2_ := Aside0.mk (blk_kept (by (with_reducible repeat (first | refine blk_drewN ?_ _ | refine blk_drew ?_ | refine blk_alloc ?_ _)); exact BK572.out) hkp (fun hs_ => (fun e_ => (Kd.R_ne HO575.out BK572.out (by decide)) e_) hs_)); have n3_ := Aside0.mk (Kd.R_reok rfl hy0 (fun k_ e_ => HO575.out.1 k_ e_)); have n4_ := Aside0.mk (Kd.R_mono (ok' := fun k_ => some k_ ≠ (.slice Ao21 t564.length co21 : Value).ownBlock ∧ some k_ ≠ (.slice Ao25 t569.length co25 : Value).ownBlock ∧ some k_ ≠ (.slice Ao27 t573.length co27 : Value).ownBlock ∧ some k_ ≠ (.slice Ao36 t583.length co36 : Value).ownBlock) (Kd.R_keptB (HO580.out) hkp (fun k_ hk_ hs_ => (hk_.1.2) hs_)) (fun k_ hk_ => ⟨hk_.1.1.1.1.2, hk_.1.1.1.2, hk_.1.1.2, hk_.1.2⟩)); have n5_ := Aside0.mk (blk_kept (by (with_reducible repeat (first | refine blk_drewN ?_ _ | refine blk_drew ?_ | refine blk_alloc ?_ _)); exact BK581.out) hkp (fun hs_ => (fun e_ => (Kd.R_ne HO575.out BK581.out (by decide)) e_) hs_)); have n6_ := Aside0.mk (Kd.R_mono (ok' := fun k_ => some k_ ≠ (.slice Ao21 t564.length co21 : Value).ownBlock ∧ some k_ ≠ (.slice Ao25 t569.length co25 : Value).ownBlock ∧ some k_ ≠ (.slice Ao27 t573.length co27 : Value).ownBlock ∧ some k_ ≠ (.slice Ao32 t578.length co32 : Value).ownBlock) (Kd.R_keptB (HO585.out) hkp (fun k_ hk_ hs_ => (hk_.1.2) hs_)) (fun k_ hk_ => ⟨hk_.1.1.1.1.2, hk_.1.1.1.2, hk_.1.1.2, hk_.1.2⟩)); have n7_ := Aside0.mk (hb); clear HO566; clear HO571; clear BK572; clear HO575; clear HO580; clear BK581; clear HO585; clear HB; have HO566 := n0_; have HO571 := n1_; have BK572 := n2_; have HO575 := n3_; have HO580 := n4_; have BK581 := n5_; have HO585 := n6_; have HB := n7_; clear n0_ n1_ n2_ n3_ n4_ n5_ n6_ n7_; (try clear hb); (try clear hkp); (try clear hy0)))
    (try simp only [Act.put, lA_, lZ_, lS_])
    go_cut [62] (fun v62 wc => ∃ (kq : Nat) (x62_18 : Bool), v62 = .bool x62_18 ∧ Aside0 (laws_FnExactMakeProof.j0 kq l0 a1 a2 a3 a4 a5 x62_18 t567 t568 t569 t576 t577 t578 = some true) ∧ Aside0 (kq ≤ k) ∧ Aside0 (Kd.R k26 26 wc w.heap.size (fun k_ => some k_ ≠ ((.slice Ao32 t578.length co32) : Value).ownBlock) (.slice Ao25 t569.length co25) t569) ∧ Aside0 (Kd.R k26 26 wc w.heap.size (fun k_ => some k_ ≠ ((.slice Ao25 t569.length co25) : Value).ownBlock) (.slice Ao32 t578.length co32) t578) ∧ Aside0 (wc.heap[gb572]? = some (.cells #[.int .i64 t567, .int .i64 t568, (.slice Ao25 t569.length co25)] 30 (0, 0))) ∧ Aside0 (wc.heap[gb581]? = some (.cells #[.int .i64 t576, .int .i64 t577, (.slice Ao32 t578.length co32)] 30 (0, 0))) ∧ Aside0 (Below w.heap.size w wc))
    case first =>
     have H := HC19.out
     clear HC19
     by_cases c39 : t587 < 0
     ·rw [if_pos c39] at H
      have c39b0 : decide (t587 < 0) = true := decide_eq_true c39
      clear c39
      (first | rw [c39b0] | (simp only [i64_w, i32_w]; rw [c39b0]) | skip)
      have H' := Aside0.mk H
      clear H
      go_wp2
      go_meet
      case rel => exact ⟨_, (true), (by first | rfl | (simp; done) | (simp [*]; done)), H', ⟨by first | omega | exact Nat.le_refl _⟩, ⟨by (with_reducible repeat (first | apply Kd.R_alloc | apply Kd.R_drewN | apply Kd.R_drew)); exact Kd.R_mono HO571.out (fun _ hk => hk.2.2.1)⟩, ⟨by (with_reducible repeat (first | apply Kd.R_alloc | apply Kd.R_drewN | apply Kd.R_drew)); exact Kd.R_mono HO580.out (fun _ hk => hk.2.1)⟩, ⟨by (with_reducible repeat (first | refine blk_drewN ?_ _ | refine blk_drew ?_ | refine blk_alloc ?_ _)); exact BK572.out⟩, ⟨by (with_reducible repeat (first | refine blk_drewN ?_ _ | refine blk_drew ?_ | refine blk_alloc ?_ _)); exact BK581.out⟩, ⟨by repeat (first | (with_reducible first | exact HB.out | apply below_alloc | apply pw_below_drewN | apply below_drew1 | refine below_set ?_ GE572.out | refine below_set ?_ GE581.out) | exact HB.out)⟩⟩
     ·rw [if_neg c39] at H
      have c39b0 : decide (t587 < 0) = false := decide_eq_false c39
      clear c39
      (first | rw [c39b0] | (simp only [i64_w, i32_w]; rw [c39b0]) | skip)
      replace H := Option.bind_eq_some_iff.mp H
      obtain ⟨t589, A400, H⟩ := H
      try dsimp only at H
      have A40 := Aside0.mk A400
      clear A400
      have H' := Aside0.mk H
      clear H
      have hnb41 := NB581_572.out
      have hnc41 := NB572_581.out
      have hcz42_0 : w38.cell? ⟨gb581, 0, none⟩ = some (.int .i64 t576) := (blk_cell BK581.out 0).trans rfl
      have hcz42_1 : w38.cell? ⟨gb581, 1, none⟩ = some (.int .i64 t577) := (blk_cell BK581.out 1).trans rfl
      have hcz42_2 : w38.cell? ⟨gb581, 2, none⟩ = some (.slice Ao32 t578.length co32) := (blk_cell BK581.out 2).trans rfl
      have hfz42_0 := blk_frozen BK581.out 0
      have hfz42_1 := blk_frozen BK581.out 1
      have hfz42_2 := blk_frozen BK581.out 2
      have hcz43_0 : w38.cell? ⟨gb572, 0, none⟩ = some (.int .i64 t567) := (blk_cell BK572.out 0).trans rfl
      have hcz43_1 : w38.cell? ⟨gb572, 1, none⟩ = some (.int .i64 t568) := (blk_cell BK572.out 1).trans rfl
      have hcz43_2 : w38.cell? ⟨gb572, 2, none⟩ = some (.slice Ao25 t569.length co25) := (blk_cell BK572.out 2).trans rfl
      have hfz43_0 := blk_frozen BK572.out 0
      have hfz43_1 := blk_frozen BK572.out 1
      have hfz43_2 := blk_frozen BK572.out 2
      go_wp2_with (first | (go_at_call 26; (with_reducible refine (laws_eqTermResult.calls k t576 t577 _ _ t578 t567 t568 _ _ t569 t589 _ ?side1 ?side2 ?side3 ?side4 A40.out).mono ?_); (case side1 => repeat (first | exact (Kd.R_reads' HO580.out).2.2 | (with_reducible refine Kd.C_alloc ?_ _) | (with_reducible refine Kd.C_drewN ?_ _) | (with_reducible refine Kd.C_drew ?_))); (case side2 => exact (Kd.R_reads' HO580.out).2.1); (case side3 => repeat (first | exact (Kd.R_reads' HO571.out).2.2 | (with_reducible refine Kd.C_alloc ?_ _) | (with_reducible refine Kd.C_drewN ?_ _) | (with_reducible refine Kd.C_drew ?_))); (case side4 => exact (Kd.R_reads' HO571.out).2.1); rintro e w44 ⟨rfl, hb⟩; have n0_ := Aside0.mk (Kd.R_below (by (with_reducible repeat (first | apply Kd.R_alloc | apply Kd.R_drewN | apply Kd.R_drew)); exact HO566.out) hb); have n1_ := Aside0.mk (Kd.R_below (by (with_reducible repeat (first | apply Kd.R_alloc | apply Kd.R_drewN | apply Kd.R_drew)); exact HO571.out) hb); have n2_ := Aside0.mk (Kd.R_below (by (with_reducible repeat (first | apply Kd.R_alloc | apply Kd.R_drewN | apply Kd.R_drew)); exact HO575.out) hb); have n3_ := Aside0.mk (Kd.R_below (by (with_reducible repeat (first | apply Kd.R_alloc | apply Kd.R_drewN | apply Kd.R_drew)); exact HO580.out) hb); have n4_ := Aside0.mk (Kd.R_below (by (with_reducible repeat (first | apply Kd.R_alloc | apply Kd.R_drewN | apply Kd.R_drew)); exact HO585.out) hb); have n5_ := Aside0.mk (blk_below (g := gb572) (o := .cells #[.int .i64 t567, .int .i64 t568, .slice Ao25 t569.length co25] 30 (0, 0)) (by (with_reducible repeat (first | refine blk_drewN ?_ _ | refine blk_drew ?_ | refine blk_alloc ?_ _)); exact BK572.out) hb); have n6_ := Aside0.mk (blk_below (g := gb581) (o := .cells #[.int .i64 t576, .int .i64 t577, .slice Ao32 t578.length co32] 30 (0, 0)) (by (with_reducible repeat (first | refine blk_drewN ?_ _ | refine blk_drew ?_ | refine blk_alloc ?_ _)); exact BK581.out) hb); have n7_ := Aside0.mk (below_step (by repeat (first | (with_reducible first | exact HB.out | apply below_alloc | apply pw_below_drewN | apply below_drew1 | refine below_set ?_ GE572.out | refine below_set ?_ GE581.out) | exact HB.out)) hb); clear HO566; clear HO571; clear HO575; clear HO580; clear HO585; clear BK572; clear BK581; clear HB; have HO566 := n0_; have HO571 := n1_; have HO575 := n2_; have HO580 := n3_; have HO585 := n4_; have BK572 := n5_; have BK581 := n6_; have HB := n7_; clear n0_ n1_ n2_ n3_ n4_ n5_ n6_ n7_; (try clear hb); (try clear hb2); (try clear hk); (try clear hi)))
      go_meet
      case rel => exact ⟨_, (!t589), (by first | rfl | (simp; done) | (simp [*]; done)), H', ⟨by first | omega | exact Nat.le_refl _⟩, ⟨by (with_reducible repeat (first | apply Kd.R_alloc | apply Kd.R_drewN | apply Kd.R_drew)); exact Kd.R_mono HO571.out (fun _ hk => hk.2.2.1)⟩, ⟨by (with_reducible repeat (first | apply Kd.R_alloc | apply Kd.R_drewN | apply Kd.R_drew)); exact Kd.R_mono HO580.out (fun _ hk => hk.2.1)⟩, ⟨by (with_reducible repeat (first | refine blk_drewN ?_ _ | refine blk_drew ?_ | refine blk_alloc ?_ _)); exact BK572.out⟩, ⟨by (with_reducible repeat (first | refine blk_drewN ?_ _ | refine blk_drew ?_ | refine blk_alloc ?_ _)); exact BK581.out⟩, ⟨by repeat (first | (with_reducible first | exact HB.out | apply below_alloc | apply pw_below_drewN | apply below_drew1 | refine below_set ?_ GE572.out | refine below_set ?_ GE581.out) | exact HB.out)⟩⟩
    case rest =>
     clear HC19
     try clear c1
     try clear c2
     try clear p2
     try clear c3
     try clear c4
     try clear c6
     try clear c8
     try clear c8b0
     try clear c14
     try clear c17
     try clear c21
     try clear c23
     try clear c26
     try clear c27
     try clear c29
     try clear c30
     try clear c33
     try clear c34
     try clear c39
     try clear c39b0
     try clear c41
     try clear hcz24_0
     try clear hcz24_1
     try clear hcz24_2
     try clear hcz31_0
     try clear hcz31_1
     try clear hcz31_2
     try clear hcz33_0
     try clear hcz33_1
     try clear hcz33_2
     try clear hcz42_0
     try clear hcz42_1
     try clear hcz42_2
     try clear hcz43_0
     try clear hcz43_1
     try clear hcz43_2
     try clear hfz24_0
     try clear hfz24_1
     try clear hfz24_2
     try clear hfz31_0
     try clear hfz31_1
     try clear hfz31_2
     try clear hfz33_0
     try clear hfz33_1
     try clear hfz33_2
     try clear hfz42_0
     try clear hfz42_1
     try clear hfz42_2
     try clear hfz43_0
     try clear hfz43_1
     try clear hfz43_2
     obtain ⟨kq, x62_18, rfl, HA, HJ18, HO_573002, HO_582002, BK572, BK581, HB⟩ := hcut
     cases kq with
     | zero => exact absurd HA.out (by simp [laws_FnExactMakeProof.j0])
     | succ kj18 =>
      have H := HA.out
      clear HA
      simp only [laws_FnExactMakeProof.j0] at H
      by_cases c45 : x62_18 = true
      ·subst c45
       rw [if_pos rfl] at H
       exact absurd (Option.some.inj H) (by decide)
      ·replace c45 := Bool.eq_false_iff.mpr c45
       subst c45
       rw [if_neg (show ¬ (false = true) by decide)] at H
       replace H := Option.bind_eq_some_iff.mp H
       obtain ⟨⟨t590, t591⟩, A460, H⟩ := H
       try dsimp only at H
       have A46 := Aside0.mk A460
       clear A460
       replace H := Option.bind_eq_some_iff.mp H
       obtain ⟨t592, A470, H⟩ := H
       try dsimp only at H
       have A47 := Aside0.mk A470
       clear A470
       by_cases c48 : t592 < 0
       ·rw [if_pos c48] at H
        have c48b0 : decide (t592 < 0) = true := decide_eq_true c48
        clear c48
        exact absurd (Option.some.inj H) (by decide)
       ·rw [if_neg c48] at H
        have c48b0 : decide (t592 < 0) = false := decide_eq_false c48
        clear c48
        by_cases c49 : t592 = t590
        ·rw [if_pos c49] at H
         have c49b0 : (t592 == t590) = true := beq_iff_eq.mpr c49
         have c49b1 : (t592 != t590) = false := bne_eq_false_iff_eq.mpr c49
         clear c49
         replace H := Option.bind_eq_some_iff.mp H
         obtain ⟨t593, A500, H⟩ := H
         try dsimp only at H
         have A50 := Aside0.mk A500
         clear A500
         replace H := Option.bind_eq_some_iff.mp H
         obtain ⟨⟨t596, t597, t598⟩, A510, H⟩ := H
         try dsimp only at H
         have A51 := Aside0.mk A510
         clear A510
         replace H := Option.bind_eq_some_iff.mp H
         obtain ⟨t602, A520, H⟩ := H
         try dsimp only at H
         have A52 := Aside0.mk A520
         clear A520
         by_cases c53 : t602 = true
         ·subst c53
          rw [if_pos rfl] at H
          replace H := Option.bind_eq_some_iff.mp H
          obtain ⟨t603, A540, H⟩ := H
          try dsimp only at H
          have A54 := Aside0.mk A540
          clear A540
          by_cases c55 : t603 < 0
          ·rw [if_pos c55] at H
           have c55b0 : decide (t603 < 0) = true := decide_eq_true c55
           clear c55
           exact absurd (Option.some.inj H) (by decide)
          ·rw [if_neg c55] at H
           have c55b0 : decide (t603 < 0) = false := decide_eq_false c55
           clear c55
           by_cases c56 : t603 = t590
           ·rw [if_pos c56] at H
            have c56b0 : (t603 == t590) = true := beq_iff_eq.mpr c56
            have c56b1 : (t603 != t590) = false := bne_eq_false_iff_eq.mpr c56
            clear c56
            clear H
            have hnb57 := NB581_572.out
            have hnc57 := NB572_581.out
            have hcz58_0 : wc.cell? ⟨gb581, 0, none⟩ = some (.int .i64 t576) := (blk_cell BK581.out 0).trans rfl
            have hcz58_1 : wc.cell? ⟨gb581, 1, none⟩ = some (.int .i64 t577) := (blk_cell BK581.out 1).trans rfl
            have hcz58_2 : wc.cell? ⟨gb581, 2, none⟩ = some (.slice Ao32 t578.length co32) := (blk_cell BK581.out 2).trans rfl
            have hfz58_0 := blk_frozen BK581.out 0
            have hfz58_1 := blk_frozen BK581.out 1
            have hfz58_2 := blk_frozen BK581.out 2
            go_wp2_with (first | ((with_reducible refine gate_callee (f := 31) rfl ?_); refine goesL_ (some 65) rfl rfl Try.func31 (by kernel_rfl) rfl #[.agg #[.int .i64 t576, .int .i64 t577, .slice Ao32 t578.length co32], .int .i64 1] rfl (by (try simp only [List.map_toArray, List.map_cons, List.map_nil]); first | done | rfl | (simp only [List.length_drop, List.length_take]; rfl)) ?_; (with_reducible refine (laws_markTermResult.calls kj18 t576 t577 (fun k_ => some k_ = (.slice Ao32 t578.length co32 : Value).ownBlock) (.slice Ao32 t578.length co32) t578 1 t590 t591 w _ ?side1 ?side2 A46.out).mono ?_); (case side1 => repeat (first | (with_reducible first | exact HB.out | apply below_alloc | apply pw_below_drewN | apply below_drew1 | refine below_set ?_ GE572.out | refine below_set ?_ GE581.out) | exact HB.out)); (case side2 => exact Kd.R_tight rfl HO_582002.out); rintro e w59 ⟨rfl, hy0, hb, hkp⟩; refine ⟨_, rfl, ?_⟩; have n0_ := Aside0.mk (Kd.R_mono (ok' := fun k_ => some k_ ≠ (.slice Ao32 t578.length co32 : Value).ownBlock) (Kd.R_keptB (HO_573002.out) hkp (fun k_ hk_ hs_ => (hk_) hs_)) (fun k_ hk_ => hk_.1)); have n1_ := Aside0.mk (Kd.R_reok rfl hy0 (fun k_ e_ => HO_582002.out.1 k_ e_)); have n2_ := Aside0.mk (blk_kept (by (with_reducible repeat (first | refine blk_drewN ?_ _ | refine blk_drew ?_ | refine blk_alloc ?_ _)); exact BK572.out) hkp (fun hs_ => (fun e_ => (Kd.R_ne HO_582002.out BK572.out (by decide)) e_) hs_)); have n3_ := Aside0.mk (blk_kept (by (with_reducible repeat (first | refine blk_drewN ?_ _ | refine blk_drew ?_ | refine blk_alloc ?_ _)); exact BK581.out) hkp (fun hs_ => (fun e_ => (Kd.R_ne HO_582002.out BK581.out (by decide)) e_) hs_)); have n4_ := Aside0.mk (hb); clear HO_573002; clear HO_582002; clear BK572; clear BK581; clear HB; have HO_573002 := n0_; have HO_582002 := n1_; have BK572 := n2_; have BK581 := n3_; have HB := n4_; clear n0_ n1_ n2_ n3_ n4_; (try clear hb); (try clear hkp); (try clear hy0); have hcz60_0 : w59.cell? ⟨gb581, 0, none⟩ = some (.int .i64 t576) := (blk_cell BK581.out 0).trans rfl; have hcz60_1 : w59.cell? ⟨gb581, 1, none⟩ = some (.int .i64 t577) := (blk_cell BK581.out 1).trans rfl; have hcz60_2 : w59.cell? ⟨gb581, 2, none⟩ = some (.slice Ao32 t578.length co32) := (blk_cell BK581.out 2).trans rfl; have hfz60_0 := blk_frozen BK581.out 0; have hfz60_1 := blk_frozen BK581.out 1; have hfz60_2 := blk_frozen BK581.out 2) | ((with_reducible refine gate_callee (f := 32) rfl ?_); refine goesL_ (some 68) rfl rfl Try.func32 (by kernel_rfl) rfl #[.agg #[.int .i64 t576, .int .i64 t577, .slice Ao32 t591.length co32], .int .i64 1] rfl (by (try simp only [List.map_toArray, List.map_cons, List.map_nil]); first | done | (rw [show t591.length = t578.length from (Kd.R_reads' HO_582002.out).1.symm] <;> rfl) | rfl | (simp only [List.length_drop, List.length_take]; rfl)) ?_; (with_reducible refine (laws_heldTermResult.calls kj18 t576 t577 _ _ t591 1 t592 _ ?side1 ?side2 A47.out).mono ?_); (case side1 => repeat (first | exact (Kd.R_reads' HO_582002.out).2.2 | (with_reducible refine Kd.C_alloc ?_ _) | (with_reducible refine Kd.C_drewN ?_ _) | (with_reducible refine Kd.C_drew ?_))); (case side2 => rw [show t591.length = t578.length from (Kd.R_reads' HO_582002.out).1.symm]; exact (Kd.R_reads' HO_582002.out).2.1); rintro e w61 ⟨rfl, hb⟩; refine ⟨_, rfl, ?_⟩; have n0_ := Aside0.mk (Kd.R_below (by (with_reducible repeat (first | apply Kd.R_alloc | apply Kd.R_drewN | apply Kd.R_drew)); exact HO_573002.out) hb); have n1_ := Aside0.mk (Kd.R_below (by (with_reducible repeat (first | apply Kd.R_alloc | apply Kd.R_drewN | apply Kd.R_drew)); exact HO_582002.out) hb); have n2_ := Aside0.mk (blk_below (g := gb572) (o := .cells #[.int .i64 t567, .int .i64 t568, .slice Ao25 t569.length co25] 30 (0, 0)) (by (with_reducible repeat (first | refine blk_drewN ?_ _ | refine blk_drew ?_ | refine blk_alloc ?_ _)); exact BK572.out) hb); have n3_ := Aside0.mk (blk_below (g := gb581) (o := .cells #[.int .i64 t576, .int .i64 t577, .slice Ao32 t578.length co32] 30 (0, 0)) (by (with_reducible repeat (first | refine blk_drewN ?_ _ | refine blk_drew ?_ | refine blk_alloc ?_ _)); exact BK581.out) hb); have n4_ := Aside0.mk (below_step (by repeat (first | (with_reducible first | exact HB.out | apply below_alloc | apply pw_below_drewN | apply below_drew1 | refine below_set ?_ GE572.out | refine below_set ?_ GE581.out) | exact HB.out)) hb); clear HO_573002; clear HO_582002; clear BK572; clear BK581; clear HB; have HO_573002 := n0_; have HO_582002 := n1_; have BK572 := n2_; have BK581 := n3_; have HB := n4_; clear n0_ n1_ n2_ n3_ n4_; (try clear hb); (try clear hb2); (try clear hk); (try clear hi)) | ((with_reducible refine gate_callee (f := 23) rfl ?_); refine goesL_ (some 75) rfl rfl Try.func23 (by kernel_rfl) rfl #[.slice A0 l0.length c0] rfl (by (try simp only [List.map_toArray, List.map_cons, List.map_nil]); first | done | rfl | (simp only [List.length_drop, List.length_take]; rfl)) ?_; (with_reducible refine (laws_toTermS.calls kj18 _ _ l0 t593 _ ?side1 ?side2 A50.out).mono ?_); (case side1 => repeat (first | exact (Kd.C_below HR0.out HB.out) | (with_reducible refine Kd.C_alloc ?_ _) | (with_reducible refine Kd.C_drewN ?_ _) | (with_reducible refine Kd.C_drew ?_))); (case side2 => exact HC0.out); rintro e w62 ⟨v594, rfl, ho0, hb⟩; refine ⟨_, rfl, ?_⟩; have n0_ := Aside0.mk (Kd.R_elder' (by (with_reducible repeat (first | apply Kd.R_alloc | apply Kd.R_drewN | apply Kd.R_drew)); exact HO_573002.out) (Kd.R_base ho0) hb); have n1_ := Aside0.mk (Kd.R_elder' (by (with_reducible repeat (first | apply Kd.R_alloc | apply Kd.R_drewN | apply Kd.R_drew)); exact HO_582002.out) (Kd.R_base ho0) hb); have n2_ := Aside0.mk (Kd.R_lower (Kd.R_new' (Kd.R_new' ho0 (Kd.R_lt (by (with_reducible repeat (first | apply Kd.R_alloc | apply Kd.R_drewN | apply Kd.R_drew)); exact HO_573002.out))) (Kd.R_lt (by (with_reducible repeat (first | apply Kd.R_alloc | apply Kd.R_drewN | apply Kd.R_drew)); exact HO_582002.out))) (below_size (by repeat (first | (with_reducible first | exact HB.out | apply below_alloc | apply pw_below_drewN | apply below_drew1 | refine below_set ?_ GE572.out | refine below_set ?_ GE581.out) | exact HB.out)))); have n3_ := Aside0.mk (blk_below (g := gb572) (o := .cells #[.int .i64 t567, .int .i64 t568, .slice Ao25 t569.length co25] 30 (0, 0)) (by (with_reducible repeat (first | refine blk_drewN ?_ _ | refine blk_drew ?_ | refine blk_alloc ?_ _)); exact BK572.out) hb); have n4_ := Aside0.mk (blk_below (g := gb581) (o := .cells #[.int .i64 t576, .int .i64 t577, .slice Ao32 t578.length co32] 30 (0, 0)) (by (with_reducible repeat (first | refine blk_drewN ?_ _ | refine blk_drew ?_ | refine blk_alloc ?_ _)); exact BK581.out) hb); have n5_ := Aside0.mk (below_step (by repeat (first | (with_reducible first | exact HB.out | apply below_alloc | apply pw_below_drewN | apply below_drew1 | refine below_set ?_ GE572.out | refine below_set ?_ GE581.out) | exact HB.out)) hb); clear HO_573002; clear HO_582002; clear BK572; clear BK581; clear HB; have HO_573002 := n0_; have HO_582002 := n1_; have HO595 := n2_; have BK572 := n3_; have BK581 := n4_; have HB := n5_; clear n0_ n1_ n2_ n3_ n4_ n5_; (try clear hb); (try clear hb2); (try clear hk); (try clear hi); (try clear ho0); obtain ⟨Ao63, co63, eo63⟩ := Kd.R_slice HO595.out; subst eo63) | ((with_reducible refine gate_callee (f := 34) rfl ?_); refine goesL_ (some 81) rfl rfl Try.func34 (by kernel_rfl) rfl #[.slice Ao63 t593.length co63, .int .i64 a1, .int .i64 a2, .int .i64 a3, .int .i64 a4, .int .i64 a5] rfl (by (try simp only [List.map_toArray, List.map_cons, List.map_nil]); first | done | rfl | (simp only [List.length_drop, List.length_take]; rfl)) ?_; (with_reducible refine (impl_MakeProof.calls kj18 _ _ t593 a1 a2 a3 a4 a5 t596 t597 t598 _ ?side1 ?side2 A51.out).mono ?_); (case side1 => repeat (first | exact (Kd.R_reads' HO595.out).2.2 | (with_reducible refine Kd.C_alloc ?_ _) | (with_reducible refine Kd.C_drewN ?_ _) | (with_reducible refine Kd.C_drew ?_))); (case side2 => exact (Kd.R_reads' HO595.out).2.1); rintro e w64 ⟨v599, rfl, ho0, hb⟩; refine ⟨_, rfl, ?_⟩; have n0_ := Aside0.mk (Kd.R_elder' (by (with_reducible repeat (first | apply Kd.R_alloc | apply Kd.R_drewN | apply Kd.R_drew)); exact HO_573002.out) (Kd.R_base ho0) hb); have n1_ := Aside0.mk (Kd.R_elder' (by (with_reducible repeat (first | apply Kd.R_alloc | apply Kd.R_drewN | apply Kd.R_drew)); exact HO_582002.out) (Kd.R_base ho0) hb); have n2_ := Aside0.mk (Kd.R_elder' (by (with_reducible repeat (first | apply Kd.R_alloc | apply Kd.R_drewN | apply Kd.R_drew)); exact HO595.out) (Kd.R_base ho0) hb); have n3_ := Aside0.mk (Kd.R_lower (Kd.R_new' (Kd.R_new' (Kd.R_new' ho0 (Kd.R_lt (by (with_reducible repeat (first | apply Kd.R_alloc | apply Kd.R_drewN | apply Kd.R_drew)); exact HO_573002.out))) (Kd.R_lt (by (with_reducible repeat (first | apply Kd.R_alloc | apply Kd.R_drewN | apply Kd.R_drew)); exact HO_582002.out))) (Kd.R_lt (by (with_reducible repeat (first | apply Kd.R_alloc | apply Kd.R_drewN | apply Kd.R_drew)); exact HO595.out))) (below_size (by repeat (first | (with_reducible first | exact HB.out | apply below_alloc | apply pw_below_drewN | apply below_drew1 | refine below_set ?_ GE572.out | refine below_set ?_ GE581.out) | exact HB.out)))); have n4_ := Aside0.mk (blk_below (g := gb572) (o := .cells #[.int .i64 t567, .int .i64 t568, .slice Ao25 t569.length co25] 30 (0, 0)) (by (with_reducible repeat (first | refine blk_drewN ?_ _ | refine blk_drew ?_ | refine blk_alloc ?_ _)); exact BK572.out) hb); have n5_ := Aside0.mk (blk_below (g := gb581) (o := .cells #[.int .i64 t576, .int .i64 t577, .slice Ao32 t578.length co32] 30 (0, 0)) (by (with_reducible repeat (first | refine blk_drewN ?_ _ | refine blk_drew ?_ | refine blk_alloc ?_ _)); exact BK581.out) hb); have n6_ := Aside0.mk (below_step (by repeat (first | (with_reducible first | exact HB.out | apply below_alloc | apply pw_below_drewN | apply below_drew1 | refine below_set ?_ GE572.out | refine below_set ?_ GE581.out) | exact HB.out)) hb); clear HO_573002; clear HO_582002; clear HO595; clear BK572; clear BK581; clear HB; have HO_573002 := n0_; have HO_582002 := n1_; have HO595 := n2_; have HO600 := n3_; have BK572 := n4_; have BK581 := n5_; have HB := n6_; clear n0_ n1_ n2_ n3_ n4_ n5_ n6_; (try clear hb); (try clear hb2); (try clear hk); (try clear hi); (try clear ho0)) | ((with_reducible refine gate_dst (N := 20) rfl ?_); refine box_event ?hg (N := 20) ?hd (cs := #[.int .i64 0, .int .i64 0, .slice none 0 0]) (t := 30) ?hr ?_; (case hd => rfl); (case hg => rfl); (case hr => first | (go_simp; done) | (go_simp; rfl)); intro gb601 hg w65 hbox hb; have n0_ := Aside0.mk (Kd.R_below (by (with_reducible repeat (first | apply Kd.R_alloc | apply Kd.R_drewN | apply Kd.R_drew)); exact HO_573002.out) hb); have n1_ := Aside0.mk (Kd.R_below (by (with_reducible repeat (first | apply Kd.R_alloc | apply Kd.R_drewN | apply Kd.R_drew)); exact HO_582002.out) hb); have n2_ := Aside0.mk (Kd.R_below (by (with_reducible repeat (first | apply Kd.R_alloc | apply Kd.R_drewN | apply Kd.R_drew)); exact HO595.out) hb); have n3_ := Aside0.mk (Kd.R_below (by (with_reducible repeat (first | apply Kd.R_alloc | apply Kd.R_drewN | apply Kd.R_drew)); exact HO600.out) hb); have n4_ := Aside0.mk (blk_below (g := gb572) (o := .cells #[.int .i64 t567, .int .i64 t568, .slice Ao25 t569.length co25] 30 (0, 0)) (by (with_reducible repeat (first | refine blk_drewN ?_ _ | refine blk_drew ?_ | refine blk_alloc ?_ _)); exact BK572.out) hb); have n5_ := Aside0.mk (blk_below (g := gb581) (o := .cells #[.int .i64 t576, .int .i64 t577, .slice Ao32 t578.length co32] 30 (0, 0)) (by (with_reducible repeat (first | refine blk_drewN ?_ _ | refine blk_drew ?_ | refine blk_alloc ?_ _)); exact BK581.out) hb); have n6_ := Aside0.mk (below_step (by repeat (first | (with_reducible first | exact HB.out | apply below_alloc | apply pw_below_drewN | apply below_drew1 | refine below_set ?_ GE572.out | refine below_set ?_ GE581.out) | exact HB.out)) hb); have n7_ := Aside0.mk (hbox); have n8_ := Aside0.mk ((by rw [hg]; exact (below_size (by repeat (first | (with_reducible first | exact HB.out | apply below_alloc | apply pw_below_drewN | apply below_drew1 | refine below_set ?_ GE572.out | refine below_set ?_ GE581.out) | exact HB.out))) : w.heap.size ≤ gb601)); have n9_ := Aside0.mk ((by rw [hg]; exact (below_size (by repeat (first | (with_reducible first | exact HB.out | apply below_alloc | apply pw_below_drewN | apply below_drew1 | refine below_set ?_ GE572.out | refine below_set ?_ GE581.out) | exact HB.out))) : w.heap.size ≤ gb601)); have n10_ := Aside0.mk ((by rw [hg]; exact Nat.ne_of_lt (blk_lt (g := gb572) (o := .cells #[.int .i64 t567, .int .i64 t568, .slice Ao25 t569.length co25] 30 (0, 0)) (by (with_reducible repeat (first | refine blk_drewN ?_ _ | refine blk_drew ?_ | refine blk_alloc ?_ _)); exact BK572.out)) : gb572 ≠ gb601)); have n11_ := Aside0.mk ((by rw [hg]; exact Nat.ne_of_gt (blk_lt (g := gb572) (o := .cells #[.int .i64 t567, .int .i64 t568, .slice Ao25 t569.length co25] 30 (0, 0)) (by (with_reducible repeat (first | refine blk_drewN ?_ _ | refine blk_drew ?_ | refine blk_alloc ?_ _)); exact BK572.out)) : gb601 ≠ gb572)); have n12_ := Aside0.mk ((by rw [hg]; exact Nat.ne_of_lt (blk_lt (g := gb581) (o := .cells #[.int .i64 t576, .int .i64 t577, .slice Ao32 t578.length co32] 30 (0, 0)) (by (with_reducible repeat (first | refine blk_drewN ?_ _ | refine blk_drew ?_ | refine blk_alloc ?_ _)); exact BK581.out)) : gb581 ≠ gb601)); have n13_ := Aside0.mk ((by rw [hg]; exact Nat.ne_of_gt (blk_lt (g := gb581) (o := .cells #[.int .i64 t576, .int .i64 t577, .slice Ao32 t578.length co32] 30 (0, 0)) (by (with_reducible repeat (first | refine blk_drewN ?_ _ | refine blk_drew ?_ | refine blk_alloc ?_ _)); exact BK581.out)) : gb601 ≠ gb581)); clear HO_573002; clear HO_582002; clear HO595; clear HO600; clear BK572; clear BK581; clear HB; have HO_573002 := n0_; have HO_582002 := n1_; have HO595 := n2_; have HO600 := n3_; have BK572 := n4_; have BK581 := n5_; have HB := n6_; have BK601 := n7_; have GW601 := n8_; have GE601 := n9_; have NB572_601 := n10_; have NB601_572 := n11_; have NB581_601 := n12_; have NB601_581 := n13_; clear n0_ n1_ n2_ n3_ n4_ n5_ n6_ n7_ n8_ n9_ n10_ n11_ n12_ n13_; clear hb hbox hg; have hnb66 := NB601_572.out; have hnc66 := NB572_601.out; have hnb67 := NB601_581.out; have hnc67 := NB581_601.out; have hcz68_0 : w65.cell? ⟨gb601, 0, none⟩ = some (.int .i64 0) := (blk_cell BK601.out 0).trans rfl; have hcz68_1 : w65.cell? ⟨gb601, 1, none⟩ = some (.int .i64 0) := (blk_cell BK601.out 1).trans rfl; have hcz68_2 : w65.cell? ⟨gb601, 2, none⟩ = some (.slice none 0 0) := (blk_cell BK601.out 2).trans rfl; have hfz68_0 := blk_frozen BK601.out 0; have hfz68_1 := blk_frozen BK601.out 1; have hfz68_2 := blk_frozen BK601.out 2; obtain ⟨Ao69, co69, eo69⟩ := Kd.R_slice HO600.out; subst eo69; have hcz70_0 : w65.cell? ⟨gb572, 0, none⟩ = some (.int .i64 t567) := (blk_cell BK572.out 0).trans rfl; have hcz70_1 : w65.cell? ⟨gb572, 1, none⟩ = some (.int .i64 t568) := (blk_cell BK572.out 1).trans rfl; have hcz70_2 : w65.cell? ⟨gb572, 2, none⟩ = some (.slice Ao25 t569.length co25) := (blk_cell BK572.out 2).trans rfl; have hfz70_0 := blk_frozen BK572.out 0; have hfz70_1 := blk_frozen BK572.out 1; have hfz70_2 := blk_frozen BK572.out 2) | ((with_reducible refine gate_callee (f := 26) rfl ?_); refine goesL_ (some 84) rfl rfl Try.func26 (by kernel_rfl) rfl #[.agg #[.int .i64 t596, .int .i64 t597, .slice Ao69 t598.length co69], .agg #[.int .i64 t567, .int .i64 t568, .slice Ao25 t569.length co25]] rfl (by (try simp only [List.map_toArray, List.map_cons, List.map_nil]); first | done | rfl | (simp only [List.length_drop, List.length_take]; rfl)) ?_; (with_reducible refine (laws_eqTermResult.calls kj18 t596 t597 _ _ t598 t567 t568 _ _ t569 true _ ?side1 ?side2 ?side3 ?side4 A52.out).mono ?_); (case side1 => refine (Kd.R_reads' (e := 26) (base := w.heap.size) (ok := fun k_ => (((True ∧ some k_ ≠ (.slice Ao25 t569.length co25 : Value).ownBlock) ∧ some k_ ≠ (.slice Ao32 t578.length co32 : Value).ownBlock) ∧ some k_ ≠ (.slice Ao63 t593.length co63 : Value).ownBlock)) (n := t598.length) (c := co69) ?_).2.2; exact (by (with_reducible repeat (first | apply Kd.R_alloc | apply Kd.R_drewN | apply Kd.R_drew)); exact (Kd.R_mono (Kd.R_far (p := ⟨gb601, 2, none⟩) (Kd.R_far (p := ⟨gb601, 1, none⟩) (Kd.R_far (p := ⟨gb601, 0, none⟩) (Kd.R_types HO600.out BK601.out (by decide)) (fun _ hk => hk.2) (.int .i64 t596)) (fun _ hk => hk.2) (.int .i64 t597)) (fun _ hk => hk.2) (.slice Ao69 t598.length co69)) (fun _ h_ => h_.1)))); (case side2 => exact (Kd.R_reads' HO600.out).2.1); (case side3 => refine (Kd.R_reads' (e := 26) (base := w.heap.size) (ok := fun k_ => ((some k_ ≠ (.slice Ao32 t578.length co32 : Value).ownBlock ∧ some k_ ≠ (.slice Ao63 t593.length co63 : Value).ownBlock) ∧ some k_ ≠ (.slice Ao69 t598.length co69 : Value).ownBlock)) (n := t569.length) (c := co25) ?_).2.2; exact (by (with_reducible repeat (first | apply Kd.R_alloc | apply Kd.R_drewN | apply Kd.R_drew)); exact (Kd.R_mono (Kd.R_far (p := ⟨gb601, 2, none⟩) (Kd.R_far (p := ⟨gb601, 1, none⟩) (Kd.R_far (p := ⟨gb601, 0, none⟩) (Kd.R_types HO_573002.out BK601.out (by decide)) (fun _ hk => hk.2) (.int .i64 t596)) (fun _ hk => hk.2) (.int .i64 t597)) (fun _ hk => hk.2) (.slice Ao69 t598.length co69)) (fun _ h_ => h_.1)))); (case side4 => exact (Kd.R_reads' HO_573002.out).2.1); rintro e w71 ⟨rfl, hb⟩; refine ⟨_, rfl, ?_⟩; have n0_ := Aside0.mk (Kd.R_below (by (with_reducible repeat (first | apply Kd.R_alloc | apply Kd.R_drewN | apply Kd.R_drew)); exact (Kd.R_mono (Kd.R_far (p := ⟨gb601, 2, none⟩) (Kd.R_far (p := ⟨gb601, 1, none⟩) (Kd.R_far (p := ⟨gb601, 0, none⟩) (Kd.R_types HO_573002.out BK601.out (by decide)) (fun _ hk => hk.2) (.int .i64 t596)) (fun _ hk => hk.2) (.int .i64 t597)) (fun _ hk => hk.2) (.slice Ao69 t598.length co69)) (fun _ h_ => h_.1))) hb); have n1_ := Aside0.mk (Kd.R_below (by (with_reducible repeat (first | apply Kd.R_alloc | apply Kd.R_drewN | apply Kd.R_drew)); exact (Kd.R_mono (Kd.R_far (p := ⟨gb601, 2, none⟩) (Kd.R_far (p := ⟨gb601, 1, none⟩) (Kd.R_far (p := ⟨gb601, 0, none⟩) (Kd.R_types HO_582002.out BK601.out (by decide)) (fun _ hk => hk.2) (.int .i64 t596)) (fun _ hk => hk.2) (.int .i64 t597)) (fun _ hk => hk.2) (.slice Ao69 t598.length co69)) (fun _ h_ => h_.1))) hb); have n2_ := Aside0.mk (Kd.R_below (by (with_reducible repeat (first | apply Kd.R_alloc | apply Kd.R_drewN | apply Kd.R_drew)); exact (Kd.R_mono (Kd.R_far (p := ⟨gb601, 2, none⟩) (Kd.R_far (p := ⟨gb601, 1, none⟩) (Kd.R_far (p := ⟨gb601, 0, none⟩) (Kd.R_types HO595.out BK601.out (by decide)) (fun _ hk => hk.2) (.int .i64 t596)) (fun _ hk => hk.2) (.int .i64 t597)) (fun _ hk => hk.2) (.slice Ao69 t598.length co69)) (fun _ h_ => h_.1))) hb); have n3_ := Aside0.mk (Kd.R_below (by (with_reducible repeat (first | apply Kd.R_alloc | apply Kd.R_drewN | apply Kd.R_drew)); exact (Kd.R_mono (Kd.R_far (p := ⟨gb601, 2, none⟩) (Kd.R_far (p := ⟨gb601, 1, none⟩) (Kd.R_far (p := ⟨gb601, 0, none⟩) (Kd.R_types HO600.out BK601.out (by decide)) (fun _ hk => hk.2) (.int .i64 t596)) (fun _ hk => hk.2) (.int .i64 t597)) (fun _ hk => hk.2) (.slice Ao69 t598.length co69)) (fun _ h_ => h_.1))) hb); have n4_ := Aside0.mk (blk_below (g := gb572) (o := .cells #[.int .i64 t567, .int .i64 t568, .slice Ao25 t569.length co25] 30 (0, 0)) (by (with_reducible repeat (first | refine blk_drewN ?_ _ | refine blk_drew ?_ | refine blk_alloc ?_ _)); refine blk_far ?_ NB572_601.out _; (with_reducible repeat (first | refine blk_drewN ?_ _ | refine blk_drew ?_ | refine blk_alloc ?_ _)); refine blk_far ?_ NB572_601.out _; (with_reducible repeat (first | refine blk_drewN ?_ _ | refine blk_drew ?_ | refine blk_alloc ?_ _)); refine blk_far ?_ NB572_601.out _; (with_reducible repeat (first | refine blk_drewN ?_ _ | refine blk_drew ?_ | refine blk_alloc ?_ _)); exact BK572.out) hb); have n5_ := Aside0.mk (blk_below (g := gb581) (o := .cells #[.int .i64 t576, .int .i64 t577, .slice Ao32 t578.length co32] 30 (0, 0)) (by (with_reducible repeat (first | refine blk_drewN ?_ _ | refine blk_drew ?_ | refine blk_alloc ?_ _)); refine blk_far ?_ NB581_601.out _; (with_reducible repeat (first | refine blk_drewN ?_ _ | refine blk_drew ?_ | refine blk_alloc ?_ _)); refine blk_far ?_ NB581_601.out _; (with_reducible repeat (first | refine blk_drewN ?_ _ | refine blk_drew ?_ | refine blk_alloc ?_ _)); refine blk_far ?_ NB581_601.out _; (with_reducible repeat (first | refine blk_drewN ?_ _ | refine blk_drew ?_ | refine blk_alloc ?_ _)); exact BK581.out) hb); have n6_ := Aside0.mk (blk_below (g := gb601) (o := .cells #[.int .i64 t596, .int .i64 t597, .slice Ao69 t598.length co69] 30 (0, 0)) (by (with_reducible repeat (first | refine blk_drewN ?_ _ | refine blk_drew ?_ | refine blk_alloc ?_ _)); refine blk_put (cs := #[.int .i64 t596, .int .i64 t597, .slice none 0 0]) ?_ 2 _ rfl; (with_reducible repeat (first | refine blk_drewN ?_ _ | refine blk_drew ?_ | refine blk_alloc ?_ _)); refine blk_put (cs := #[.int .i64 t596, .int .i64 0, .slice none 0 0]) ?_ 1 _ rfl; (with_reducible repeat (first | refine blk_drewN ?_ _ | refine blk_drew ?_ | refine blk_alloc ?_ _)); refine blk_put (cs := #[.int .i64 0, .int .i64 0, .slice none 0 0]) ?_ 0 _ rfl; (with_reducible repeat (first | refine blk_drewN ?_ _ | refine blk_drew ?_ | refine blk_alloc ?_ _)); exact BK601.out) hb); have n7_ := Aside0.mk (below_step (by repeat (first | (with_reducible first | exact HB.out | apply below_alloc | apply pw_below_drewN | apply below_drew1 | refine below_set ?_ GE572.out | refine below_set ?_ GE581.out | refine below_set ?_ GE601.out) | exact HB.out)) hb); clear HO_573002; clear HO_582002; clear HO595; clear HO600; clear BK572; clear BK581; clear BK601; clear HB; have HO_573002 := n0_; have HO_582002 := n1_; have HO595 := n2_; have HO600 := n3_; have BK572 := n4_; have BK581 := n5_; have BK601 := n6_; have HB := n7_; clear n0_ n1_ n2_ n3_ n4_ n5_ n6_ n7_; (try clear hb); (try clear hb2); (try clear hk); (try clear hi); have hcz72_0 : w71.cell? ⟨gb581, 0, none⟩ = some (.int .i64 t576) := (blk_cell BK581.out 0).trans rfl; have hcz72_1 : w71.cell? ⟨gb581, 1, none⟩ = some (.int .i64 t577) := (blk_cell BK581.out 1).trans rfl; have hcz72_2 : w71.cell? ⟨gb581, 2, none⟩ = some (.slice Ao32 t578.length co32) := (blk_cell BK581.out 2).trans rfl; have hfz72_0 := blk_frozen BK581.out 0; have hfz72_1 := blk_frozen BK581.out 1; have hfz72_2 := blk_frozen BK581.out 2) | ((with_reducible refine gate_callee (f := 32) rfl ?_); refine goesL_ (some 88) rfl rfl Try.func32 (by kernel_rfl) rfl #[.agg #[.int .i64 t576, .int .i64 t577, .slice Ao32 t591.length co32], .int .i64 1] rfl (by (try simp only [List.map_toArray, List.map_cons, List.map_nil]); first | done | (rw [show t591.length = t578.length from (Kd.R_reads' HO_582002.out).1.symm] <;> rfl) | rfl | (simp only [List.length_drop, List.length_take]; rfl)) ?_; (with_reducible refine (laws_heldTermResult.calls kj18 t576 t577 _ _ t591 1 t603 _ ?side1 ?side2 A54.out).mono ?_); (case side1 => repeat (first | exact (Kd.R_reads' HO_582002.out).2.2 | (with_reducible refine Kd.C_alloc ?_ _) | (with_reducible refine Kd.C_drewN ?_ _) | (with_reducible refine Kd.C_drew ?_))); (case side2 => rw [show t591.length = t578.length from (Kd.R_reads' HO_582002.out).1.symm]; exact (Kd.R_reads' HO_582002.out).2.1); rintro e w73 ⟨rfl, hb⟩; refine ⟨_, rfl, ?_⟩; have n0_ := Aside0.mk (Kd.R_below (by (with_reducible repeat (first | apply Kd.R_alloc | apply Kd.R_drewN | apply Kd.R_drew)); exact HO_573002.out) hb); have n1_ := Aside0.mk (Kd.R_below (by (with_reducible repeat (first | apply Kd.R_alloc | apply Kd.R_drewN | apply Kd.R_drew)); exact HO_582002.out) hb); have n2_ := Aside0.mk (Kd.R_below (by (with_reducible repeat (first | apply Kd.R_alloc | apply Kd.R_drewN | apply Kd.R_drew)); exact HO595.out) hb); have n3_ := Aside0.mk (Kd.R_below (by (with_reducible repeat (first | apply Kd.R_alloc | apply Kd.R_drewN | apply Kd.R_drew)); exact HO600.out) hb); have n4_ := Aside0.mk (blk_below (g := gb572) (o := .cells #[.int .i64 t567, .int .i64 t568, .slice Ao25 t569.length co25] 30 (0, 0)) (by (with_reducible repeat (first | refine blk_drewN ?_ _ | refine blk_drew ?_ | refine blk_alloc ?_ _)); exact BK572.out) hb); have n5_ := Aside0.mk (blk_below (g := gb581) (o := .cells #[.int .i64 t576, .int .i64 t577, .slice Ao32 t578.length co32] 30 (0, 0)) (by (with_reducible repeat (first | refine blk_drewN ?_ _ | refine blk_drew ?_ | refine blk_alloc ?_ _)); exact BK581.out) hb); have n6_ := Aside0.mk (blk_below (g := gb601) (o := .cells #[.int .i64 t596, .int .i64 t597, .slice Ao69 t598.length co69] 30 (0, 0)) (by (with_reducible repeat (first | refine blk_drewN ?_ _ | refine blk_drew ?_ | refine blk_alloc ?_ _)); exact BK601.out) hb); have n7_ := Aside0.mk (below_step (by repeat (first | (with_reducible first | exact HB.out | apply below_alloc | apply pw_below_drewN | apply below_drew1 | refine below_set ?_ GE572.out | refine below_set ?_ GE581.out | refine below_set ?_ GE601.out) | exact HB.out)) hb); clear HO_573002; clear HO_582002; clear HO595; clear HO600; clear BK572; clear BK581; clear BK601; clear HB; have HO_573002 := n0_; have HO_582002 := n1_; have HO595 := n2_; have HO600 := n3_; have BK572 := n4_; have BK581 := n5_; have BK601 := n6_; have HB := n7_; clear n0_ n1_ n2_ n3_ n4_ n5_ n6_ n7_; (try clear hb); (try clear hb2); (try clear hk); (try clear hi)))
            go_ret
            exact ⟨by first | rfl | (rw [hr_.out]; first | done | rfl) | (simp [errW_none, errW_some] <;> rfl) | (simp [*, errW_none, errW_some] <;> rfl), by repeat (first | (with_reducible first | exact HB.out | apply below_alloc | apply pw_below_drewN | apply below_drew1 | refine below_set ?_ GE572.out | refine below_set ?_ GE581.out | refine below_set ?_ GE601.out) | exact HB.out)⟩
           ·rw [if_neg c56] at H
            have c56b0 : (t603 == t590) = false := beq_eq_false_iff_ne.mpr c56
            have c56b1 : (t603 != t590) = true := bne_iff_ne.mpr c56
            exact absurd (Option.some.inj H) (by decide)
         ·replace c53 := Bool.eq_false_iff.mpr c53
          subst c53
          rw [if_neg (show ¬ (false = true) by decide)] at H
          exact absurd (Option.some.inj H) (by decide)
        ·rw [if_neg c49] at H
         have c49b0 : (t592 == t590) = false := beq_eq_false_iff_ne.mpr c49
         have c49b1 : (t592 != t590) = true := bne_iff_ne.mpr c49
         exact absurd (Option.some.inj H) (by decide)
   ·replace c17 := Bool.eq_false_iff.mpr c17
    subst c17
    rw [if_neg (show ¬ (false = true) by decide)] at H
    exact absurd (Option.some.inj H) (by decide)
  ·replace c14 := Bool.eq_false_iff.mpr c14
   subst c14
   rw [if_neg (show ¬ (false = true) by decide)] at H
   exact absurd (Option.some.inj H) (by decide)
end Go.Proofs.Ytomaeijhljpgdaa.G
