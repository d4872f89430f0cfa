/- Part 5 of the proof of FnExactTtlDown: what the functions on its road do, and the plain laws. -/
import Derived.Test.YtidejdfbapjfiaaCFnExactTtlDown4
import Derived.Laws.CopyOwn
namespace Go.Proofs.Ytidejdfbapjfiaa.G
open Go.RowKit Go.Proofs.YtidejdfbapjfiaaW.PrintWords Go.Proofs.YtidejdfbapjfiaaW.PrintLast Go.Proofs.YtidejdfbapjfiaaW.PrintMore
attribute [local go_sem] max2_int min2_int max_two min_two max_three min_three max_four min_four   -- for this text's walks alone
set_option linter.unusedVariables false
set_option linter.unusedSimpArgs false
theorem step_copy_row {P : Program} {ops : Array Oper} {o : Oper} {a : Act} {w : World} {K : Act → World → Prop} {Q : Exit → Act → World → Prop} {E : Prop} (hgd : o.guard = none) (d s : Operand) (dT sT : TypeId)
    (ho : o.op = .call { callee := .builtin .copy, args := #[d, s], argTypes := #[dT, sT] }) (elem : TypeId) (hu : P.underlying dT = some (.slice elem)) (hsz : (P.info? elem).map (·.size) = some 1)
    (g off dLen dCap : Nat) (ad : Addr) (sLen sCap : Nat) (hd : a.eval d = .slice (some ⟨g, off, none⟩) dLen dCap) (hs : a.eval s = .slice (some ad) sLen sCap)
    (cur : Array Value) (t : TypeId) (hg : w.heap[g]? = some (.cells cur t (0, 0))) (cs : List Value) (hn : cs.length = Nat.min sLen dLen)
    (hsrc : ∀ j v, cs[j]? = some v → w.cell? (ad.add j) = some v) (hfit : off + cs.length ≤ cur.size) (h1 : ∀ v ∈ cs, v.oneCell' = true)
    (h : K (a.put o.dst (goInt cs.length)) (w.setRow g (cur.toList.take off ++ (cs ++ cur.toList.drop (off + cs.length))).toArray)) :
    if Region.wanted o (yielded ops a.tmps) = true then Oper.wp P o a w K Q else E := by
  have hw : Region.wanted o (yielded ops a.tmps) = true := by simp [Region.wanted, hgd]
  rw [if_pos hw]
  have hrun := run_copy_row (P := P) w dT sT o.type elem g off dLen dCap ad sLen sCap cur t cs hu hsz hg hn hsrc hfit h1
  unfold Oper.wp
  simp [execOp, ho, resolve, invoke, builtin, hd, hs, hrun, Result.andThen]
  exact h
theorem build_open {w : World} {base : Nat} {ok : Nat → Prop} {v : Value} {xs : List Int} (h : Kd.R (Kd.int .u8) 5 w base ok v xs) (hx : 0 < xs.length) :
    ∃ (g c : Nat) (cur : Array Value), v = .slice (some ⟨g, 0, none⟩) xs.length c ∧ w.heap[g]? = some (.cells cur 5 (0, 0)) ∧ ok g ∧ base ≤ g ∧ xs.length ≤ c ∧ c ≤ maxLen ∧ cur.size = c ∧ cur.toList.take xs.length = xs.map (Value.int .u8) := by
  obtain ⟨_, ho⟩ := Kd.own_of_R h
  rcases ho with ⟨_, e0⟩ | ⟨g, cap, cur, e, hb, hg, h3, h4, h5, h6⟩
  · omega
  · subst e
    exact ⟨g, cap, cur, rfl, hg, h.1 g rfl, hb, h3, h4, by omega, by rw [Nat.mul_one] at h6; exact h6⟩
theorem build_src {w : World} {g : Nat} {cur : Array Value} {xs : List Int} (hg : w.heap[g]? = some (.cells cur 5 (0, 0))) (ht : cur.toList.take xs.length = xs.map (Value.int .u8)) :
    ∀ j v, (xs.map (Value.int .u8))[j]? = some v → w.cell? ((⟨g, 0, none⟩ : Addr).add j) = some v := by
  intro j v hv
  have e : (⟨g, 0, none⟩ : Addr).add j = ⟨g, j, none⟩ := by simp [Addr.add, eq_comm]
  have hj : j < xs.length := by
    have := (List.getElem?_eq_some_iff.1 hv).1
    simpa using this
  rw [e, blk_cell hg j, ← Array.getElem?_toList]
  rw [← ht, List.getElem?_take_of_lt hj] at hv
  exact hv
theorem splice_len {α : Type} (L : List α) (off : Nat) (cs : List α) (h : off + cs.length ≤ L.length) : (splice L off cs).length = L.length := by
  simp [splice]; omega
theorem build_after {w : World} {base g c : Nat} {cur : Array Value} {xs zs : List Int} (hb : base ≤ g) (hg : w.heap[g]? = some (.cells cur 5 (0, 0))) (hc : xs.length ≤ c) (hm : c ≤ maxLen) (hs : cur.size = c)
    (ht : cur.toList.take xs.length = xs.map (Value.int .u8)) (hx : xs.length = 20) (hz : zs.length = 2) :
    Kd.R (Kd.int .u8) 5 (w.setRow g (cur.toList.take 10 ++ (zs.map (Value.int .u8) ++ cur.toList.drop (10 + 2))).toArray) base (fun _ => True) (.slice (some ⟨g, 0, none⟩) xs.length c) (splice xs 10 zs) := by
  have hl : (splice xs 10 zs).length = xs.length := splice_len _ _ _ (by omega)
  have hcl : cur.toList.length = c := by simpa using hs
  have hcur : cur.toList = xs.map (Value.int .u8) ++ cur.toList.drop xs.length := by rw [← ht, List.take_append_drop]
  refine Kd.R_of_own ⟨by simp [encs], .inr ⟨g, c, _, by rw [hl], hb, setRow_heap w g cur _ 5 (0, 0) hg, by omega, hm, ?_, ?_⟩⟩ (fun _ _ => trivial)
  · simp; omega
  · rw [hl, Nat.mul_one]
    have e1 : cur.toList.take 10 = (xs.take 10).map (Value.int .u8) := by
      rw [hcur, List.take_append_of_le_length (by simp; omega), List.map_take]
    have e2 : cur.toList.drop (10 + 2) = (xs.drop 12).map (Value.int .u8) ++ cur.toList.drop xs.length := by
      conv => lhs; rw [hcur]
      rw [List.drop_append_of_le_length (by simp; omega), List.map_drop]
    have e3 : (cur.toList.take 10 ++ (zs.map (Value.int .u8) ++ cur.toList.drop (10 + 2))).toArray.toList = (splice xs 10 zs).map (Value.int .u8) ++ cur.toList.drop xs.length := by
      rw [e1, e2]
      simp [splice, hz]
    rw [e3, List.take_append_of_le_length (by simp [hl]), List.take_of_length_le (by simp [hl])]
    rfl
theorem build_keep {w w' : World} {base : Nat} {ok : Nat → Prop} {v : Value} {xs : List Int} (h : Kd.R (Kd.int .u8) 5 w base ok v xs) (hk : ∀ k, v.ownBlock = some k → w'.heap[k]? = w.heap[k]?) : Kd.R (Kd.int .u8) 5 w' base ok v xs := by
  obtain ⟨hl, ho⟩ := Kd.own_of_R h
  refine Kd.R_of_own ⟨hl, ?_⟩ h.1
  rcases ho with h0 | ⟨g, cap, cur, e, hb, hg, hr⟩
  · exact .inl h0
  · exact .inr ⟨g, cap, cur, e, hb, (hk g (by rw [e]; rfl)).trans hg, hr⟩
theorem build_FK {w : World} {base : Nat} {ok : Nat → Prop} {A : Option Addr} {n c : Nat} {xs : List Int} (hn : n = xs.length) (h : Kd.R (Kd.int .u8) 5 w base ok (.slice A n c) xs) : Kd.FK (Kd.slice 5 (Kd.int .u8)) w ok xs [.slice A n c] := by
  subst hn
  exact Kd.FK_slice_mk (Kd.R_reads' h).2.1 (Kd.R_F h)
def impl_build.j0 : Nat → List Int → Int → Int → Int → Int → Int → Int → List Int → Option (List Int)
 | 0, _, _, _, _, _, _, _, _ => none
 | k + 1, x3, x674000, x674001, x674002, x674003, x674004, x674005, x674006 => (impl_put.f k (wrap64 ((wrap64 (20 + (x3.length : Int))) + (x674006.length : Int))) 2).bind fun t690 => ((impl_put.f k x674000 4).bind fun t699 => ((impl_put.f k x674001 4).bind fun t702 => ((slices_Concat_byte_byte.f (([(([69, 0] : List Int)), t690, (([0, 0, 64, 0, (x674003) % 256, (x674002) % 256, 0, 0] : List Int)), t699, t702] : List (List Int)))).bind fun t708 => ((impl_SumWords.f k t708).bind fun ts_ => ((impl_put.f k ts_ 2).bind fun tz_ => (if t708.length = 20 ∧ tz_.length = 2 then ((slices_Concat_byte_byte.f (([splice t708 10 tz_, x3, x674006] : List (List Int)))).bind fun t714 => (some t714)) else (none)))))))
def impl_build.f (k : Nat) (a0_0 : Int) (a0_1 : Int) (a0_2 : Int) (a0_3 : Int) (a0_4 : Int) (a0_5 : Int) (l0_6 : List Int) : Option (List Int) := (impl_HasPorts.f a0_2).bind fun t677 => (if t677 = true then ((impl_put.f k a0_4 2).bind fun t678 => ((impl_put.f k a0_5 2).bind fun t681 => ((slices_Concat_byte_byte.f (([t678, t681] : List (List Int)))).bind fun t687 => (impl_build.j0 k t687 a0_0 a0_1 a0_2 a0_3 a0_4 a0_5 l0_6)))) else (impl_build.j0 k (([] : List Int)) a0_0 a0_1 a0_2 a0_3 a0_4 a0_5 l0_6))
def impl_build.T3 : Bool × List (List Nat × List Nat) := (true, [([], []), ([0], [0]), ([1], [1]), ([], []), ([3], [3]), ([4, 2], [4]), ([2, 5], [2, 5]), ([6, 5], [6]), ([7, 7, 0, 1, 2, 3, 4, 5, 6, 7], [7])])
def impl_build.B3 : List Nat := [0, 1, 3, 0, 8, 31, 63, 127, 255]
theorem impl_build.tab3 : rtab .any (opsOf Try.f62 3) = impl_build.T3 := by kernel_rfl
theorem impl_build.bits3 : waitsOk impl_build.T3.2 impl_build.B3 = true := by kernel_rfl
def impl_build.T5 : Bool × List (List Nat × List Nat) := (true, [([], []), ([], []), ([], []), ([2], [2]), ([3], [3]), ([], []), ([5], [5]), ([6], [6]), ([4, 7], [4, 7]), ([], []), ([9], [9]), ([10], [10]), ([], []), ([12], [12]), ([13, 11], [13]), ([0, 1, 8, 11, 14], [0, 1, 8, 11, 14]), ([15, 14], [15]), ([16, 16, 0, 1, 2, 3, 4, 5, 6, 7, 8, 9, 10, 11, 12, 13, 14, 15, 16], [16])])
def impl_build.B5 : List Nat := [0, 0, 0, 4, 12, 0, 32, 96, 252, 0, 512, 1536, 0, 4096, 15872, 32767, 65535, 131071]
theorem impl_build.tab5 : rtab .any (opsOf Try.f62 5) = impl_build.T5 := by kernel_rfl
theorem impl_build.bits5 : waitsOk impl_build.T5.2 impl_build.B5 = true := by kernel_rfl
set_option maxHeartbeats 8000000 in
set_option maxRecDepth 100000 in
theorem impl_build.callsV (k : Nat) (a0_0 : Int) (a0_1 : Int) (a0_2 : Int) (a0_3 : Int) (a0_4 : Int) (a0_5 : Int) (P0_6_ : Nat → Prop) (A0_6 : Option Addr) (c0_6 : Nat) (l0_6 : List Int) (r : List Int) (w : World) (hs0_6 : Kd.V (Kd.int .u8) 5 w w.heap.size (fun k_ => P0_6_ k_) (.slice A0_6 l0_6.length c0_6) l0_6) (h : impl_build.f k a0_0 a0_1 a0_2 a0_3 a0_4 a0_5 l0_6 = some r) :
  Calls Try.prog 62 #[.agg #[.int .i64 a0_0, .int .i64 a0_1, .int .i64 a0_2, .int .i64 a0_3, .int .i64 a0_4, .int .i64 a0_5, .slice A0_6 l0_6.length c0_6]] w fun e w' => ∃ v0_ : Value, e = .returned (v0_) ∧ Kd.R (Kd.int .u8) 5 w' w.heap.size (fun k_ => (w.heap.size ≤ k_)) v0_ r ∧ Below w.heap.size w w' := by
 have hu34 := Try.underlying34
 have HO0_6 := Aside0.mk (show Kd.V (Kd.int .u8) 5 w w.heap.size (fun k_ => (P0_6_ k_ ∨ w.heap.size ≤ k_)) (.slice A0_6 l0_6.length c0_6) l0_6 from Kd.V_mono hs0_6 (fun k_ hk => .inl hk))
 have HB := Aside0.mk (Below.refl w.heap.size w)
 have H : ((impl_HasPorts.f a0_2).bind fun t677 => (if t677 = true then ((impl_put.f k a0_4 2).bind fun t678 => ((impl_put.f k a0_5 2).bind fun t681 => ((slices_Concat_byte_byte.f (([t678, t681] : List (List Int)))).bind fun t687 => (impl_build.j0 k t687 a0_0 a0_1 a0_2 a0_3 a0_4 a0_5 l0_6)))) else (impl_build.j0 k (([] : List Int)) a0_0 a0_1 a0_2 a0_3 a0_4 a0_5 l0_6))) = some r := h
 clear h
 obtain ⟨y674, hy674⟩ : ∃ y_ : List Int, y_ = (([] : List Int)) := ⟨_, rfl⟩
 replace H : ((impl_HasPorts.f a0_2).bind fun t677 => (if t677 = true then ((impl_put.f k a0_4 2).bind fun t678 => ((impl_put.f k a0_5 2).bind fun t681 => ((slices_Concat_byte_byte.f (([t678, t681] : List (List Int)))).bind fun t687 => (impl_build.j0 k t687 a0_0 a0_1 a0_2 a0_3 a0_4 a0_5 l0_6)))) else (impl_build.j0 k y674 a0_0 a0_1 a0_2 a0_3 a0_4 a0_5 l0_6))) = some r := by first | (rw [hy674]; with_reducible exact H) | (have H2_ := (Option.bind_some _ _).symm.trans H; rw [hy674]; with_reducible exact H2_) | (have H2_ := (Option.bind_some _ _).symm.trans H; with_reducible exact H2_) | with_reducible exact H | (rw [hy674]; exact H) | exact H
 have Ny674 := Aside0.mk hy674
 clear hy674
 replace H := Option.bind_eq_some_iff.mp H
 obtain ⟨t677, A20, H⟩ := H
 try dsimp only at H
 have A2 := Aside0.mk A20
 clear A20
 have HC3 := Aside0.mk H
 clear H
 go_enter Try.func62, Try.ntmps62
 go_upto_if 9 with (first | ((with_reducible refine gate_dst (N := 1) rfl ?_); refine box_event ?hg (N := 1) ?hd (cs := #[.int .i64 a0_0, .int .i64 a0_1, .int .i64 a0_2, .int .i64 a0_3, .int .i64 a0_4, .int .i64 a0_5, .slice A0_6 l0_6.length c0_6]) (t := 34) ?hr ?_; (case hd => rfl); (case hg => rfl); (case hr => first | (go_simp; done) | (go_simp; rfl)); intro gb673 hg w4 hbox hb; have n0_ := Aside0.mk (Kd.V_below (Kd.V_elderB (by (with_reducible repeat (first | apply Kd.V_alloc | apply Kd.V_drewN | apply Kd.V_drew)); exact HO0_6.out) gb673 (Nat.le_of_eq hg.symm)) hb); have n1_ := Aside0.mk (below_step (by repeat (first | (with_reducible first | exact HB.out | apply below_alloc | apply pw_below_drewN | apply below_drew1) | exact HB.out)) hb); have n2_ := Aside0.mk (hbox); have n3_ := Aside0.mk ((by rw [hg]; exact (below_size (by repeat (first | (with_reducible first | exact HB.out | apply below_alloc | apply pw_below_drewN | apply below_drew1) | exact HB.out))) : w.heap.size ≤ gb673)); have n4_ := Aside0.mk ((by rw [hg]; exact (below_size (by repeat (first | (with_reducible first | exact HB.out | apply below_alloc | apply pw_below_drewN | apply below_drew1) | exact HB.out))) : w.heap.size ≤ gb673)); clear HO0_6; clear HB; have HO0_6 := n0_; have HB := n1_; have BK673 := n2_; have GW673 := n3_; have GE673 := n4_; clear n0_ n1_ n2_ n3_ n4_; clear hb hbox hg) | ((with_reducible refine gate_dst (N := 6) rfl ?_); refine Kd.R_lit (Kd.int .u8) _ 5 ?hg (N := 6) ?hd (xs := ([] : List Int)) (inner := []) (ok := fun _ => True) (okp := fun _ => True) ?hr ?hp (fun _ hk => hk) trivial (Below.refl _ _) (Nat.le_refl _) (by simp) ?_; (case hd => rfl); (case hg => rfl); (case hr => first | (go_simp; done) | (go_simp; rfl)); (case hp => exact (Reps.none _ _)); intro v675 w5 ho6 hb hg_ hnew_; clear hg_ hnew_; (first | rw [← Ny674.out] at ho6 | (simp only [Int.reduceToNat] at ho6; rw [← Ny674.out] at ho6)); have n0_ := Aside0.mk (Kd.V_elder' (by (with_reducible repeat (first | apply Kd.V_alloc | apply Kd.V_drewN | apply Kd.V_drew)); exact HO0_6.out) (Kd.R_base ho6) hb); have n1_ := Aside0.mk (Kd.R_lower (Kd.R_newM (M := fun k_ => (w.heap.size ≤ k_)) ho6 (below_size (by repeat (first | (with_reducible first | exact HB.out | apply below_alloc | apply pw_below_drewN | apply below_drew1 | refine below_set ?_ GE673.out) | exact HB.out))) (fun k_ h_ => h_)) (below_size (by repeat (first | (with_reducible first | exact HB.out | apply below_alloc | apply pw_below_drewN | apply below_drew1 | refine below_set ?_ GE673.out) | exact HB.out)))); have n2_ := Aside0.mk (blk_below (g := gb673) (o := .cells #[.int .i64 a0_0, .int .i64 a0_1, .int .i64 a0_2, .int .i64 a0_3, .int .i64 a0_4, .int .i64 a0_5, .slice A0_6 l0_6.length c0_6] 34 (0, 0)) (by (with_reducible repeat (first | refine blk_drewN ?_ _ | refine blk_drew ?_ | refine blk_alloc ?_ _)); exact BK673.out) hb); have n3_ := Aside0.mk (below_step (by repeat (first | (with_reducible first | exact HB.out | apply below_alloc | apply pw_below_drewN | apply below_drew1 | refine below_set ?_ GE673.out) | exact HB.out)) hb); clear HO0_6; clear BK673; clear HB; have HO0_6 := n0_; have HO676 := n1_; have BK673 := n2_; have HB := n3_; clear n0_ n1_ n2_ n3_; clear hb ho6; have hcz7_0 : w5.cell? ⟨gb673, 0, none⟩ = some (.int .i64 a0_0) := (blk_cell BK673.out 0).trans rfl; have hcz7_1 : w5.cell? ⟨gb673, 1, none⟩ = some (.int .i64 a0_1) := (blk_cell BK673.out 1).trans rfl; have hcz7_2 : w5.cell? ⟨gb673, 2, none⟩ = some (.int .i64 a0_2) := (blk_cell BK673.out 2).trans rfl; have hcz7_3 : w5.cell? ⟨gb673, 3, none⟩ = some (.int .i64 a0_3) := (blk_cell BK673.out 3).trans rfl; have hcz7_4 : w5.cell? ⟨gb673, 4, none⟩ = some (.int .i64 a0_4) := (blk_cell BK673.out 4).trans rfl; have hcz7_5 : w5.cell? ⟨gb673, 5, none⟩ = some (.int .i64 a0_5) := (blk_cell BK673.out 5).trans rfl; have hcz7_6 : w5.cell? ⟨gb673, 6, none⟩ = some (.slice A0_6 l0_6.length c0_6) := (blk_cell BK673.out 6).trans rfl; have hfz7_0 := blk_frozen BK673.out 0; have hfz7_1 := blk_frozen BK673.out 1; have hfz7_2 := blk_frozen BK673.out 2; have hfz7_3 := blk_frozen BK673.out 3; have hfz7_4 := blk_frozen BK673.out 4; have hfz7_5 := blk_frozen BK673.out 5; have hfz7_6 := blk_frozen BK673.out 6) | ((with_reducible refine gate_callee (f := 57) rfl ?_); refine goesL_ (some 9) rfl rfl Try.func57 (by kernel_rfl) rfl #[.int .i64 a0_2] rfl (by (try simp only [List.map_toArray, List.map_cons, List.map_nil]); first | done | rfl | (simp only [List.length_drop, List.length_take]; rfl)) ?_; (with_reducible refine (impl_HasPorts.calls a0_2 t677 _ A2.out).mono ?_); rintro e w' ⟨rfl, ⟨nd, rfl⟩⟩; refine ⟨_, rfl, ?_⟩))
 (try simp only [Act.put, lA_, lZ_, lS_])
 go_cut [3] (fun v3 wc => ∃ (kq : Nat) (x3_2 : List Int), Aside0 (impl_build.j0 kq x3_2 a0_0 a0_1 a0_2 a0_3 a0_4 a0_5 l0_6 = some r) ∧ Aside0 (kq ≤ k) ∧ Aside0 (Kd.R (Kd.int .u8) 5 wc w.heap.size (fun k_ => (w.heap.size ≤ k_)) v3 x3_2) ∧ Aside0 (Kd.V (Kd.int .u8) 5 wc w.heap.size (fun k_ => (P0_6_ k_ ∨ w.heap.size ≤ k_) ∧ some k_ ≠ (v3 : Value).ownBlock ∧ k_ ≠ gb673) (.slice A0_6 l0_6.length c0_6) l0_6) ∧ Aside0 (wc.heap[gb673]? = some (.cells #[.int .i64 a0_0, .int .i64 a0_1, .int .i64 a0_2, .int .i64 a0_3, .int .i64 a0_4, .int .i64 a0_5, (.slice A0_6 l0_6.length c0_6)] 34 (0, 0))) ∧ Aside0 (Below w.heap.size w wc))
 case first =>
  have H := HC3.out
  clear HC3
  by_cases c8 : t677 = true
  ·subst c8
   rw [if_pos rfl] at H
   replace H := Option.bind_eq_some_iff.mp H
   obtain ⟨t678, A90, H⟩ := H
   try dsimp only at H
   have A9 := Aside0.mk A90
   clear A90
   replace H := Option.bind_eq_some_iff.mp H
   obtain ⟨t681, A100, H⟩ := H
   try dsimp only at H
   have A10 := Aside0.mk A100
   clear A100
   obtain ⟨y684, hy684⟩ : ∃ y_ : List (List Int), y_ = (([t678, t681] : List (List Int))) := ⟨_, rfl⟩
   replace H : ((slices_Concat_byte_byte.f y684).bind fun t687 => (impl_build.j0 k t687 a0_0 a0_1 a0_2 a0_3 a0_4 a0_5 l0_6)) = some r := by first | (rw [hy684]; with_reducible exact H) | (have H2_ := (Option.bind_some _ _).symm.trans H; rw [hy684]; with_reducible exact H2_) | (have H2_ := (Option.bind_some _ _).symm.trans H; with_reducible exact H2_) | with_reducible exact H | (rw [hy684]; exact H) | exact H
   have Ny684 := Aside0.mk hy684
   clear hy684
   replace H := Option.bind_eq_some_iff.mp H
   obtain ⟨t687, A110, H⟩ := H
   try dsimp only at H
   have A11 := Aside0.mk A110
   clear A110
   have H' := Aside0.mk H
   clear H
   try go_wp2
   try (have m0_ := Aside0.mk (Kd.V_drewN HO0_6.out nd); have m1_ := Aside0.mk (Kd.R_drewN HO676.out nd); have m2_ := Aside0.mk (blk_drewN BK673.out nd); have m3_ := Aside0.mk (pw_below_drewN HB.out nd); clear HO0_6 HO676 BK673 HB; generalize hw_ : World.drewN w5 nd = wz_ at m0_ m1_ m2_ m3_ ⊢; have HO0_6 := m0_; have HO676 := m1_; have BK673 := m2_; have HB := m3_; clear m0_ m1_ m2_ m3_ hw_)
   have n0_ := Aside0.mk (Kd.V_drew HO0_6.out)
   have n1_ := Aside0.mk (Kd.R_drew HO676.out)
   have n2_ := Aside0.mk (blk_drew BK673.out)
   have n3_ := Aside0.mk (below_drew1 HB.out)
   clear HO0_6
   clear HO676
   clear BK673
   clear HB
   have HO0_6 := n0_
   have HO676 := n1_
   have BK673 := n2_
   have HB := n3_
   clear n0_ n1_ n2_ n3_
   refine start_ (n := 9) (S := fun w' => w'.cell? ⟨gb673, 0, none⟩ = some (.int .i64 a0_0) ∧ w'.cell? ⟨gb673, 1, none⟩ = some (.int .i64 a0_1) ∧ w'.cell? ⟨gb673, 2, none⟩ = some (.int .i64 a0_2) ∧ w'.cell? ⟨gb673, 3, none⟩ = some (.int .i64 a0_3) ∧ w'.cell? ⟨gb673, 4, none⟩ = some (.int .i64 a0_4) ∧ w'.cell? ⟨gb673, 5, none⟩ = some (.int .i64 a0_5) ∧ w'.cell? ⟨gb673, 6, none⟩ = some (.slice A0_6 l0_6.length c0_6)) (ds := []) #[false, false, false, false, false, false, false, false, false] (by kernel_rfl) rfl rfl ⟨(blk_cell BK673.out 0).trans rfl, (blk_cell BK673.out 1).trans rfl, (blk_cell BK673.out 2).trans rfl, (blk_cell BK673.out 3).trans rfl, (blk_cell BK673.out 4).trans rfl, (blk_cell BK673.out 5).trans rfl, (blk_cell BK673.out 6).trans rfl⟩ (fun hHeld => ?_); refine with_tabW impl_build.tab3 impl_build.bits3 (fun HT_ HW_ => ?_)
   first | generalize wz_.drew = w12 at HO0_6 HO676 BK673 HB hHeld ⊢ | generalize w5.drew = w12 at HO0_6 HO676 BK673 HB hHeld ⊢
   refine pure_ (i := 0) (N := some 10) (v := ?_) (a' := ?_) #[true, false, false, false, false, false, false, false, false] rfl rfl (any_of HT_.out (by kernel_rfl)) (fun _ _ _ h => h) (Or.inl ⟨by rfl, ?_⟩) ?_ ?_
   rotate_left
   ·intro w'
    go_simp
    with_reducible rfl
   rotate_left
   ·simp only [Act.put, lA_, lZ_, lS_, i64_w, i32_w]
    rfl
   refine pure_ (i := 3) (N := some 13) (v := ?_) (a' := ?_) #[true, false, false, true, false, false, false, false, false] rfl rfl (any_of HT_.out (by kernel_rfl)) (fun _ _ _ h => h) (Or.inl ⟨by rfl, ?_⟩) ?_ ?_
   rotate_left
   ·intro w'
    go_simp
    with_reducible rfl
   rotate_left
   ·simp only [Act.put, lA_, lZ_, lS_, i64_w, i32_w]
    rfl
   refine take_ (i := 1) (N := some 11) (v := ?_) (a' := ?_) #[true, true, false, true, false, false, false, false, false] rfl rfl (take_ofW HT_.out HW_.out (by kernel_rfl)) (fun _ _ _ h => h) (Or.inl ⟨by rfl, ?_⟩) hHeld ?_ ?_
   rotate_left
   ·rintro w' ⟨s0, s1, s2, s3, s4, s5, s6⟩
    go_simp
    with_reducible rfl
   rotate_left
   ·simp only [Act.put, lA_, lZ_, lS_, i64_w, i32_w]
    rfl
   refine take_ (i := 4) (N := some 14) (v := ?_) (a' := ?_) #[true, true, false, true, true, false, false, false, false] rfl rfl (take_ofW HT_.out HW_.out (by kernel_rfl)) (fun _ _ _ h => h) (Or.inl ⟨by rfl, ?_⟩) hHeld ?_ ?_
   rotate_left
   ·rintro w' ⟨s0, s1, s2, s3, s4, s5, s6⟩
    go_simp
    with_reducible rfl
   rotate_left
   ·simp only [Act.put, lA_, lZ_, lS_, i64_w, i32_w]
    rfl
   refine one_ (i := 2) (N := some 12) #[true, true, true, true, true, false, false, false, false] rfl rfl (one_of HT_.out (by kernel_rfl)) (by decide) (fun K hK => ?_)
   refine goes_ Try.func50 (by kernel_rfl) rfl #[.int .i64 a0_4, .int .i64 2] (by rfl) rfl rfl (by (try simp only [List.map_toArray, List.map_cons, List.map_nil]); first | done | rfl | (simp only [List.length_drop, List.length_take]; rfl)) ?_
   with_reducible refine (impl_put.calls k a0_4 2 t678 _ A9.out).mono ?_
   rintro e w13 ⟨v679, rfl, ho0, hb⟩
   refine ⟨_, rfl, ?_⟩
   have n0_ := Aside0.mk (Kd.V_elder' (by (with_reducible repeat (first | apply Kd.V_alloc | apply Kd.V_drewN | apply Kd.V_drew)); exact HO0_6.out) (Kd.R_base ho0) hb)
   have n1_ := Aside0.mk (Kd.R_elder' (by (with_reducible repeat (first | apply Kd.R_alloc | apply Kd.R_drewN | apply Kd.R_drew)); exact HO676.out) (Kd.R_base ho0) hb)
   have n2_ := Aside0.mk (Kd.R_lower (Kd.R_new' (Kd.R_newM (M := fun k_ => (w.heap.size ≤ k_)) ho0 (below_size (by repeat (first | (with_reducible first | exact HB.out | apply below_alloc | apply pw_below_drewN | apply below_drew1 | refine below_set ?_ GE673.out) | exact HB.out))) (fun k_ h_ => h_)) (Kd.R_lt (by (with_reducible repeat (first | apply Kd.R_alloc | apply Kd.R_drewN | apply Kd.R_drew)); exact HO676.out))) (below_size (by repeat (first | (with_reducible first | exact HB.out | apply below_alloc | apply pw_below_drewN | apply below_drew1 | refine below_set ?_ GE673.out) | exact HB.out))))
   have n3_ := Aside0.mk (blk_below (g := gb673) (o := .cells #[.int .i64 a0_0, .int .i64 a0_1, .int .i64 a0_2, .int .i64 a0_3, .int .i64 a0_4, .int .i64 a0_5, .slice A0_6 l0_6.length c0_6] 34 (0, 0)) (by (with_reducible repeat (first | refine blk_drewN ?_ _ | refine blk_drew ?_ | refine blk_alloc ?_ _)); exact BK673.out) hb)
   have n4_ := Aside0.mk (below_step (by repeat (first | (with_reducible first | exact HB.out | apply below_alloc | apply pw_below_drewN | apply below_drew1 | refine below_set ?_ GE673.out) | exact HB.out)) hb)
   clear HO0_6
   clear HO676
   clear BK673
   clear HB
   have HO0_6 := n0_
   have HO676 := n1_
   have HO680 := n2_
   have BK673 := n3_
   have HB := n4_
   clear n0_ n1_ n2_ n3_ n4_
   (try clear hb)
   (try clear hb2)
   (try clear hk)
   (try clear hi)
   (try clear ho0)
   refine hK.out _ _ ⟨(blk_cell BK673.out 0).trans rfl, (blk_cell BK673.out 1).trans rfl, (blk_cell BK673.out 2).trans rfl, (blk_cell BK673.out 3).trans rfl, (blk_cell BK673.out 4).trans rfl, (blk_cell BK673.out 5).trans rfl, (blk_cell BK673.out 6).trans rfl⟩ (fun hHeld => ?_)
   clear hK K
   refine norm_ (a' := ?_) ?_ ?_
   rotate_left
   ·show Act.put _ (some 12) _ = _
    simp only [Act.put, lA_, lZ_, lS_, i64_w, i32_w]
    rfl
   refine one_ (i := 5) (N := some 15) #[true, true, true, true, true, true, false, false, false] rfl rfl (one_of HT_.out (by kernel_rfl)) (by decide) (fun K hK => ?_)
   refine goes_ Try.func50 (by kernel_rfl) rfl #[.int .i64 a0_5, .int .i64 2] (by rfl) rfl rfl (by (try simp only [List.map_toArray, List.map_cons, List.map_nil]); first | done | rfl | (simp only [List.length_drop, List.length_take]; rfl)) ?_
   with_reducible refine (impl_put.calls k a0_5 2 t681 _ A10.out).mono ?_
   rintro e w14 ⟨v682, rfl, ho0, hb⟩
   refine ⟨_, rfl, ?_⟩
   have n0_ := Aside0.mk (Kd.V_elder' (by (with_reducible repeat (first | apply Kd.V_alloc | apply Kd.V_drewN | apply Kd.V_drew)); exact HO0_6.out) (Kd.R_base ho0) hb)
   have n1_ := Aside0.mk (Kd.R_elder' (by (with_reducible repeat (first | apply Kd.R_alloc | apply Kd.R_drewN | apply Kd.R_drew)); exact HO676.out) (Kd.R_base ho0) hb)
   have n2_ := Aside0.mk (Kd.R_elder' (by (with_reducible repeat (first | apply Kd.R_alloc | apply Kd.R_drewN | apply Kd.R_drew)); exact HO680.out) (Kd.R_base ho0) hb)
   have n3_ := Aside0.mk (Kd.R_lower (Kd.R_new' (Kd.R_new' (Kd.R_newM (M := fun k_ => (w.heap.size ≤ k_)) ho0 (below_size (by repeat (first | (with_reducible first | exact HB.out | apply below_alloc | apply pw_below_drewN | apply below_drew1 | refine below_set ?_ GE673.out) | exact HB.out))) (fun k_ h_ => h_)) (Kd.R_lt (by (with_reducible repeat (first | apply Kd.R_alloc | apply Kd.R_drewN | apply Kd.R_drew)); exact HO676.out))) (Kd.R_lt (by (with_reducible repeat (first | apply Kd.R_alloc | apply Kd.R_drewN | apply Kd.R_drew)); exact HO680.out))) (below_size (by repeat (first | (with_reducible first | exact HB.out | apply below_alloc | apply pw_below_drewN | apply below_drew1 | refine below_set ?_ GE673.out) | exact HB.out))))
   have n4_ := Aside0.mk (blk_below (g := gb673) (o := .cells #[.int .i64 a0_0, .int .i64 a0_1, .int .i64 a0_2, .int .i64 a0_3, .int .i64 a0_4, .int .i64 a0_5, .slice A0_6 l0_6.length c0_6] 34 (0, 0)) (by (with_reducible repeat (first | refine blk_drewN ?_ _ | refine blk_drew ?_ | refine blk_alloc ?_ _)); exact BK673.out) hb)
   have n5_ := Aside0.mk (below_step (by repeat (first | (with_reducible first | exact HB.out | apply below_alloc | apply pw_below_drewN | apply below_drew1 | refine below_set ?_ GE673.out) | exact HB.out)) hb)
   clear HO0_6
   clear HO676
   clear HO680
   clear BK673
   clear HB
   have HO0_6 := n0_
   have HO676 := n1_
   have HO680 := n2_
   have HO683 := n3_
   have BK673 := n4_
   have HB := n5_
   clear n0_ n1_ n2_ n3_ n4_ n5_
   (try clear hb)
   (try clear hb2)
   (try clear hk)
   (try clear hi)
   (try clear ho0)
   obtain ⟨Ao15, co15, eo15⟩ := Kd.R_slice HO680.out
   (first | subst eo15 | (injection eo15 with f1_ f2_ f3_; have f4_ := f1_.symm; have f5_ := f3_.symm; clear f1_ f2_ f3_; subst f4_; subst f5_))
   obtain ⟨Ao16, co16, eo16⟩ := Kd.R_slice HO683.out
   (first | subst eo16 | (injection eo16 with f1_ f2_ f3_; have f4_ := f1_.symm; have f5_ := f3_.symm; clear f1_ f2_ f3_; subst f4_; subst f5_))
   refine hK.out _ _ ⟨(blk_cell BK673.out 0).trans rfl, (blk_cell BK673.out 1).trans rfl, (blk_cell BK673.out 2).trans rfl, (blk_cell BK673.out 3).trans rfl, (blk_cell BK673.out 4).trans rfl, (blk_cell BK673.out 5).trans rfl, (blk_cell BK673.out 6).trans rfl⟩ (fun hHeld => ?_)
   clear hK K
   refine norm_ (a' := ?_) ?_ ?_
   rotate_left
   ·show Act.put _ (some 15) _ = _
    simp only [Act.put, lA_, lZ_, lS_, i64_w, i32_w]
    rfl
   refine one_ (i := 6) (N := some 16) #[true, true, true, true, true, true, true, false, false] rfl rfl (one_of HT_.out (by kernel_rfl)) (by decide) (fun K hK => ?_)
   refine Kd.N_lit_step (Kd.slice 5 (Kd.int .u8)) _ 22 ?hg (N' := 16) ?hd (xs := ([t678, t681] : List (List Int))) (inner := [.slice Ao15 t678.length co15, .slice Ao16 t681.length co16]) (ok := (fun k_ => (P0_6_ k_ ∨ w.heap.size ≤ k_) ∧ some k_ ≠ (v675 : Value).ownBlock ∧ k_ ≠ gb673)) (okp := (fun k_ => (P0_6_ k_ ∨ w.heap.size ≤ k_) ∧ some k_ ≠ (v675 : Value).ownBlock ∧ k_ ≠ gb673)) ?hr ?hp (fun _ hk => hk) ((show ∀ k_, w14.heap.size ≤ k_ → (fun k_ => (P0_6_ k_ ∨ w.heap.size ≤ k_) ∧ some k_ ≠ (v675 : Value).ownBlock ∧ k_ ≠ gb673) k_ from fun k_ hk => ⟨(.inr (Nat.le_trans (below_size (by repeat (first | (with_reducible first | exact HB.out | apply below_alloc | apply pw_below_drewN | apply below_drew1 | refine below_set ?_ GE673.out) | exact HB.out))) hk)), Kd.fresh' (Kd.R_lt (by (with_reducible repeat (first | apply Kd.R_alloc | apply Kd.R_drewN | apply Kd.R_drew)); exact HO676.out)) k_ hk, Kd.freshB (g := gb673) (o := .cells #[.int .i64 a0_0, .int .i64 a0_1, .int .i64 a0_2, .int .i64 a0_3, .int .i64 a0_4, .int .i64 a0_5, .slice A0_6 l0_6.length c0_6] 34 (0, 0)) (by (with_reducible repeat (first | refine blk_drewN ?_ _ | refine blk_drew ?_ | refine blk_alloc ?_ _)); exact BK673.out) k_ hk⟩) _ (Nat.le_refl _)) (Below.refl _ _) (Nat.le_refl _) (by simp) ?_; (case hd => rfl); (case hg => rfl); (case hr => first | (go_simp; done) | (go_simp; rfl)); (case hp => exact (Reps.one (show Kd.FK (Kd.slice 5 (Kd.int .u8)) _ _ t678 [.slice Ao15 t678.length co15] from (Kd.FK_slice_mk (Kd.R_reads' (Kd.R_mono (ok' := (fun k_ => (P0_6_ k_ ∨ w.heap.size ≤ k_) ∧ some k_ ≠ (v675 : Value).ownBlock ∧ k_ ≠ gb673)) (Kd.R_types (HO680.out) BK673.out (by decide)) (fun k_ hk => ⟨(.inr (hk.1.1.1.1)), ⟨hk.1.1.2, hk.2⟩⟩))).2.1 (Kd.R_F (Kd.R_mono (ok' := (fun k_ => (P0_6_ k_ ∨ w.heap.size ≤ k_) ∧ some k_ ≠ (v675 : Value).ownBlock ∧ k_ ≠ gb673)) (Kd.R_types (HO680.out) BK673.out (by decide)) (fun k_ hk => ⟨(.inr (hk.1.1.1.1)), ⟨hk.1.1.2, hk.2⟩⟩))))) (Reps.one (show Kd.FK (Kd.slice 5 (Kd.int .u8)) _ _ t681 [.slice Ao16 t681.length co16] from (Kd.FK_slice_mk (Kd.R_reads' (Kd.R_mono (ok' := (fun k_ => (P0_6_ k_ ∨ w.heap.size ≤ k_) ∧ some k_ ≠ (v675 : Value).ownBlock ∧ k_ ≠ gb673)) (Kd.R_types (HO683.out) BK673.out (by decide)) (fun k_ hk => ⟨(.inr (hk.1.1.1.1)), ⟨hk.1.1.2, hk.2⟩⟩))).2.1 (Kd.R_F (Kd.R_mono (ok' := (fun k_ => (P0_6_ k_ ∨ w.heap.size ≤ k_) ∧ some k_ ≠ (v675 : Value).ownBlock ∧ k_ ≠ gb673)) (Kd.R_types (HO683.out) BK673.out (by decide)) (fun k_ hk => ⟨(.inr (hk.1.1.1.1)), ⟨hk.1.1.2, hk.2⟩⟩))))) (Reps.none _ _))))
   intro v685 w17 ho18 hb hg_ hnew_
   clear hg_ hnew_
   (first | rw [← Ny684.out] at ho18 | (simp only [Int.reduceToNat] at ho18; rw [← Ny684.out] at ho18))
   have n0_ := Aside0.mk (Kd.V_elder' (by (with_reducible repeat (first | apply Kd.V_alloc | apply Kd.V_drewN | apply Kd.V_drew)); exact HO0_6.out) (Kd.N_base ho18) hb)
   have n1_ := Aside0.mk (Kd.R_below (by (with_reducible repeat (first | apply Kd.R_alloc | apply Kd.R_drewN | apply Kd.R_drew)); exact HO676.out) hb)
   have n2_ := Aside0.mk (Kd.N_lower ho18 (below_size (by repeat (first | (with_reducible first | exact HB.out | apply below_alloc | apply pw_below_drewN | apply below_drew1 | refine below_set ?_ GE673.out) | exact HB.out))))
   have n3_ := Aside0.mk (blk_below (g := gb673) (o := .cells #[.int .i64 a0_0, .int .i64 a0_1, .int .i64 a0_2, .int .i64 a0_3, .int .i64 a0_4, .int .i64 a0_5, .slice A0_6 l0_6.length c0_6] 34 (0, 0)) (by (with_reducible repeat (first | refine blk_drewN ?_ _ | refine blk_drew ?_ | refine blk_alloc ?_ _)); exact BK673.out) hb)
   have n4_ := Aside0.mk (below_step (by repeat (first | (with_reducible first | exact HB.out | apply below_alloc | apply pw_below_drewN | apply below_drew1 | refine below_set ?_ GE673.out) | exact HB.out)) hb)
   clear HO0_6
   clear HO676
   clear BK673
   clear HB
   clear HO680
   clear HO683
   have HO0_6 := n0_
   have HO676 := n1_
   have HO686 := n2_
   have BK673 := n3_
   have HB := n4_
   clear n0_ n1_ n2_ n3_ n4_
   clear hb ho18
   obtain ⟨Ao19, co19, eo19⟩ := Kd.N_slice HO686.out
   (first | subst eo19 | (injection eo19 with f1_ f2_ f3_; have f4_ := f1_.symm; have f5_ := f3_.symm; clear f1_ f2_ f3_; subst f4_; subst f5_))
   refine hK.out _ _ ⟨(blk_cell BK673.out 0).trans rfl, (blk_cell BK673.out 1).trans rfl, (blk_cell BK673.out 2).trans rfl, (blk_cell BK673.out 3).trans rfl, (blk_cell BK673.out 4).trans rfl, (blk_cell BK673.out 5).trans rfl, (blk_cell BK673.out 6).trans rfl⟩ (fun hHeld => ?_)
   clear hK K
   refine norm_ (a' := ?_) ?_ ?_
   rotate_left
   ·show Act.put _ (some 16) _ = _
    simp only [Act.put, lA_, lZ_, lS_, i64_w, i32_w]
    rfl
   refine one_ (i := 7) (N := some 17) #[true, true, true, true, true, true, true, true, false] rfl rfl (one_of HT_.out (by kernel_rfl)) (by decide) (fun K hK => ?_)
   refine goes_ Try.func49 (by kernel_rfl) rfl #[.slice Ao19 y684.length co19] (by rfl) rfl rfl (by (try simp only [List.map_toArray, List.map_cons, List.map_nil]); first | done | rfl | (simp only [List.length_drop, List.length_take]; rfl)) ?_
   with_reducible refine (slices_Concat_byte_byte.calls _ _ y684 t687 _ ?side1 ?side2 A11.out).mono ?_
   (case side1 => repeat (first | exact (Kd.N_reads' HO686.out).2.2 | (with_reducible refine Kd.C_alloc ?_ _) | (with_reducible refine Kd.C_drewN ?_ _) | (with_reducible refine Kd.C_drew ?_)))
   (case side2 => exact (Kd.N_reads' HO686.out).2.1)
   rintro e w20 ⟨v688, rfl, ho0, hb⟩
   refine ⟨_, rfl, ?_⟩
   have n0_ := Aside0.mk (Kd.V_elder' (by (with_reducible repeat (first | apply Kd.V_alloc | apply Kd.V_drewN | apply Kd.V_drew)); exact HO0_6.out) (Kd.R_base ho0) hb)
   have n1_ := Aside0.mk (Kd.R_elder' (by (with_reducible repeat (first | apply Kd.R_alloc | apply Kd.R_drewN | apply Kd.R_drew)); exact HO676.out) (Kd.R_base ho0) hb)
   have n2_ := Aside0.mk (Kd.N_elder' (by (with_reducible repeat (first | apply Kd.N_alloc | apply Kd.N_drewN | apply Kd.N_drew)); exact HO686.out) (Kd.R_base ho0) hb)
   have n3_ := Aside0.mk (Kd.R_lower (Kd.R_new' (Kd.R_newM (M := fun k_ => (w.heap.size ≤ k_)) ho0 (below_size (by repeat (first | (with_reducible first | exact HB.out | apply below_alloc | apply pw_below_drewN | apply below_drew1 | refine below_set ?_ GE673.out) | exact HB.out))) (fun k_ h_ => h_)) (Kd.R_lt (by (with_reducible repeat (first | apply Kd.R_alloc | apply Kd.R_drewN | apply Kd.R_drew)); exact HO676.out))) (below_size (by repeat (first | (with_reducible first | exact HB.out | apply below_alloc | apply pw_below_drewN | apply below_drew1 | refine below_set ?_ GE673.out) | exact HB.out))))
   have n4_ := Aside0.mk (blk_below (g := gb673) (o := .cells #[.int .i64 a0_0, .int .i64 a0_1, .int .i64 a0_2, .int .i64 a0_3, .int .i64 a0_4, .int .i64 a0_5, .slice A0_6 l0_6.length c0_6] 34 (0, 0)) (by (with_reducible repeat (first | refine blk_drewN ?_ _ | refine blk_drew ?_ | refine blk_alloc ?_ _)); exact BK673.out) hb)
   have n5_ := Aside0.mk (below_step (by repeat (first | (with_reducible first | exact HB.out | apply below_alloc | apply pw_below_drewN | apply below_drew1 | refine below_set ?_ GE673.out) | exact HB.out)) hb)
   clear HO0_6
   clear HO676
   clear HO686
   clear BK673
   clear HB
   have HO0_6 := n0_
   have HO676 := n1_
   have HO686 := n2_
   have HO689 := n3_
   have BK673 := n4_
   have HB := n5_
   clear n0_ n1_ n2_ n3_ n4_ n5_
   (try clear hb)
   (try clear hb2)
   (try clear hk)
   (try clear hi)
   (try clear ho0)
   refine hK.out _ _ ⟨(blk_cell BK673.out 0).trans rfl, (blk_cell BK673.out 1).trans rfl, (blk_cell BK673.out 2).trans rfl, (blk_cell BK673.out 3).trans rfl, (blk_cell BK673.out 4).trans rfl, (blk_cell BK673.out 5).trans rfl, (blk_cell BK673.out 6).trans rfl⟩ (fun hHeld => ?_)
   clear hK K
   refine norm_ (a' := ?_) ?_ ?_
   rotate_left
   ·show Act.put _ (some 17) _ = _
    simp only [Act.put, lA_, lZ_, lS_, i64_w, i32_w]
    rfl
   refine pure_ (i := 8) (N := some 3) (v := ?_) (a' := ?_) #[true, true, true, true, true, true, true, true, true] rfl rfl (any_of HT_.out (by kernel_rfl)) (fun _ _ _ h => h) (Or.inl ⟨by rfl, ?_⟩) ?_ ?_
   rotate_left
   ·intro w'
    go_simp
    with_reducible rfl
   rotate_left
   ·simp only [Act.put, lA_, lZ_, lS_, i64_w, i32_w]
    rfl
   refine done_ (done_of HT_.out (by kernel_rfl)) ?_
   try go_wp2
   go_meet
   case rel => exact ⟨_, (t687), H', ⟨by first | omega | exact Nat.le_refl _⟩, ⟨by (with_reducible repeat (first | apply Kd.R_alloc | apply Kd.R_drewN | apply Kd.R_drew)); exact Kd.R_mono HO689.out (fun _ hk => hk.1.1)⟩, ⟨by (with_reducible repeat (first | apply Kd.V_alloc | apply Kd.V_drewN | apply Kd.V_drew)); exact Kd.V_mono HO0_6.out (fun _ hk => ⟨hk.1.1.1.1.1.1, ⟨hk.2, hk.1.1.1.1.1.2⟩⟩)⟩, ⟨by (with_reducible repeat (first | refine blk_drewN ?_ _ | refine blk_drew ?_ | refine blk_alloc ?_ _)); exact BK673.out⟩, ⟨by repeat (first | (with_reducible first | exact HB.out | apply below_alloc | apply pw_below_drewN | apply below_drew1 | refine below_set ?_ GE673.out) | exact HB.out)⟩⟩
  ·replace c8 := Bool.eq_false_iff.mpr c8
   subst c8
   rw [if_neg (show ¬ (false = true) by decide)] at H
   have H' := Aside0.mk H
   clear H
   go_wp2
   go_meet
   case rel => exact ⟨_, (y674), H', ⟨by first | omega | exact Nat.le_refl _⟩, ⟨by (with_reducible repeat (first | apply Kd.R_alloc | apply Kd.R_drewN | apply Kd.R_drew)); exact Kd.R_mono HO676.out (fun _ hk => hk.1)⟩, ⟨by (with_reducible repeat (first | apply Kd.V_alloc | apply Kd.V_drewN | apply Kd.V_drew)); exact Kd.V_mono HO0_6.out (fun _ hk => ⟨hk.1.1, ⟨hk.2, hk.1.2⟩⟩)⟩, ⟨by (with_reducible repeat (first | refine blk_drewN ?_ _ | refine blk_drew ?_ | refine blk_alloc ?_ _)); exact BK673.out⟩, ⟨by repeat (first | (with_reducible first | exact HB.out | apply below_alloc | apply pw_below_drewN | apply below_drew1 | refine below_set ?_ GE673.out) | exact HB.out)⟩⟩
 case rest =>
  clear HC3
  try clear p2
  try clear c4
  try clear c5
  try clear c6
  try clear c8
  try clear hcz7_0
  try clear hcz7_1
  try clear hcz7_2
  try clear hcz7_3
  try clear hcz7_4
  try clear hcz7_5
  try clear hcz7_6
  try clear hfz7_0
  try clear hfz7_1
  try clear hfz7_2
  try clear hfz7_3
  try clear hfz7_4
  try clear hfz7_5
  try clear hfz7_6
  obtain ⟨kq, x3_2, HA, HJ2, HO_3, HO_674006, BK673, HB⟩ := hcut
  cases kq with
  | zero => exact absurd HA.out (by simp [impl_build.j0])
  | succ kj2 =>
   have H := HA.out
   clear HA
   simp only [impl_build.j0] at H
   replace H := Option.bind_eq_some_iff.mp H
   obtain ⟨t690, A210, H⟩ := H
   try dsimp only at H
   have A21 := Aside0.mk A210
   clear A210
   obtain ⟨y693, hy693⟩ : ∃ y_ : List Int, y_ = (([69, 0] : List Int)) := ⟨_, rfl⟩
   replace H : ((impl_put.f kj2 a0_0 4).bind fun t699 => ((impl_put.f kj2 a0_1 4).bind fun t702 => ((slices_Concat_byte_byte.f (([y693, t690, (([0, 0, 64, 0, (a0_3) % 256, (a0_2) % 256, 0, 0] : List Int)), t699, t702] : List (List Int)))).bind fun t708 => ((impl_SumWords.f kj2 t708).bind fun ts_ => ((impl_put.f kj2 ts_ 2).bind fun tz_ => (if t708.length = 20 ∧ tz_.length = 2 then ((slices_Concat_byte_byte.f (([splice t708 10 tz_, x3_2, l0_6] : List (List Int)))).bind fun t714 => (some t714)) else (none))))))) = some r := by first | (rw [hy693]; with_reducible exact H) | (have H2_ := (Option.bind_some _ _).symm.trans H; rw [hy693]; with_reducible exact H2_) | (have H2_ := (Option.bind_some _ _).symm.trans H; with_reducible exact H2_) | with_reducible exact H | (rw [hy693]; exact H) | exact H
   have Ny693 := Aside0.mk hy693
   clear hy693
   obtain ⟨y696, hy696⟩ : ∃ y_ : List Int, y_ = (([0, 0, 64, 0, (a0_3) % 256, (a0_2) % 256, 0, 0] : List Int)) := ⟨_, rfl⟩
   replace H : ((impl_put.f kj2 a0_0 4).bind fun t699 => ((impl_put.f kj2 a0_1 4).bind fun t702 => ((slices_Concat_byte_byte.f (([y693, t690, y696, t699, t702] : List (List Int)))).bind fun t708 => ((impl_SumWords.f kj2 t708).bind fun ts_ => ((impl_put.f kj2 ts_ 2).bind fun tz_ => (if t708.length = 20 ∧ tz_.length = 2 then ((slices_Concat_byte_byte.f (([splice t708 10 tz_, x3_2, l0_6] : List (List Int)))).bind fun t714 => (some t714)) else (none))))))) = some r := by first | (rw [hy696]; with_reducible exact H) | (have H2_ := (Option.bind_some _ _).symm.trans H; rw [hy696]; with_reducible exact H2_) | (have H2_ := (Option.bind_some _ _).symm.trans H; with_reducible exact H2_) | with_reducible exact H | (rw [hy696]; exact H) | exact H
   have Ny696 := Aside0.mk hy696
   clear hy696
   replace H := Option.bind_eq_some_iff.mp H
   obtain ⟨t699, A220, H⟩ := H
   try dsimp only at H
   have A22 := Aside0.mk A220
   clear A220
   replace H := Option.bind_eq_some_iff.mp H
   obtain ⟨t702, A230, H⟩ := H
   try dsimp only at H
   have A23 := Aside0.mk A230
   clear A230
   obtain ⟨y705, hy705⟩ : ∃ y_ : List (List Int), y_ = (([y693, t690, y696, t699, t702] : List (List Int))) := ⟨_, rfl⟩
   replace H : ((slices_Concat_byte_byte.f y705).bind fun t708 => ((impl_SumWords.f kj2 t708).bind fun ts_ => ((impl_put.f kj2 ts_ 2).bind fun tz_ => (if t708.length = 20 ∧ tz_.length = 2 then ((slices_Concat_byte_byte.f (([splice t708 10 tz_, x3_2, l0_6] : List (List Int)))).bind fun t714 => (some t714)) else (none))))) = some r := by first | (rw [hy705]; with_reducible exact H) | (have H2_ := (Option.bind_some _ _).symm.trans H; rw [hy705]; with_reducible exact H2_) | (have H2_ := (Option.bind_some _ _).symm.trans H; with_reducible exact H2_) | with_reducible exact H | (rw [hy705]; exact H) | exact H
   have Ny705 := Aside0.mk hy705
   clear hy705
   replace H := Option.bind_eq_some_iff.mp H
   obtain ⟨t708, A240, H⟩ := H
   try dsimp only at H
   have A24 := Aside0.mk A240
   clear A240
   replace H := Option.bind_eq_some_iff.mp H
   obtain ⟨ts_, AS0_, H⟩ := H
   try dsimp only at H
   have AS_ := Aside0.mk AS0_
   clear AS0_
   replace H := Option.bind_eq_some_iff.mp H
   obtain ⟨tz_, AZ0_, H⟩ := H
   try dsimp only at H
   have AZ_ := Aside0.mk AZ0_
   clear AZ0_
   by_cases cl_ : t708.length = 20 ∧ tz_.length = 2
   rotate_left
   ·rw [if_neg cl_] at H
    cases H
   rw [if_pos cl_] at H
   have CL_ := Aside0.mk cl_
   clear cl_
   obtain ⟨ty_, hty_⟩ : ∃ ty_, ty_ = splice t708 10 tz_ := ⟨_, rfl⟩
   rw [← hty_] at H
   have HTY_ := Aside0.mk hty_
   clear hty_
   obtain ⟨y711, hy711⟩ : ∃ y_ : List (List Int), y_ = (([ty_, x3_2, l0_6] : List (List Int))) := ⟨_, rfl⟩
   replace H : ((slices_Concat_byte_byte.f y711).bind fun t714 => (some t714)) = some r := by first | (rw [hy711]; with_reducible exact H) | (have H2_ := (Option.bind_some _ _).symm.trans H; rw [hy711]; with_reducible exact H2_) | (have H2_ := (Option.bind_some _ _).symm.trans H; with_reducible exact H2_) | with_reducible exact H | (rw [hy711]; exact H) | exact H
   have Ny711 := Aside0.mk hy711
   clear hy711
   replace H := Option.bind_eq_some_iff.mp H
   obtain ⟨t714, A250, H⟩ := H
   try dsimp only at H
   have A25 := Aside0.mk A250
   clear A250
   obtain rfl := Option.some.inj H
   obtain ⟨Ao26, co26, eo26⟩ := Kd.R_slice HO_3.out
   subst eo26
   have hcz27_0 : wc.cell? ⟨gb673, 0, none⟩ = some (.int .i64 a0_0) := (blk_cell BK673.out 0).trans rfl
   have hcz27_1 : wc.cell? ⟨gb673, 1, none⟩ = some (.int .i64 a0_1) := (blk_cell BK673.out 1).trans rfl
   have hcz27_2 : wc.cell? ⟨gb673, 2, none⟩ = some (.int .i64 a0_2) := (blk_cell BK673.out 2).trans rfl
   have hcz27_3 : wc.cell? ⟨gb673, 3, none⟩ = some (.int .i64 a0_3) := (blk_cell BK673.out 3).trans rfl
   have hcz27_4 : wc.cell? ⟨gb673, 4, none⟩ = some (.int .i64 a0_4) := (blk_cell BK673.out 4).trans rfl
   have hcz27_5 : wc.cell? ⟨gb673, 5, none⟩ = some (.int .i64 a0_5) := (blk_cell BK673.out 5).trans rfl
   have hcz27_6 : wc.cell? ⟨gb673, 6, none⟩ = some (.slice A0_6 l0_6.length c0_6) := (blk_cell BK673.out 6).trans rfl
   have hfz27_0 := blk_frozen BK673.out 0
   have hfz27_1 := blk_frozen BK673.out 1
   have hfz27_2 := blk_frozen BK673.out 2
   have hfz27_3 := blk_frozen BK673.out 3
   have hfz27_4 := blk_frozen BK673.out 4
   have hfz27_5 := blk_frozen BK673.out 5
   have hfz27_6 := blk_frozen BK673.out 6
   try go_wp2_with (first | ((with_reducible refine gate_callee (f := 50) rfl ?_); refine goesL_ (some 25) rfl rfl Try.func50 (by kernel_rfl) rfl #[.int .i64 (wrap64 ((wrap64 (20 + (x3_2.length : Int))) + (l0_6.length : Int))), .int .i64 2] rfl (by (try simp only [List.map_toArray, List.map_cons, List.map_nil]); first | done | rfl | (simp only [List.length_drop, List.length_take]; rfl)) ?_; (with_reducible refine (impl_put.calls kj2 (wrap64 ((wrap64 (20 + (x3_2.length : Int))) + (l0_6.length : Int))) 2 t690 _ A21.out).mono ?_); rintro e w28 ⟨v691, rfl, ho0, hb⟩; refine ⟨_, rfl, ?_⟩; have n0_ := Aside0.mk (Kd.R_elder' (by (with_reducible repeat (first | apply Kd.R_alloc | apply Kd.R_drewN | apply Kd.R_drew)); exact HO_3.out) (Kd.R_base ho0) hb); have n1_ := Aside0.mk (Kd.V_elder' (by (with_reducible repeat (first | apply Kd.V_alloc | apply Kd.V_drewN | apply Kd.V_drew)); exact HO_674006.out) (Kd.R_base ho0) hb); have n2_ := Aside0.mk (Kd.R_lower (Kd.R_new' (Kd.R_newM (M := fun k_ => (w.heap.size ≤ k_)) ho0 (below_size (by repeat (first | (with_reducible first | exact HB.out | apply below_alloc | apply pw_below_drewN | apply below_drew1 | refine below_set ?_ GE673.out) | exact HB.out))) (fun k_ h_ => h_)) (Kd.R_lt (by (with_reducible repeat (first | apply Kd.R_alloc | apply Kd.R_drewN | apply Kd.R_drew)); exact HO_3.out))) (below_size (by repeat (first | (with_reducible first | exact HB.out | apply below_alloc | apply pw_below_drewN | apply below_drew1 | refine below_set ?_ GE673.out) | exact HB.out)))); have n3_ := Aside0.mk (blk_below (g := gb673) (o := .cells #[.int .i64 a0_0, .int .i64 a0_1, .int .i64 a0_2, .int .i64 a0_3, .int .i64 a0_4, .int .i64 a0_5, .slice A0_6 l0_6.length c0_6] 34 (0, 0)) (by (with_reducible repeat (first | refine blk_drewN ?_ _ | refine blk_drew ?_ | refine blk_alloc ?_ _)); exact BK673.out) hb); have n4_ := Aside0.mk (below_step (by repeat (first | (with_reducible first | exact HB.out | apply below_alloc | apply pw_below_drewN | apply below_drew1 | refine below_set ?_ GE673.out) | exact HB.out)) hb); clear HO_3; clear HO_674006; clear BK673; clear HB; have HO_3 := n0_; have HO_674006 := n1_; have HO692 := n2_; have BK673 := n3_; have HB := n4_; clear n0_ n1_ n2_ n3_ n4_; (try clear hb); (try clear hb2); (try clear hk); (try clear hi); (try clear ho0)))
   have n0_ := Aside0.mk (Kd.R_drew HO_3.out)
   have n1_ := Aside0.mk (Kd.V_drew HO_674006.out)
   have n2_ := Aside0.mk (Kd.R_drew HO692.out)
   have n3_ := Aside0.mk (blk_drew BK673.out)
   have n4_ := Aside0.mk (below_drew1 HB.out)
   clear HO_3
   clear HO_674006
   clear HO692
   clear BK673
   clear HB
   have HO_3 := n0_
   have HO_674006 := n1_
   have HO692 := n2_
   have BK673 := n3_
   have HB := n4_
   clear n0_ n1_ n2_ n3_ n4_
   refine start_ (n := 18) (S := fun w' => True) (ds := []) #[false, false, false, false, false, false, false, false, false, false, false, false, false, false, false, false, false, false] (by kernel_rfl) rfl rfl trivial (fun hHeld => ?_); refine with_tabW impl_build.tab5 impl_build.bits5 (fun HT_ HW_ => ?_)
   generalize w28.drew = w29 at HO_3 HO_674006 HO692 BK673 HB hHeld ⊢
   refine pure_ (i := 1) (N := some 27) (v := ?_) (a' := ?_) #[false, true, false, false, false, false, false, false, false, false, false, false, false, false, false, false, false, false] rfl rfl (any_of HT_.out (by kernel_rfl)) (fun _ _ _ h => h) (Or.inl ⟨by rfl, ?_⟩) ?_ ?_
   rotate_left
   ·intro w'
    go_simp
    with_reducible rfl
   rotate_left
   ·simp only [Act.put, lA_, lZ_, lS_, i64_w, i32_w]
    rfl
   refine pure_ (i := 2) (N := some 28) (v := ?_) (a' := ?_) #[false, true, true, false, false, false, false, false, false, false, false, false, false, false, false, false, false, false] rfl rfl (any_of HT_.out (by kernel_rfl)) (fun _ _ _ h => h) (Or.inl ⟨by rfl, ?_⟩) ?_ ?_
   rotate_left
   ·intro w'
    go_simp
    with_reducible rfl
   rotate_left
   ·simp only [Act.put, lA_, lZ_, lS_, i64_w, i32_w]
    rfl
   refine pure_ (i := 5) (N := some 31) (v := ?_) (a' := ?_) #[false, true, true, false, false, true, false, false, false, false, false, false, false, false, false, false, false, false] rfl rfl (any_of HT_.out (by kernel_rfl)) (fun _ _ _ h => h) (Or.inl ⟨by rfl, ?_⟩) ?_ ?_
   rotate_left
   ·intro w'
    go_simp
    with_reducible rfl
   rotate_left
   ·simp only [Act.put, lA_, lZ_, lS_, i64_w, i32_w]
    rfl
   refine pure_ (i := 9) (N := some 35) (v := ?_) (a' := ?_) #[false, true, true, false, false, true, false, false, false, true, false, false, false, false, false, false, false, false] rfl rfl (any_of HT_.out (by kernel_rfl)) (fun _ _ _ h => h) (Or.inl ⟨by rfl, ?_⟩) ?_ ?_
   rotate_left
   ·intro w'
    go_simp
    with_reducible rfl
   rotate_left
   ·simp only [Act.put, lA_, lZ_, lS_, i64_w, i32_w]
    rfl
   refine pure_ (i := 12) (N := some 38) (v := ?_) (a' := ?_) #[false, true, true, false, false, true, false, false, false, true, false, false, true, false, false, false, false, false] rfl rfl (any_of HT_.out (by kernel_rfl)) (fun _ _ _ h => h) (Or.inl ⟨by rfl, ?_⟩) ?_ ?_
   rotate_left
   ·intro w'
    go_simp
    with_reducible rfl
   rotate_left
   ·simp only [Act.put, lA_, lZ_, lS_, i64_w, i32_w]
    rfl
   refine inv_at [0, 3, 4, 6, 7, 8, 10, 11, 13, 14, 15, 16, 17] (fun a0_ b a w' => ∃ (v694 : Value) (v697 : Value) (v700 : Value) (v703 : Value) (v706 : Value) (v709 : Value) (m17_ : Value), a = putSel a0_ b [(0, 26, v694), (3, 29, .int .i64 a0_3), (4, 30, .int .u8 ((a0_3) % 256)), (6, 32, .int .i64 a0_2), (7, 33, .int .u8 ((a0_2) % 256)), (8, 34, v697), (10, 36, .int .i64 a0_0), (11, 37, v700), (13, 39, .int .i64 a0_1), (14, 40, v703), (15, 41, v706), (16, 42, v709), (17, 5, m17_)] ∧ (b 15 = false → Kd.R (Kd.int .u8) 5 w' w.heap.size (fun k_ => (w.heap.size ≤ k_) ∧ some k_ ≠ (.slice Ao26 x3_2.length co26 : Value).ownBlock) v691 t690) ∧ (b 15 = false → Kd.R (Kd.int .u8) 5 w' w.heap.size (fun k_ => (w.heap.size ≤ k_) ∧ some k_ ≠ (v691 : Value).ownBlock) (.slice Ao26 x3_2.length co26) x3_2) ∧ (b 15 = false → Kd.V (Kd.int .u8) 5 w' w.heap.size (fun k_ => (P0_6_ k_ ∨ w.heap.size ≤ k_) ∧ some k_ ≠ (v691 : Value).ownBlock ∧ some k_ ≠ (.slice Ao26 x3_2.length co26 : Value).ownBlock ∧ k_ ≠ gb673) (.slice A0_6 l0_6.length c0_6) l0_6) ∧ (w'.heap[gb673]? = some (.cells #[.int .i64 a0_0, .int .i64 a0_1, .int .i64 a0_2, .int .i64 a0_3, .int .i64 a0_4, .int .i64 a0_5, .slice A0_6 l0_6.length c0_6] 34 (0, 0))) ∧ (Below w.heap.size w w') ∧ (b 0 = true → b 15 = false → Kd.R (Kd.int .u8) 5 w' w.heap.size (fun k_ => (w.heap.size ≤ k_) ∧ some k_ ≠ (v691 : Value).ownBlock ∧ some k_ ≠ (.slice Ao26 x3_2.length co26 : Value).ownBlock) v694 y693) ∧ (b 8 = true → b 15 = false → Kd.R (Kd.int .u8) 5 w' w.heap.size (fun k_ => (w.heap.size ≤ k_) ∧ some k_ ≠ (v691 : Value).ownBlock ∧ some k_ ≠ (.slice Ao26 x3_2.length co26 : Value).ownBlock) v697 y696) ∧ (b 11 = true → b 15 = false → Kd.R (Kd.int .u8) 5 w' w.heap.size (fun k_ => (w.heap.size ≤ k_) ∧ some k_ ≠ (v691 : Value).ownBlock ∧ some k_ ≠ (.slice Ao26 x3_2.length co26 : Value).ownBlock) v700 t699) ∧ (b 14 = true → b 15 = false → Kd.R (Kd.int .u8) 5 w' w.heap.size (fun k_ => (w.heap.size ≤ k_) ∧ some k_ ≠ (v691 : Value).ownBlock ∧ some k_ ≠ (.slice Ao26 x3_2.length co26 : Value).ownBlock) v703 t702) ∧ (b 15 = true → Kd.N (Kd.slice 5 (Kd.int .u8)) 22 w' w.heap.size (fun k_ => (P0_6_ k_ ∨ w.heap.size ≤ k_) ∧ some k_ ≠ (.slice Ao26 x3_2.length co26 : Value).ownBlock ∧ k_ ≠ gb673) v706 y705) ∧ (b 15 = true → Kd.R (Kd.int .u8) 5 w' w.heap.size (fun k_ => (w.heap.size ≤ k_)) (.slice Ao26 x3_2.length co26) x3_2) ∧ (b 15 = true → Kd.V (Kd.int .u8) 5 w' w.heap.size (fun k_ => (P0_6_ k_ ∨ w.heap.size ≤ k_) ∧ some k_ ≠ (.slice Ao26 x3_2.length co26 : Value).ownBlock ∧ k_ ≠ gb673) (.slice A0_6 l0_6.length c0_6) l0_6) ∧ (b 16 = true → Kd.R (Kd.int .u8) 5 w' w.heap.size (fun k_ => (w.heap.size ≤ k_) ∧ some k_ ≠ (.slice Ao26 x3_2.length co26 : Value).ownBlock) v709 t708) ∧ (b 17 = true → (m17_ : Value) = v709)) HT_.out HW_.out (by kernel_rfl) (by kernel_rfl) ?_ ?_ ?_
   ·exact ⟨.bool false, .bool false, .bool false, .bool false, .bool false, .bool false, .bool false, by simp only [putSel, Bool.false_eq_true, if_false], fun _ => Kd.R_mono HO692.out (fun _ hk => by simp_all), fun _ => Kd.R_mono HO_3.out (fun _ hk => by simp_all), fun _ => Kd.V_mono HO_674006.out (fun _ hk => by simp_all), BK673.out, HB.out, fun h_ => absurd h_ (by decide), fun h_ => absurd h_ (by decide), fun h_ => absurd h_ (by decide), fun h_ => absurd h_ (by decide), fun h_ => absurd h_ (by decide), fun h_ => absurd h_ (by decide), fun h_ => absurd h_ (by decide), fun h_ => absurd h_ (by decide), fun h_ => absurd h_ (by decide)⟩
   ·skip
    clear BK673 HB HO692 HO_3 HO_674006
    refine steps_cons ?_ ?_
    ·rintro b a w' ⟨v694, v697, v700, v703, v706, v709, m17_, ha, Q_HO692, Q_HO_3, Q_HO_674006, Q_BK673, Q_HB, Q_HO695, Q_HO698, Q_HO701, Q_HO704, Q_HO707, Q_HO_3_e15, Q_HO_674006_e15, Q_HO710, Q_X17_⟩ hb_ hon hoff
     refine ⟨_, rfl, fun K hK => ?_⟩
     replace ha := Aside0.mk ha
     have HO692 := Aside0.mk (Q_HO692 (hoff 15 (by kernel_rfl)))
     have HO_3 := Aside0.mk (Q_HO_3 (hoff 15 (by kernel_rfl)))
     have HO_674006 := Aside0.mk (Q_HO_674006 (hoff 15 (by kernel_rfl)))
     have BK673 := Aside0.mk Q_BK673
     have HB := Aside0.mk Q_HB
     refine Kd.R_lit_step (Kd.int .u8) _ 5 ?hg (N := 26) ?hd (xs := ([69, 0] : List Int)) (inner := [.int .u8 69, .int .u8 0]) (ok := fun _ => True) (okp := fun _ => True) ?hr ?hp (fun _ hk => hk) trivial (Below.refl _ _) (Nat.le_refl _) (by simp) ?_; (case hd => rfl); (case hg => rfl); (case hr => first | (go_simp; done) | (go_simp; rfl)); (case hp => exact (Reps.one (show Kd.M (Kd.int .u8) _ _ _ 69 [.int .u8 69] from rfl) (Reps.one (show Kd.M (Kd.int .u8) _ _ _ 0 [.int .u8 0] from rfl) (Reps.none _ _))))
     intro v694 w30 ho31 hb hg_ hnew_
     clear hg_ hnew_
     (first | rw [← Ny693.out] at ho31 | (simp only [Int.reduceToNat] at ho31; rw [← Ny693.out] at ho31))
     have n0_ := Aside0.mk (Kd.R_elder' (by (with_reducible repeat (first | apply Kd.R_alloc | apply Kd.R_drewN | apply Kd.R_drew)); exact HO_3.out) (Kd.R_base ho31) hb)
     have n1_ := Aside0.mk (Kd.V_elder' (by (with_reducible repeat (first | apply Kd.V_alloc | apply Kd.V_drewN | apply Kd.V_drew)); exact HO_674006.out) (Kd.R_base ho31) hb)
     have n2_ := Aside0.mk (Kd.R_elder' (by (with_reducible repeat (first | apply Kd.R_alloc | apply Kd.R_drewN | apply Kd.R_drew)); exact HO692.out) (Kd.R_base ho31) hb)
     have n3_ := Aside0.mk (Kd.R_lower (Kd.R_new' (Kd.R_new' (Kd.R_newM (M := fun k_ => (w.heap.size ≤ k_)) ho31 (below_size (by repeat (first | (with_reducible first | exact HB.out | apply below_alloc | apply pw_below_drewN | apply below_drew1 | refine below_set ?_ GE673.out) | exact HB.out))) (fun k_ h_ => h_)) (Kd.R_lt (by (with_reducible repeat (first | apply Kd.R_alloc | apply Kd.R_drewN | apply Kd.R_drew)); exact HO_3.out))) (Kd.R_lt (by (with_reducible repeat (first | apply Kd.R_alloc | apply Kd.R_drewN | apply Kd.R_drew)); exact HO692.out))) (below_size (by repeat (first | (with_reducible first | exact HB.out | apply below_alloc | apply pw_below_drewN | apply below_drew1 | refine below_set ?_ GE673.out) | exact HB.out))))
     have n4_ := Aside0.mk (blk_below (g := gb673) (o := .cells #[.int .i64 a0_0, .int .i64 a0_1, .int .i64 a0_2, .int .i64 a0_3, .int .i64 a0_4, .int .i64 a0_5, .slice A0_6 l0_6.length c0_6] 34 (0, 0)) (by (with_reducible repeat (first | refine blk_drewN ?_ _ | refine blk_drew ?_ | refine blk_alloc ?_ _)); exact BK673.out) hb)
     have n5_ := Aside0.mk (below_step (by repeat (first | (with_reducible first | exact HB.out | apply below_alloc | apply pw_below_drewN | apply below_drew1 | refine below_set ?_ GE673.out) | exact HB.out)) hb)
     have z_HO698 := fun (h0_ : b 8 = true) (h1_ : b 15 = false) => (show Kd.R (Kd.int .u8) 5 w30 w.heap.size (fun k_ => (w.heap.size ≤ k_) ∧ some k_ ≠ (v691 : Value).ownBlock ∧ some k_ ≠ (.slice Ao26 x3_2.length co26 : Value).ownBlock) v697 y696 from by first | exact (Kd.R_elder' (by (with_reducible repeat (first | apply Kd.R_alloc | apply Kd.R_drewN | apply Kd.R_drew)); exact (Q_HO698 h0_ h1_)) (Kd.R_base ho31) hb) | exact Kd.R_mono (Kd.R_elder' (by (with_reducible repeat (first | apply Kd.R_alloc | apply Kd.R_drewN | apply Kd.R_drew)); exact (Q_HO698 h0_ h1_)) (Kd.R_base ho31) hb) (fun _ h_ => by first | trivial | exact h_ | exact h_.1))
     have z_HO701 := fun (h0_ : b 11 = true) (h1_ : b 15 = false) => (show Kd.R (Kd.int .u8) 5 w30 w.heap.size (fun k_ => (w.heap.size ≤ k_) ∧ some k_ ≠ (v691 : Value).ownBlock ∧ some k_ ≠ (.slice Ao26 x3_2.length co26 : Value).ownBlock) v700 t699 from by first | exact (Kd.R_elder' (by (with_reducible repeat (first | apply Kd.R_alloc | apply Kd.R_drewN | apply Kd.R_drew)); exact (Q_HO701 h0_ h1_)) (Kd.R_base ho31) hb) | exact Kd.R_mono (Kd.R_elder' (by (with_reducible repeat (first | apply Kd.R_alloc | apply Kd.R_drewN | apply Kd.R_drew)); exact (Q_HO701 h0_ h1_)) (Kd.R_base ho31) hb) (fun _ h_ => by first | trivial | exact h_ | exact h_.1))
     have z_HO704 := fun (h0_ : b 14 = true) (h1_ : b 15 = false) => (show Kd.R (Kd.int .u8) 5 w30 w.heap.size (fun k_ => (w.heap.size ≤ k_) ∧ some k_ ≠ (v691 : Value).ownBlock ∧ some k_ ≠ (.slice Ao26 x3_2.length co26 : Value).ownBlock) v703 t702 from by first | exact (Kd.R_elder' (by (with_reducible repeat (first | apply Kd.R_alloc | apply Kd.R_drewN | apply Kd.R_drew)); exact (Q_HO704 h0_ h1_)) (Kd.R_base ho31) hb) | exact Kd.R_mono (Kd.R_elder' (by (with_reducible repeat (first | apply Kd.R_alloc | apply Kd.R_drewN | apply Kd.R_drew)); exact (Q_HO704 h0_ h1_)) (Kd.R_base ho31) hb) (fun _ h_ => by first | trivial | exact h_ | exact h_.1))
     clear HO_3
     clear HO_674006
     clear HO692
     clear BK673
     clear HB
     have HO_3 := n0_
     have HO_674006 := n1_
     have HO692 := n2_
     have HO695 := n3_
     have BK673 := n4_
     have HB := n5_
     clear n0_ n1_ n2_ n3_ n4_ n5_
     clear hb ho31
     refine hK.out _ _ ⟨v694, v697, v700, v703, v706, v709, m17_, (by rw [ha.out]; exact putSel_upk 0 hb_ rfl rfl rfl), fun _ => (by (with_reducible repeat (first | apply Kd.R_alloc | apply Kd.R_drewN | apply Kd.R_drew)); exact Kd.R_mono HO692.out (fun _ hk => by simp_all)), fun _ => (by (with_reducible repeat (first | apply Kd.R_alloc | apply Kd.R_drewN | apply Kd.R_drew)); exact Kd.R_mono HO_3.out (fun _ hk => by simp_all)), fun _ => (by (with_reducible repeat (first | apply Kd.V_alloc | apply Kd.V_drewN | apply Kd.V_drew)); exact Kd.V_mono HO_674006.out (fun _ hk => by simp_all)), (by (with_reducible repeat (first | refine blk_drewN ?_ _ | refine blk_drew ?_ | refine blk_alloc ?_ _)); exact BK673.out), (by repeat (first | (with_reducible first | exact HB.out | apply below_alloc | apply pw_below_drewN | apply below_drew1 | refine below_set ?_ GE673.out) | exact HB.out)), fun _ _ => (by (with_reducible repeat (first | apply Kd.R_alloc | apply Kd.R_drewN | apply Kd.R_drew)); exact Kd.R_mono HO695.out (fun _ hk => by simp_all)), z_HO698, z_HO701, z_HO704, fun h0_ => absurd ((hoff 15 (by kernel_rfl)).symm.trans h0_) (by decide), fun h0_ => absurd ((hoff 15 (by kernel_rfl)).symm.trans h0_) (by decide), fun h0_ => absurd ((hoff 15 (by kernel_rfl)).symm.trans h0_) (by decide), fun h0_ => absurd ((hoff 16 (by kernel_rfl)).symm.trans h0_) (by decide), fun h0_ => absurd ((hoff 17 (by kernel_rfl)).symm.trans h0_) (by decide)⟩
    refine steps_cons ?_ ?_
    ·rintro b a w' ⟨v694, v697, v700, v703, v706, v709, m17_, ha, Q_HO692, Q_HO_3, Q_HO_674006, Q_BK673, Q_HB, Q_HO695, Q_HO698, Q_HO701, Q_HO704, Q_HO707, Q_HO_3_e15, Q_HO_674006_e15, Q_HO710, Q_X17_⟩ hb_ hon hoff
     refine ⟨_, rfl, fun K hK => ?_⟩
     have e28 : a.tmps[28]? = some (.pointer (some ⟨gb673, 3, none⟩)) := by rw [ha]; exact (putSel_off rfl).trans rfl
     replace ha := Aside0.mk ha
     have HO692 := Aside0.mk (Q_HO692 (hoff 15 (by kernel_rfl)))
     have HO_3 := Aside0.mk (Q_HO_3 (hoff 15 (by kernel_rfl)))
     have HO_674006 := Aside0.mk (Q_HO_674006 (hoff 15 (by kernel_rfl)))
     have BK673 := Aside0.mk Q_BK673
     have HB := Aside0.mk Q_HB
     have hc0_ : w'.cell? ⟨gb673, 0, none⟩ = some (.int .i64 a0_0) := (blk_cell BK673.out 0).trans rfl
     have hc1_ : w'.cell? ⟨gb673, 1, none⟩ = some (.int .i64 a0_1) := (blk_cell BK673.out 1).trans rfl
     have hc2_ : w'.cell? ⟨gb673, 2, none⟩ = some (.int .i64 a0_2) := (blk_cell BK673.out 2).trans rfl
     have hc3_ : w'.cell? ⟨gb673, 3, none⟩ = some (.int .i64 a0_3) := (blk_cell BK673.out 3).trans rfl
     have hc4_ : w'.cell? ⟨gb673, 4, none⟩ = some (.int .i64 a0_4) := (blk_cell BK673.out 4).trans rfl
     have hc5_ : w'.cell? ⟨gb673, 5, none⟩ = some (.int .i64 a0_5) := (blk_cell BK673.out 5).trans rfl
     have hc6_ : w'.cell? ⟨gb673, 6, none⟩ = some (.slice A0_6 l0_6.length c0_6) := (blk_cell BK673.out 6).trans rfl
     refine value_ (w1 := w') (v := .int .i64 a0_3) (by rfl) rfl ?_ ?_
     ·go_simp
      (try simp only [i64_w])
      try rfl
     refine hK.out _ _ ⟨v694, v697, v700, v703, v706, v709, m17_, (by rw [ha.out]; exact putSel_upk 1 hb_ rfl rfl rfl), Q_HO692, Q_HO_3, Q_HO_674006, Q_BK673, Q_HB, Q_HO695, fun h0_ _ => absurd ((hoff 8 (by kernel_rfl)).symm.trans h0_) (by decide), Q_HO701, Q_HO704, fun h0_ => absurd ((hoff 15 (by kernel_rfl)).symm.trans h0_) (by decide), fun h0_ => absurd ((hoff 15 (by kernel_rfl)).symm.trans h0_) (by decide), fun h0_ => absurd ((hoff 15 (by kernel_rfl)).symm.trans h0_) (by decide), fun h0_ => absurd ((hoff 16 (by kernel_rfl)).symm.trans h0_) (by decide), fun h0_ => absurd ((hoff 17 (by kernel_rfl)).symm.trans h0_) (by decide)⟩
    refine steps_cons ?_ ?_
    ·rintro b a w' ⟨v694, v697, v700, v703, v706, v709, m17_, ha, Q_HO692, Q_HO_3, Q_HO_674006, Q_BK673, Q_HB, Q_HO695, Q_HO698, Q_HO701, Q_HO704, Q_HO707, Q_HO_3_e15, Q_HO_674006_e15, Q_HO710, Q_X17_⟩ hb_ hon hoff
     refine ⟨_, rfl, fun K hK => ?_⟩
     have e29 : a.tmps[29]? = some (.int .i64 a0_3) := by rw [ha]; exact putSel_on (e := (3, 29, .int .i64 a0_3)) 1 rfl rfl (hon 3 (by kernel_rfl)) rfl
     replace ha := Aside0.mk ha
     have HO692 := Aside0.mk (Q_HO692 (hoff 15 (by kernel_rfl)))
     have HO_3 := Aside0.mk (Q_HO_3 (hoff 15 (by kernel_rfl)))
     have HO_674006 := Aside0.mk (Q_HO_674006 (hoff 15 (by kernel_rfl)))
     have BK673 := Aside0.mk Q_BK673
     have HB := Aside0.mk Q_HB
     refine value_ (w1 := w') (v := .int .u8 ((a0_3) % 256)) (by rfl) rfl ?_ ?_
     ·go_simp
      (try simp only [i64_w])
      try rfl
     refine hK.out _ _ ⟨v694, v697, v700, v703, v706, v709, m17_, (by rw [ha.out]; exact putSel_upk 2 hb_ rfl rfl rfl), Q_HO692, Q_HO_3, Q_HO_674006, Q_BK673, Q_HB, Q_HO695, fun h0_ _ => absurd ((hoff 8 (by kernel_rfl)).symm.trans h0_) (by decide), Q_HO701, Q_HO704, fun h0_ => absurd ((hoff 15 (by kernel_rfl)).symm.trans h0_) (by decide), fun h0_ => absurd ((hoff 15 (by kernel_rfl)).symm.trans h0_) (by decide), fun h0_ => absurd ((hoff 15 (by kernel_rfl)).symm.trans h0_) (by decide), fun h0_ => absurd ((hoff 16 (by kernel_rfl)).symm.trans h0_) (by decide), fun h0_ => absurd ((hoff 17 (by kernel_rfl)).symm.trans h0_) (by decide)⟩
    refine steps_cons ?_ ?_
    ·rintro b a w' ⟨v694, v697, v700, v703, v706, v709, m17_, ha, Q_HO692, Q_HO_3, Q_HO_674006, Q_BK673, Q_HB, Q_HO695, Q_HO698, Q_HO701, Q_HO704, Q_HO707, Q_HO_3_e15, Q_HO_674006_e15, Q_HO710, Q_X17_⟩ hb_ hon hoff
     refine ⟨_, rfl, fun K hK => ?_⟩
     have e31 : a.tmps[31]? = some (.pointer (some ⟨gb673, 2, none⟩)) := by rw [ha]; exact (putSel_off rfl).trans rfl
     replace ha := Aside0.mk ha
     have HO692 := Aside0.mk (Q_HO692 (hoff 15 (by kernel_rfl)))
     have HO_3 := Aside0.mk (Q_HO_3 (hoff 15 (by kernel_rfl)))
     have HO_674006 := Aside0.mk (Q_HO_674006 (hoff 15 (by kernel_rfl)))
     have BK673 := Aside0.mk Q_BK673
     have HB := Aside0.mk Q_HB
     have hc0_ : w'.cell? ⟨gb673, 0, none⟩ = some (.int .i64 a0_0) := (blk_cell BK673.out 0).trans rfl
     have hc1_ : w'.cell? ⟨gb673, 1, none⟩ = some (.int .i64 a0_1) := (blk_cell BK673.out 1).trans rfl
     have hc2_ : w'.cell? ⟨gb673, 2, none⟩ = some (.int .i64 a0_2) := (blk_cell BK673.out 2).trans rfl
     have hc3_ : w'.cell? ⟨gb673, 3, none⟩ = some (.int .i64 a0_3) := (blk_cell BK673.out 3).trans rfl
     have hc4_ : w'.cell? ⟨gb673, 4, none⟩ = some (.int .i64 a0_4) := (blk_cell BK673.out 4).trans rfl
     have hc5_ : w'.cell? ⟨gb673, 5, none⟩ = some (.int .i64 a0_5) := (blk_cell BK673.out 5).trans rfl
     have hc6_ : w'.cell? ⟨gb673, 6, none⟩ = some (.slice A0_6 l0_6.length c0_6) := (blk_cell BK673.out 6).trans rfl
     refine value_ (w1 := w') (v := .int .i64 a0_2) (by rfl) rfl ?_ ?_
     ·go_simp
      (try simp only [i64_w])
      try rfl
     refine hK.out _ _ ⟨v694, v697, v700, v703, v706, v709, m17_, (by rw [ha.out]; exact putSel_upk 3 hb_ rfl rfl rfl), Q_HO692, Q_HO_3, Q_HO_674006, Q_BK673, Q_HB, Q_HO695, fun h0_ _ => absurd ((hoff 8 (by kernel_rfl)).symm.trans h0_) (by decide), Q_HO701, Q_HO704, fun h0_ => absurd ((hoff 15 (by kernel_rfl)).symm.trans h0_) (by decide), fun h0_ => absurd ((hoff 15 (by kernel_rfl)).symm.trans h0_) (by decide), fun h0_ => absurd ((hoff 15 (by kernel_rfl)).symm.trans h0_) (by decide), fun h0_ => absurd ((hoff 16 (by kernel_rfl)).symm.trans h0_) (by decide), fun h0_ => absurd ((hoff 17 (by kernel_rfl)).symm.trans h0_) (by decide)⟩
    refine steps_cons ?_ ?_
    ·rintro b a w' ⟨v694, v697, v700, v703, v706, v709, m17_, ha, Q_HO692, Q_HO_3, Q_HO_674006, Q_BK673, Q_HB, Q_HO695, Q_HO698, Q_HO701, Q_HO704, Q_HO707, Q_HO_3_e15, Q_HO_674006_e15, Q_HO710, Q_X17_⟩ hb_ hon hoff
     refine ⟨_, rfl, fun K hK => ?_⟩
     have e32 : a.tmps[32]? = some (.int .i64 a0_2) := by rw [ha]; exact putSel_on (e := (6, 32, .int .i64 a0_2)) 3 rfl rfl (hon 6 (by kernel_rfl)) rfl
     replace ha := Aside0.mk ha
     have HO692 := Aside0.mk (Q_HO692 (hoff 15 (by kernel_rfl)))
     have HO_3 := Aside0.mk (Q_HO_3 (hoff 15 (by kernel_rfl)))
     have HO_674006 := Aside0.mk (Q_HO_674006 (hoff 15 (by kernel_rfl)))
     have BK673 := Aside0.mk Q_BK673
     have HB := Aside0.mk Q_HB
     refine value_ (w1 := w') (v := .int .u8 ((a0_2) % 256)) (by rfl) rfl ?_ ?_
     ·go_simp
      (try simp only [i64_w])
      try rfl
     refine hK.out _ _ ⟨v694, v697, v700, v703, v706, v709, m17_, (by rw [ha.out]; exact putSel_upk 4 hb_ rfl rfl rfl), Q_HO692, Q_HO_3, Q_HO_674006, Q_BK673, Q_HB, Q_HO695, fun h0_ _ => absurd ((hoff 8 (by kernel_rfl)).symm.trans h0_) (by decide), Q_HO701, Q_HO704, fun h0_ => absurd ((hoff 15 (by kernel_rfl)).symm.trans h0_) (by decide), fun h0_ => absurd ((hoff 15 (by kernel_rfl)).symm.trans h0_) (by decide), fun h0_ => absurd ((hoff 15 (by kernel_rfl)).symm.trans h0_) (by decide), fun h0_ => absurd ((hoff 16 (by kernel_rfl)).symm.trans h0_) (by decide), fun h0_ => absurd ((hoff 17 (by kernel_rfl)).symm.trans h0_) (by decide)⟩
    refine steps_cons ?_ ?_
    ·rintro b a w' ⟨v694, v697, v700, v703, v706, v709, m17_, ha, Q_HO692, Q_HO_3, Q_HO_674006, Q_BK673, Q_HB, Q_HO695, Q_HO698, Q_HO701, Q_HO704, Q_HO707, Q_HO_3_e15, Q_HO_674006_e15, Q_HO710, Q_X17_⟩ hb_ hon hoff
     refine ⟨_, rfl, fun K hK => ?_⟩
     have e30 : a.tmps[30]? = some (.int .u8 ((a0_3) % 256)) := by rw [ha]; exact putSel_on (e := (4, 30, .int .u8 ((a0_3) % 256))) 2 rfl rfl (hon 4 (by kernel_rfl)) rfl
     have e33 : a.tmps[33]? = some (.int .u8 ((a0_2) % 256)) := by rw [ha]; exact putSel_on (e := (7, 33, .int .u8 ((a0_2) % 256))) 4 rfl rfl (hon 7 (by kernel_rfl)) rfl
     replace ha := Aside0.mk ha
     have HO692 := Aside0.mk (Q_HO692 (hoff 15 (by kernel_rfl)))
     have HO_3 := Aside0.mk (Q_HO_3 (hoff 15 (by kernel_rfl)))
     have HO_674006 := Aside0.mk (Q_HO_674006 (hoff 15 (by kernel_rfl)))
     have BK673 := Aside0.mk Q_BK673
     have HB := Aside0.mk Q_HB
     refine Kd.R_lit_step (Kd.int .u8) _ 5 ?hg (N := 34) ?hd (xs := ([0, 0, 64, 0, (a0_3) % 256, (a0_2) % 256, 0, 0] : List Int)) (inner := [.int .u8 0, .int .u8 0, .int .u8 64, .int .u8 0, .int .u8 ((a0_3) % 256), .int .u8 ((a0_2) % 256), .int .u8 0, .int .u8 0]) (ok := fun _ => True) (okp := fun _ => True) ?hr ?hp (fun _ hk => hk) trivial (Below.refl _ _) (Nat.le_refl _) (by simp) ?_; (case hd => rfl); (case hg => rfl); (case hr => first | (go_simp; done) | (go_simp; rfl)); (case hp => exact (Reps.one (show Kd.M (Kd.int .u8) _ _ _ 0 [.int .u8 0] from rfl) (Reps.one (show Kd.M (Kd.int .u8) _ _ _ 0 [.int .u8 0] from rfl) (Reps.one (show Kd.M (Kd.int .u8) _ _ _ 64 [.int .u8 64] from rfl) (Reps.one (show Kd.M (Kd.int .u8) _ _ _ 0 [.int .u8 0] from rfl) (Reps.one (show Kd.M (Kd.int .u8) _ _ _ ((a0_3) % 256) [.int .u8 ((a0_3) % 256)] from rfl) (Reps.one (show Kd.M (Kd.int .u8) _ _ _ ((a0_2) % 256) [.int .u8 ((a0_2) % 256)] from rfl) (Reps.one (show Kd.M (Kd.int .u8) _ _ _ 0 [.int .u8 0] from rfl) (Reps.one (show Kd.M (Kd.int .u8) _ _ _ 0 [.int .u8 0] from rfl) (Reps.none _ _))))))))))
     intro v697 w30 ho31 hb hg_ hnew_
     clear hg_ hnew_
     (first | rw [← Ny696.out] at ho31 | (simp only [Int.reduceToNat] at ho31; rw [← Ny696.out] at ho31))
     have n0_ := Aside0.mk (Kd.R_elder' (by (with_reducible repeat (first | apply Kd.R_alloc | apply Kd.R_drewN | apply Kd.R_drew)); exact HO_3.out) (Kd.R_base ho31) hb)
     have n1_ := Aside0.mk (Kd.V_elder' (by (with_reducible repeat (first | apply Kd.V_alloc | apply Kd.V_drewN | apply Kd.V_drew)); exact HO_674006.out) (Kd.R_base ho31) hb)
     have n2_ := Aside0.mk (Kd.R_elder' (by (with_reducible repeat (first | apply Kd.R_alloc | apply Kd.R_drewN | apply Kd.R_drew)); exact HO692.out) (Kd.R_base ho31) hb)
     have n3_ := Aside0.mk (Kd.R_lower (Kd.R_new' (Kd.R_new' (Kd.R_newM (M := fun k_ => (w.heap.size ≤ k_)) ho31 (below_size (by repeat (first | (with_reducible first | exact HB.out | apply below_alloc | apply pw_below_drewN | apply below_drew1 | refine below_set ?_ GE673.out) | exact HB.out))) (fun k_ h_ => h_)) (Kd.R_lt (by (with_reducible repeat (first | apply Kd.R_alloc | apply Kd.R_drewN | apply Kd.R_drew)); exact HO_3.out))) (Kd.R_lt (by (with_reducible repeat (first | apply Kd.R_alloc | apply Kd.R_drewN | apply Kd.R_drew)); exact HO692.out))) (below_size (by repeat (first | (with_reducible first | exact HB.out | apply below_alloc | apply pw_below_drewN | apply below_drew1 | refine below_set ?_ GE673.out) | exact HB.out))))
     have n4_ := Aside0.mk (blk_below (g := gb673) (o := .cells #[.int .i64 a0_0, .int .i64 a0_1, .int .i64 a0_2, .int .i64 a0_3, .int .i64 a0_4, .int .i64 a0_5, .slice A0_6 l0_6.length c0_6] 34 (0, 0)) (by (with_reducible repeat (first | refine blk_drewN ?_ _ | refine blk_drew ?_ | refine blk_alloc ?_ _)); exact BK673.out) hb)
     have n5_ := Aside0.mk (below_step (by repeat (first | (with_reducible first | exact HB.out | apply below_alloc | apply pw_below_drewN | apply below_drew1 | refine below_set ?_ GE673.out) | exact HB.out)) hb)
     have z_HO695 := fun (h0_ : b 0 = true) (h1_ : b 15 = false) => (show Kd.R (Kd.int .u8) 5 w30 w.heap.size (fun k_ => (w.heap.size ≤ k_) ∧ some k_ ≠ (v691 : Value).ownBlock ∧ some k_ ≠ (.slice Ao26 x3_2.length co26 : Value).ownBlock) v694 y693 from by first | exact (Kd.R_elder' (by (with_reducible repeat (first | apply Kd.R_alloc | apply Kd.R_drewN | apply Kd.R_drew)); exact (Q_HO695 h0_ h1_)) (Kd.R_base ho31) hb) | exact Kd.R_mono (Kd.R_elder' (by (with_reducible repeat (first | apply Kd.R_alloc | apply Kd.R_drewN | apply Kd.R_drew)); exact (Q_HO695 h0_ h1_)) (Kd.R_base ho31) hb) (fun _ h_ => by first | trivial | exact h_ | exact h_.1))
     have z_HO701 := fun (h0_ : b 11 = true) (h1_ : b 15 = false) => (show Kd.R (Kd.int .u8) 5 w30 w.heap.size (fun k_ => (w.heap.size ≤ k_) ∧ some k_ ≠ (v691 : Value).ownBlock ∧ some k_ ≠ (.slice Ao26 x3_2.length co26 : Value).ownBlock) v700 t699 from by first | exact (Kd.R_elder' (by (with_reducible repeat (first | apply Kd.R_alloc | apply Kd.R_drewN | apply Kd.R_drew)); exact (Q_HO701 h0_ h1_)) (Kd.R_base ho31) hb) | exact Kd.R_mono (Kd.R_elder' (by (with_reducible repeat (first | apply Kd.R_alloc | apply Kd.R_drewN | apply Kd.R_drew)); exact (Q_HO701 h0_ h1_)) (Kd.R_base ho31) hb) (fun _ h_ => by first | trivial | exact h_ | exact h_.1))
     have z_HO704 := fun (h0_ : b 14 = true) (h1_ : b 15 = false) => (show Kd.R (Kd.int .u8) 5 w30 w.heap.size (fun k_ => (w.heap.size ≤ k_) ∧ some k_ ≠ (v691 : Value).ownBlock ∧ some k_ ≠ (.slice Ao26 x3_2.length co26 : Value).ownBlock) v703 t702 from by first | exact (Kd.R_elder' (by (with_reducible repeat (first | apply Kd.R_alloc | apply Kd.R_drewN | apply Kd.R_drew)); exact (Q_HO704 h0_ h1_)) (Kd.R_base ho31) hb) | exact Kd.R_mono (Kd.R_elder' (by (with_reducible repeat (first | apply Kd.R_alloc | apply Kd.R_drewN | apply Kd.R_drew)); exact (Q_HO704 h0_ h1_)) (Kd.R_base ho31) hb) (fun _ h_ => by first | trivial | exact h_ | exact h_.1))
     clear HO_3
     clear HO_674006
     clear HO692
     clear BK673
     clear HB
     have HO_3 := n0_
     have HO_674006 := n1_
     have HO692 := n2_
     have HO698 := n3_
     have BK673 := n4_
     have HB := n5_
     clear n0_ n1_ n2_ n3_ n4_ n5_
     clear hb ho31
     refine hK.out _ _ ⟨v694, v697, v700, v703, v706, v709, m17_, (by rw [ha.out]; exact putSel_upk 5 hb_ rfl rfl rfl), fun _ => (by (with_reducible repeat (first | apply Kd.R_alloc | apply Kd.R_drewN | apply Kd.R_drew)); exact Kd.R_mono HO692.out (fun _ hk => by simp_all)), fun _ => (by (with_reducible repeat (first | apply Kd.R_alloc | apply Kd.R_drewN | apply Kd.R_drew)); exact Kd.R_mono HO_3.out (fun _ hk => by simp_all)), fun _ => (by (with_reducible repeat (first | apply Kd.V_alloc | apply Kd.V_drewN | apply Kd.V_drew)); exact Kd.V_mono HO_674006.out (fun _ hk => by simp_all)), (by (with_reducible repeat (first | refine blk_drewN ?_ _ | refine blk_drew ?_ | refine blk_alloc ?_ _)); exact BK673.out), (by repeat (first | (with_reducible first | exact HB.out | apply below_alloc | apply pw_below_drewN | apply below_drew1 | refine below_set ?_ GE673.out) | exact HB.out)), z_HO695, fun _ _ => (by (with_reducible repeat (first | apply Kd.R_alloc | apply Kd.R_drewN | apply Kd.R_drew)); exact Kd.R_mono HO698.out (fun _ hk => by simp_all)), z_HO701, z_HO704, fun h0_ => absurd ((hoff 15 (by kernel_rfl)).symm.trans h0_) (by decide), fun h0_ => absurd ((hoff 15 (by kernel_rfl)).symm.trans h0_) (by decide), fun h0_ => absurd ((hoff 15 (by kernel_rfl)).symm.trans h0_) (by decide), fun h0_ => absurd ((hoff 16 (by kernel_rfl)).symm.trans h0_) (by decide), fun h0_ => absurd ((hoff 17 (by kernel_rfl)).symm.trans h0_) (by decide)⟩
    refine steps_cons ?_ ?_
    ·rintro b a w' ⟨v694, v697, v700, v703, v706, v709, m17_, ha, Q_HO692, Q_HO_3, Q_HO_674006, Q_BK673, Q_HB, Q_HO695, Q_HO698, Q_HO701, Q_HO704, Q_HO707, Q_HO_3_e15, Q_HO_674006_e15, Q_HO710, Q_X17_⟩ hb_ hon hoff
     refine ⟨_, rfl, fun K hK => ?_⟩
     have e35 : a.tmps[35]? = some (.pointer (some ⟨gb673, 0, none⟩)) := by rw [ha]; exact (putSel_off rfl).trans rfl
     replace ha := Aside0.mk ha
     have HO692 := Aside0.mk (Q_HO692 (hoff 15 (by kernel_rfl)))
     have HO_3 := Aside0.mk (Q_HO_3 (hoff 15 (by kernel_rfl)))
     have HO_674006 := Aside0.mk (Q_HO_674006 (hoff 15 (by kernel_rfl)))
     have BK673 := Aside0.mk Q_BK673
     have HB := Aside0.mk Q_HB
     have hc0_ : w'.cell? ⟨gb673, 0, none⟩ = some (.int .i64 a0_0) := (blk_cell BK673.out 0).trans rfl
     have hc1_ : w'.cell? ⟨gb673, 1, none⟩ = some (.int .i64 a0_1) := (blk_cell BK673.out 1).trans rfl
     have hc2_ : w'.cell? ⟨gb673, 2, none⟩ = some (.int .i64 a0_2) := (blk_cell BK673.out 2).trans rfl
     have hc3_ : w'.cell? ⟨gb673, 3, none⟩ = some (.int .i64 a0_3) := (blk_cell BK673.out 3).trans rfl
     have hc4_ : w'.cell? ⟨gb673, 4, none⟩ = some (.int .i64 a0_4) := (blk_cell BK673.out 4).trans rfl
     have hc5_ : w'.cell? ⟨gb673, 5, none⟩ = some (.int .i64 a0_5) := (blk_cell BK673.out 5).trans rfl
     have hc6_ : w'.cell? ⟨gb673, 6, none⟩ = some (.slice A0_6 l0_6.length c0_6) := (blk_cell BK673.out 6).trans rfl
     refine value_ (w1 := w') (v := .int .i64 a0_0) (by rfl) rfl ?_ ?_
     ·go_simp
      (try simp only [i64_w])
      try rfl
     refine hK.out _ _ ⟨v694, v697, v700, v703, v706, v709, m17_, (by rw [ha.out]; exact putSel_upk 6 hb_ rfl rfl rfl), Q_HO692, Q_HO_3, Q_HO_674006, Q_BK673, Q_HB, Q_HO695, Q_HO698, fun h0_ _ => absurd ((hoff 11 (by kernel_rfl)).symm.trans h0_) (by decide), fun h0_ _ => absurd ((hoff 14 (by kernel_rfl)).symm.trans h0_) (by decide), fun h0_ => absurd ((hoff 15 (by kernel_rfl)).symm.trans h0_) (by decide), fun h0_ => absurd ((hoff 15 (by kernel_rfl)).symm.trans h0_) (by decide), fun h0_ => absurd ((hoff 15 (by kernel_rfl)).symm.trans h0_) (by decide), fun h0_ => absurd ((hoff 16 (by kernel_rfl)).symm.trans h0_) (by decide), fun h0_ => absurd ((hoff 17 (by kernel_rfl)).symm.trans h0_) (by decide)⟩
    refine steps_cons ?_ ?_
    ·rintro b a w' ⟨v694, v697, v700, v703, v706, v709, m17_, ha, Q_HO692, Q_HO_3, Q_HO_674006, Q_BK673, Q_HB, Q_HO695, Q_HO698, Q_HO701, Q_HO704, Q_HO707, Q_HO_3_e15, Q_HO_674006_e15, Q_HO710, Q_X17_⟩ hb_ hon hoff
     refine ⟨_, rfl, fun K hK => ?_⟩
     have e36 : a.tmps[36]? = some (.int .i64 a0_0) := by rw [ha]; exact putSel_on (e := (10, 36, .int .i64 a0_0)) 6 rfl rfl (hon 10 (by kernel_rfl)) rfl
     replace ha := Aside0.mk ha
     have HO692 := Aside0.mk (Q_HO692 (hoff 15 (by kernel_rfl)))
     have HO_3 := Aside0.mk (Q_HO_3 (hoff 15 (by kernel_rfl)))
     have HO_674006 := Aside0.mk (Q_HO_674006 (hoff 15 (by kernel_rfl)))
     have BK673 := Aside0.mk Q_BK673
     have HB := Aside0.mk Q_HB
     refine goes_ Try.func50 (by kernel_rfl) rfl #[.int .i64 a0_0, .int .i64 4] (by rfl) rfl rfl (by first | (simp only [List.map_toArray, List.map_cons, List.map_nil, Act.eval, Array.getD_eq_getD_getElem?, Option.getD_some, e36]; done) | (simp only [List.map_toArray, List.map_cons, List.map_nil, Act.eval, Array.getD_eq_getD_getElem?, Option.getD_some, e36]; rfl)) ?_
     with_reducible refine (impl_put.calls kj2 a0_0 4 t699 _ A22.out).mono ?_
     rintro e w30 ⟨v700, rfl, ho0, hb⟩
     refine ⟨_, rfl, ?_⟩
     have n0_ := Aside0.mk (Kd.R_elder' (by (with_reducible repeat (first | apply Kd.R_alloc | apply Kd.R_drewN | apply Kd.R_drew)); exact HO_3.out) (Kd.R_base ho0) hb)
     have n1_ := Aside0.mk (Kd.V_elder' (by (with_reducible repeat (first | apply Kd.V_alloc | apply Kd.V_drewN | apply Kd.V_drew)); exact HO_674006.out) (Kd.R_base ho0) hb)
     have n2_ := Aside0.mk (Kd.R_elder' (by (with_reducible repeat (first | apply Kd.R_alloc | apply Kd.R_drewN | apply Kd.R_drew)); exact HO692.out) (Kd.R_base ho0) hb)
     have n3_ := Aside0.mk (Kd.R_lower (Kd.R_new' (Kd.R_new' (Kd.R_newM (M := fun k_ => (w.heap.size ≤ k_)) ho0 (below_size (by repeat (first | (with_reducible first | exact HB.out | apply below_alloc | apply pw_below_drewN | apply below_drew1 | refine below_set ?_ GE673.out) | exact HB.out))) (fun k_ h_ => h_)) (Kd.R_lt (by (with_reducible repeat (first | apply Kd.R_alloc | apply Kd.R_drewN | apply Kd.R_drew)); exact HO_3.out))) (Kd.R_lt (by (with_reducible repeat (first | apply Kd.R_alloc | apply Kd.R_drewN | apply Kd.R_drew)); exact HO692.out))) (below_size (by repeat (first | (with_reducible first | exact HB.out | apply below_alloc | apply pw_below_drewN | apply below_drew1 | refine below_set ?_ GE673.out) | exact HB.out))))
     have n4_ := Aside0.mk (blk_below (g := gb673) (o := .cells #[.int .i64 a0_0, .int .i64 a0_1, .int .i64 a0_2, .int .i64 a0_3, .int .i64 a0_4, .int .i64 a0_5, .slice A0_6 l0_6.length c0_6] 34 (0, 0)) (by (with_reducible repeat (first | refine blk_drewN ?_ _ | refine blk_drew ?_ | refine blk_alloc ?_ _)); exact BK673.out) hb)
     have n5_ := Aside0.mk (below_step (by repeat (first | (with_reducible first | exact HB.out | apply below_alloc | apply pw_below_drewN | apply below_drew1 | refine below_set ?_ GE673.out) | exact HB.out)) hb)
     have z_HO695 := fun (h0_ : b 0 = true) (h1_ : b 15 = false) => (show Kd.R (Kd.int .u8) 5 w30 w.heap.size (fun k_ => (w.heap.size ≤ k_) ∧ some k_ ≠ (v691 : Value).ownBlock ∧ some k_ ≠ (.slice Ao26 x3_2.length co26 : Value).ownBlock) v694 y693 from by first | exact (Kd.R_elder' (by (with_reducible repeat (first | apply Kd.R_alloc | apply Kd.R_drewN | apply Kd.R_drew)); exact (Q_HO695 h0_ h1_)) (Kd.R_base ho0) hb) | exact Kd.R_mono (Kd.R_elder' (by (with_reducible repeat (first | apply Kd.R_alloc | apply Kd.R_drewN | apply Kd.R_drew)); exact (Q_HO695 h0_ h1_)) (Kd.R_base ho0) hb) (fun _ h_ => by first | trivial | exact h_ | exact h_.1))
     have z_HO698 := fun (h0_ : b 8 = true) (h1_ : b 15 = false) => (show Kd.R (Kd.int .u8) 5 w30 w.heap.size (fun k_ => (w.heap.size ≤ k_) ∧ some k_ ≠ (v691 : Value).ownBlock ∧ some k_ ≠ (.slice Ao26 x3_2.length co26 : Value).ownBlock) v697 y696 from by first | exact (Kd.R_elder' (by (with_reducible repeat (first | apply Kd.R_alloc | apply Kd.R_drewN | apply Kd.R_drew)); exact (Q_HO698 h0_ h1_)) (Kd.R_base ho0) hb) | exact Kd.R_mono (Kd.R_elder' (by (with_reducible repeat (first | apply Kd.R_alloc | apply Kd.R_drewN | apply Kd.R_drew)); exact (Q_HO698 h0_ h1_)) (Kd.R_base ho0) hb) (fun _ h_ => by first | trivial | exact h_ | exact h_.1))
     clear HO_3
     clear HO_674006
     clear HO692
     clear BK673
     clear HB
     have HO_3 := n0_
     have HO_674006 := n1_
     have HO692 := n2_
     have HO701 := n3_
     have BK673 := n4_
     have HB := n5_
     clear n0_ n1_ n2_ n3_ n4_ n5_
     (try clear hb)
     (try clear hb2)
     (try clear hk)
     (try clear hi)
     (try clear ho0)
     refine hK.out _ _ ⟨v694, v697, v700, v703, v706, v709, m17_, (by rw [ha.out]; exact putSel_upk 7 hb_ rfl rfl rfl), fun _ => (by (with_reducible repeat (first | apply Kd.R_alloc | apply Kd.R_drewN | apply Kd.R_drew)); exact Kd.R_mono HO692.out (fun _ hk => by simp_all)), fun _ => (by (with_reducible repeat (first | apply Kd.R_alloc | apply Kd.R_drewN | apply Kd.R_drew)); exact Kd.R_mono HO_3.out (fun _ hk => by simp_all)), fun _ => (by (with_reducible repeat (first | apply Kd.V_alloc | apply Kd.V_drewN | apply Kd.V_drew)); exact Kd.V_mono HO_674006.out (fun _ hk => by simp_all)), (by (with_reducible repeat (first | refine blk_drewN ?_ _ | refine blk_drew ?_ | refine blk_alloc ?_ _)); exact BK673.out), (by repeat (first | (with_reducible first | exact HB.out | apply below_alloc | apply pw_below_drewN | apply below_drew1 | refine below_set ?_ GE673.out) | exact HB.out)), z_HO695, z_HO698, fun _ _ => (by (with_reducible repeat (first | apply Kd.R_alloc | apply Kd.R_drewN | apply Kd.R_drew)); exact Kd.R_mono HO701.out (fun _ hk => by simp_all)), fun h0_ _ => absurd ((hoff 14 (by kernel_rfl)).symm.trans h0_) (by decide), fun h0_ => absurd ((hoff 15 (by kernel_rfl)).symm.trans h0_) (by decide), fun h0_ => absurd ((hoff 15 (by kernel_rfl)).symm.trans h0_) (by decide), fun h0_ => absurd ((hoff 15 (by kernel_rfl)).symm.trans h0_) (by decide), fun h0_ => absurd ((hoff 16 (by kernel_rfl)).symm.trans h0_) (by decide), fun h0_ => absurd ((hoff 17 (by kernel_rfl)).symm.trans h0_) (by decide)⟩
    refine steps_cons ?_ ?_
    ·rintro b a w' ⟨v694, v697, v700, v703, v706, v709, m17_, ha, Q_HO692, Q_HO_3, Q_HO_674006, Q_BK673, Q_HB, Q_HO695, Q_HO698, Q_HO701, Q_HO704, Q_HO707, Q_HO_3_e15, Q_HO_674006_e15, Q_HO710, Q_X17_⟩ hb_ hon hoff
     refine ⟨_, rfl, fun K hK => ?_⟩
     have e38 : a.tmps[38]? = some (.pointer (some ⟨gb673, 1, none⟩)) := by rw [ha]; exact (putSel_off rfl).trans rfl
     replace ha := Aside0.mk ha
     have HO692 := Aside0.mk (Q_HO692 (hoff 15 (by kernel_rfl)))
     have HO_3 := Aside0.mk (Q_HO_3 (hoff 15 (by kernel_rfl)))
     have HO_674006 := Aside0.mk (Q_HO_674006 (hoff 15 (by kernel_rfl)))
     have BK673 := Aside0.mk Q_BK673
     have HB := Aside0.mk Q_HB
     have hc0_ : w'.cell? ⟨gb673, 0, none⟩ = some (.int .i64 a0_0) := (blk_cell BK673.out 0).trans rfl
     have hc1_ : w'.cell? ⟨gb673, 1, none⟩ = some (.int .i64 a0_1) := (blk_cell BK673.out 1).trans rfl
     have hc2_ : w'.cell? ⟨gb673, 2, none⟩ = some (.int .i64 a0_2) := (blk_cell BK673.out 2).trans rfl
     have hc3_ : w'.cell? ⟨gb673, 3, none⟩ = some (.int .i64 a0_3) := (blk_cell BK673.out 3).trans rfl
     have hc4_ : w'.cell? ⟨gb673, 4, none⟩ = some (.int .i64 a0_4) := (blk_cell BK673.out 4).trans rfl
     have hc5_ : w'.cell? ⟨gb673, 5, none⟩ = some (.int .i64 a0_5) := (blk_cell BK673.out 5).trans rfl
     have hc6_ : w'.cell? ⟨gb673, 6, none⟩ = some (.slice A0_6 l0_6.length c0_6) := (blk_cell BK673.out 6).trans rfl
     refine value_ (w1 := w') (v := .int .i64 a0_1) (by rfl) rfl ?_ ?_
     ·go_simp
      (try simp only [i64_w])
      try rfl
     refine hK.out _ _ ⟨v694, v697, v700, v703, v706, v709, m17_, (by rw [ha.out]; exact putSel_upk 8 hb_ rfl rfl rfl), Q_HO692, Q_HO_3, Q_HO_674006, Q_BK673, Q_HB, Q_HO695, Q_HO698, Q_HO701, fun h0_ _ => absurd ((hoff 14 (by kernel_rfl)).symm.trans h0_) (by decide), fun h0_ => absurd ((hoff 15 (by kernel_rfl)).symm.trans h0_) (by decide), fun h0_ => absurd ((hoff 15 (by kernel_rfl)).symm.trans h0_) (by decide), fun h0_ => absurd ((hoff 15 (by kernel_rfl)).symm.trans h0_) (by decide), fun h0_ => absurd ((hoff 16 (by kernel_rfl)).symm.trans h0_) (by decide), fun h0_ => absurd ((hoff 17 (by kernel_rfl)).symm.trans h0_) (by decide)⟩
    refine steps_cons ?_ ?_
    ·rintro b a w' ⟨v694, v697, v700, v703, v706, v709, m17_, ha, Q_HO692, Q_HO_3, Q_HO_674006, Q_BK673, Q_HB, Q_HO695, Q_HO698, Q_HO701, Q_HO704, Q_HO707, Q_HO_3_e15, Q_HO_674006_e15, Q_HO710, Q_X17_⟩ hb_ hon hoff
     refine ⟨_, rfl, fun K hK => ?_⟩
     have e39 : a.tmps[39]? = some (.int .i64 a0_1) := by rw [ha]; exact putSel_on (e := (13, 39, .int .i64 a0_1)) 8 rfl rfl (hon 13 (by kernel_rfl)) rfl
     replace ha := Aside0.mk ha
     have HO692 := Aside0.mk (Q_HO692 (hoff 15 (by kernel_rfl)))
     have HO_3 := Aside0.mk (Q_HO_3 (hoff 15 (by kernel_rfl)))
     have HO_674006 := Aside0.mk (Q_HO_674006 (hoff 15 (by kernel_rfl)))
     have BK673 := Aside0.mk Q_BK673
     have HB := Aside0.mk Q_HB
     have HO701 := Aside0.mk (Q_HO701 (hon 11 (by kernel_rfl)) (hoff 15 (by kernel_rfl)))
     refine goes_ Try.func50 (by kernel_rfl) rfl #[.int .i64 a0_1, .int .i64 4] (by rfl) rfl rfl (by first | (simp only [List.map_toArray, List.map_cons, List.map_nil, Act.eval, Array.getD_eq_getD_getElem?, Option.getD_some, e39]; done) | (simp only [List.map_toArray, List.map_cons, List.map_nil, Act.eval, Array.getD_eq_getD_getElem?, Option.getD_some, e39]; rfl)) ?_
     with_reducible refine (impl_put.calls kj2 a0_1 4 t702 _ A23.out).mono ?_
     rintro e w32 ⟨v703, rfl, ho0, hb⟩
     refine ⟨_, rfl, ?_⟩
     have n0_ := Aside0.mk (Kd.R_elder' (by (with_reducible repeat (first | apply Kd.R_alloc | apply Kd.R_drewN | apply Kd.R_drew)); exact HO_3.out) (Kd.R_base ho0) hb)
     have n1_ := Aside0.mk (Kd.V_elder' (by (with_reducible repeat (first | apply Kd.V_alloc | apply Kd.V_drewN | apply Kd.V_drew)); exact HO_674006.out) (Kd.R_base ho0) hb)
     have n2_ := Aside0.mk (Kd.R_elder' (by (with_reducible repeat (first | apply Kd.R_alloc | apply Kd.R_drewN | apply Kd.R_drew)); exact HO692.out) (Kd.R_base ho0) hb)
     have n3_ := Aside0.mk (Kd.R_elder' (by (with_reducible repeat (first | apply Kd.R_alloc | apply Kd.R_drewN | apply Kd.R_drew)); exact HO701.out) (Kd.R_base ho0) hb)
     have n4_ := Aside0.mk (Kd.R_lower (Kd.R_new' (Kd.R_new' (Kd.R_new' (Kd.R_newM (M := fun k_ => (w.heap.size ≤ k_)) ho0 (below_size (by repeat (first | (with_reducible first | exact HB.out | apply below_alloc | apply pw_below_drewN | apply below_drew1 | refine below_set ?_ GE673.out) | exact HB.out))) (fun k_ h_ => h_)) (Kd.R_lt (by (with_reducible repeat (first | apply Kd.R_alloc | apply Kd.R_drewN | apply Kd.R_drew)); exact HO_3.out))) (Kd.R_lt (by (with_reducible repeat (first | apply Kd.R_alloc | apply Kd.R_drewN | apply Kd.R_drew)); exact HO692.out))) (Kd.R_lt (by (with_reducible repeat (first | apply Kd.R_alloc | apply Kd.R_drewN | apply Kd.R_drew)); exact HO701.out))) (below_size (by repeat (first | (with_reducible first | exact HB.out | apply below_alloc | apply pw_below_drewN | apply below_drew1 | refine below_set ?_ GE673.out) | exact HB.out))))
     have n5_ := Aside0.mk (blk_below (g := gb673) (o := .cells #[.int .i64 a0_0, .int .i64 a0_1, .int .i64 a0_2, .int .i64 a0_3, .int .i64 a0_4, .int .i64 a0_5, .slice A0_6 l0_6.length c0_6] 34 (0, 0)) (by (with_reducible repeat (first | refine blk_drewN ?_ _ | refine blk_drew ?_ | refine blk_alloc ?_ _)); exact BK673.out) hb)
     have n6_ := Aside0.mk (below_step (by repeat (first | (with_reducible first | exact HB.out | apply below_alloc | apply pw_below_drewN | apply below_drew1 | refine below_set ?_ GE673.out) | exact HB.out)) hb)
     have z_HO695 := fun (h0_ : b 0 = true) (h1_ : b 15 = false) => (show Kd.R (Kd.int .u8) 5 w32 w.heap.size (fun k_ => (w.heap.size ≤ k_) ∧ some k_ ≠ (v691 : Value).ownBlock ∧ some k_ ≠ (.slice Ao26 x3_2.length co26 : Value).ownBlock) v694 y693 from by first | exact (Kd.R_elder' (by (with_reducible repeat (first | apply Kd.R_alloc | apply Kd.R_drewN | apply Kd.R_drew)); exact (Q_HO695 h0_ h1_)) (Kd.R_base ho0) hb) | exact Kd.R_mono (Kd.R_elder' (by (with_reducible repeat (first | apply Kd.R_alloc | apply Kd.R_drewN | apply Kd.R_drew)); exact (Q_HO695 h0_ h1_)) (Kd.R_base ho0) hb) (fun _ h_ => by first | trivial | exact h_ | exact h_.1))
     have z_HO698 := fun (h0_ : b 8 = true) (h1_ : b 15 = false) => (show Kd.R (Kd.int .u8) 5 w32 w.heap.size (fun k_ => (w.heap.size ≤ k_) ∧ some k_ ≠ (v691 : Value).ownBlock ∧ some k_ ≠ (.slice Ao26 x3_2.length co26 : Value).ownBlock) v697 y696 from by first | exact (Kd.R_elder' (by (with_reducible repeat (first | apply Kd.R_alloc | apply Kd.R_drewN | apply Kd.R_drew)); exact (Q_HO698 h0_ h1_)) (Kd.R_base ho0) hb) | exact Kd.R_mono (Kd.R_elder' (by (with_reducible repeat (first | apply Kd.R_alloc | apply Kd.R_drewN | apply Kd.R_drew)); exact (Q_HO698 h0_ h1_)) (Kd.R_base ho0) hb) (fun _ h_ => by first | trivial | exact h_ | exact h_.1))
     clear HO_3
     clear HO_674006
     clear HO692
     clear HO701
     clear BK673
     clear HB
     have HO_3 := n0_
     have HO_674006 := n1_
     have HO692 := n2_
     have HO701 := n3_
     have HO704 := n4_
     have BK673 := n5_
     have HB := n6_
     clear n0_ n1_ n2_ n3_ n4_ n5_ n6_
     (try clear hb)
     (try clear hb2)
     (try clear hk)
     (try clear hi)
     (try clear ho0)
     refine hK.out _ _ ⟨v694, v697, v700, v703, v706, v709, m17_, (by rw [ha.out]; exact putSel_upk 9 hb_ rfl rfl rfl), fun _ => (by (with_reducible repeat (first | apply Kd.R_alloc | apply Kd.R_drewN | apply Kd.R_drew)); exact Kd.R_mono HO692.out (fun _ hk => by simp_all)), fun _ => (by (with_reducible repeat (first | apply Kd.R_alloc | apply Kd.R_drewN | apply Kd.R_drew)); exact Kd.R_mono HO_3.out (fun _ hk => by simp_all)), fun _ => (by (with_reducible repeat (first | apply Kd.V_alloc | apply Kd.V_drewN | apply Kd.V_drew)); exact Kd.V_mono HO_674006.out (fun _ hk => by simp_all)), (by (with_reducible repeat (first | refine blk_drewN ?_ _ | refine blk_drew ?_ | refine blk_alloc ?_ _)); exact BK673.out), (by repeat (first | (with_reducible first | exact HB.out | apply below_alloc | apply pw_below_drewN | apply below_drew1 | refine below_set ?_ GE673.out) | exact HB.out)), z_HO695, z_HO698, fun _ _ => (by (with_reducible repeat (first | apply Kd.R_alloc | apply Kd.R_drewN | apply Kd.R_drew)); exact Kd.R_mono HO701.out (fun _ hk => by simp_all)), fun _ _ => (by (with_reducible repeat (first | apply Kd.R_alloc | apply Kd.R_drewN | apply Kd.R_drew)); exact Kd.R_mono HO704.out (fun _ hk => by simp_all)), fun h0_ => absurd ((hoff 15 (by kernel_rfl)).symm.trans h0_) (by decide), fun h0_ => absurd ((hoff 15 (by kernel_rfl)).symm.trans h0_) (by decide), fun h0_ => absurd ((hoff 15 (by kernel_rfl)).symm.trans h0_) (by decide), fun h0_ => absurd ((hoff 16 (by kernel_rfl)).symm.trans h0_) (by decide), fun h0_ => absurd ((hoff 17 (by kernel_rfl)).symm.trans h0_) (by decide)⟩
    refine steps_cons ?_ ?_
    ·rintro b a w' ⟨v694, v697, v700, v703, v706, v709, m17_, ha, Q_HO692, Q_HO_3, Q_HO_674006, Q_BK673, Q_HB, Q_HO695, Q_HO698, Q_HO701, Q_HO704, Q_HO707, Q_HO_3_e15, Q_HO_674006_e15, Q_HO710, Q_X17_⟩ hb_ hon hoff
     refine ⟨_, rfl, fun K hK => ?_⟩
     have e26 : a.tmps[26]? = some (v694) := by rw [ha]; exact putSel_on (e := (0, 26, v694)) 0 rfl rfl (hon 0 (by kernel_rfl)) rfl
     have e27 : a.tmps[27]? = some (v691) := by rw [ha]; exact (putSel_off rfl).trans rfl
     have e34 : a.tmps[34]? = some (v697) := by rw [ha]; exact putSel_on (e := (8, 34, v697)) 5 rfl rfl (hon 8 (by kernel_rfl)) rfl
     have e37 : a.tmps[37]? = some (v700) := by rw [ha]; exact putSel_on (e := (11, 37, v700)) 7 rfl rfl (hon 11 (by kernel_rfl)) rfl
     have e40 : a.tmps[40]? = some (v703) := by rw [ha]; exact putSel_on (e := (14, 40, v703)) 9 rfl rfl (hon 14 (by kernel_rfl)) rfl
     replace ha := Aside0.mk ha
     have HO692 := Aside0.mk (Q_HO692 hb_)
     have HO_3 := Aside0.mk (Q_HO_3 hb_)
     have HO_674006 := Aside0.mk (Q_HO_674006 hb_)
     have BK673 := Aside0.mk Q_BK673
     have HB := Aside0.mk Q_HB
     have HO695 := Aside0.mk (Q_HO695 (hon 0 (by kernel_rfl)) hb_)
     have HO698 := Aside0.mk (Q_HO698 (hon 8 (by kernel_rfl)) hb_)
     have HO701 := Aside0.mk (Q_HO701 (hon 11 (by kernel_rfl)) hb_)
     have HO704 := Aside0.mk (Q_HO704 (hon 14 (by kernel_rfl)) hb_)
     obtain ⟨Ao37, co37, eo37⟩ := Kd.R_slice HO695.out
     (first | subst eo37 | (injection eo37 with f1_ f2_ f3_; have f4_ := f1_.symm; have f5_ := f3_.symm; clear f1_ f2_ f3_; subst f4_; subst f5_))
     obtain ⟨Ao38, co38, eo38⟩ := Kd.R_slice HO692.out
     (first | subst eo38 | (injection eo38 with f1_ f2_ f3_; have f4_ := f1_.symm; have f5_ := f3_.symm; clear f1_ f2_ f3_; subst f4_; subst f5_))
     obtain ⟨Ao39, co39, eo39⟩ := Kd.R_slice HO698.out
     (first | subst eo39 | (injection eo39 with f1_ f2_ f3_; have f4_ := f1_.symm; have f5_ := f3_.symm; clear f1_ f2_ f3_; subst f4_; subst f5_))
     obtain ⟨Ao40, co40, eo40⟩ := Kd.R_slice HO701.out
     (first | subst eo40 | (injection eo40 with f1_ f2_ f3_; have f4_ := f1_.symm; have f5_ := f3_.symm; clear f1_ f2_ f3_; subst f4_; subst f5_))
     obtain ⟨Ao41, co41, eo41⟩ := Kd.R_slice HO704.out
     (first | subst eo41 | (injection eo41 with f1_ f2_ f3_; have f4_ := f1_.symm; have f5_ := f3_.symm; clear f1_ f2_ f3_; subst f4_; subst f5_))
     refine Kd.N_lit_step (Kd.slice 5 (Kd.int .u8)) _ 22 ?hg (N' := 41) ?hd (xs := ([y693, t690, y696, t699, t702] : List (List Int))) (inner := [.slice Ao37 y693.length co37, .slice Ao38 t690.length co38, .slice Ao39 y696.length co39, .slice Ao40 t699.length co40, .slice Ao41 t702.length co41]) (ok := (fun k_ => (P0_6_ k_ ∨ w.heap.size ≤ k_) ∧ some k_ ≠ (.slice Ao26 x3_2.length co26 : Value).ownBlock ∧ k_ ≠ gb673)) (okp := (fun k_ => (P0_6_ k_ ∨ w.heap.size ≤ k_) ∧ some k_ ≠ (.slice Ao26 x3_2.length co26 : Value).ownBlock ∧ k_ ≠ gb673)) ?hr ?hp (fun _ hk => hk) ((show ∀ k_, w'.heap.size ≤ k_ → (fun k_ => (P0_6_ k_ ∨ w.heap.size ≤ k_) ∧ some k_ ≠ (.slice Ao26 x3_2.length co26 : Value).ownBlock ∧ k_ ≠ gb673) k_ from fun k_ hk => ⟨(.inr (Nat.le_trans (below_size (by repeat (first | (with_reducible first | exact HB.out | apply below_alloc | apply pw_below_drewN | apply below_drew1 | refine below_set ?_ GE673.out) | exact HB.out))) hk)), Kd.fresh' (Kd.R_lt (by (with_reducible repeat (first | apply Kd.R_alloc | apply Kd.R_drewN | apply Kd.R_drew)); exact HO_3.out)) k_ hk, Kd.freshB (g := gb673) (o := .cells #[.int .i64 a0_0, .int .i64 a0_1, .int .i64 a0_2, .int .i64 a0_3, .int .i64 a0_4, .int .i64 a0_5, .slice A0_6 l0_6.length c0_6] 34 (0, 0)) (by (with_reducible repeat (first | refine blk_drewN ?_ _ | refine blk_drew ?_ | refine blk_alloc ?_ _)); exact BK673.out) k_ hk⟩) _ (Nat.le_refl _)) (Below.refl _ _) (Nat.le_refl _) (by simp) ?_; (case hd => rfl); (case hg => rfl); (case hr => first | (go_simp; done) | (go_simp; rfl)); (case hp => exact (Reps.one (show Kd.FK (Kd.slice 5 (Kd.int .u8)) _ _ y693 [.slice Ao37 y693.length co37] from (Kd.FK_slice_mk (Kd.R_reads' (Kd.R_mono (ok' := (fun k_ => (P0_6_ k_ ∨ w.heap.size ≤ k_) ∧ some k_ ≠ (.slice Ao26 x3_2.length co26 : Value).ownBlock ∧ k_ ≠ gb673)) (Kd.R_types (HO695.out) BK673.out (by decide)) (fun k_ hk => by simp_all))).2.1 (Kd.R_F (Kd.R_mono (ok' := (fun k_ => (P0_6_ k_ ∨ w.heap.size ≤ k_) ∧ some k_ ≠ (.slice Ao26 x3_2.length co26 : Value).ownBlock ∧ k_ ≠ gb673)) (Kd.R_types (HO695.out) BK673.out (by decide)) (fun k_ hk => by simp_all))))) (Reps.one (show Kd.FK (Kd.slice 5 (Kd.int .u8)) _ _ t690 [.slice Ao38 t690.length co38] from (Kd.FK_slice_mk (Kd.R_reads' (Kd.R_mono (ok' := (fun k_ => (P0_6_ k_ ∨ w.heap.size ≤ k_) ∧ some k_ ≠ (.slice Ao26 x3_2.length co26 : Value).ownBlock ∧ k_ ≠ gb673)) (Kd.R_types (HO692.out) BK673.out (by decide)) (fun k_ hk => by simp_all))).2.1 (Kd.R_F (Kd.R_mono (ok' := (fun k_ => (P0_6_ k_ ∨ w.heap.size ≤ k_) ∧ some k_ ≠ (.slice Ao26 x3_2.length co26 : Value).ownBlock ∧ k_ ≠ gb673)) (Kd.R_types (HO692.out) BK673.out (by decide)) (fun k_ hk => by simp_all))))) (Reps.one (show Kd.FK (Kd.slice 5 (Kd.int .u8)) _ _ y696 [.slice Ao39 y696.length co39] from (Kd.FK_slice_mk (Kd.R_reads' (Kd.R_mono (ok' := (fun k_ => (P0_6_ k_ ∨ w.heap.size ≤ k_) ∧ some k_ ≠ (.slice Ao26 x3_2.length co26 : Value).ownBlock ∧ k_ ≠ gb673)) (Kd.R_types (HO698.out) BK673.out (by decide)) (fun k_ hk => by simp_all))).2.1 (Kd.R_F (Kd.R_mono (ok' := (fun k_ => (P0_6_ k_ ∨ w.heap.size ≤ k_) ∧ some k_ ≠ (.slice Ao26 x3_2.length co26 : Value).ownBlock ∧ k_ ≠ gb673)) (Kd.R_types (HO698.out) BK673.out (by decide)) (fun k_ hk => by simp_all))))) (Reps.one (show Kd.FK (Kd.slice 5 (Kd.int .u8)) _ _ t699 [.slice Ao40 t699.length co40] from (Kd.FK_slice_mk (Kd.R_reads' (Kd.R_mono (ok' := (fun k_ => (P0_6_ k_ ∨ w.heap.size ≤ k_) ∧ some k_ ≠ (.slice Ao26 x3_2.length co26 : Value).ownBlock ∧ k_ ≠ gb673)) (Kd.R_types (HO701.out) BK673.out (by decide)) (fun k_ hk => by simp_all))).2.1 (Kd.R_F (Kd.R_mono (ok' := (fun k_ => (P0_6_ k_ ∨ w.heap.size ≤ k_) ∧ some k_ ≠ (.slice Ao26 x3_2.length co26 : Value).ownBlock ∧ k_ ≠ gb673)) (Kd.R_types (HO701.out) BK673.out (by decide)) (fun k_ hk => by simp_all))))) (Reps.one (show Kd.FK (Kd.slice 5 (Kd.int .u8)) _ _ t702 [.slice Ao41 t702.length co41] from (Kd.FK_slice_mk (Kd.R_reads' (Kd.R_mono (ok' := (fun k_ => (P0_6_ k_ ∨ w.heap.size ≤ k_) ∧ some k_ ≠ (.slice Ao26 x3_2.length co26 : Value).ownBlock ∧ k_ ≠ gb673)) (Kd.R_types (HO704.out) BK673.out (by decide)) (fun k_ hk => by simp_all))).2.1 (Kd.R_F (Kd.R_mono (ok' := (fun k_ => (P0_6_ k_ ∨ w.heap.size ≤ k_) ∧ some k_ ≠ (.slice Ao26 x3_2.length co26 : Value).ownBlock ∧ k_ ≠ gb673)) (Kd.R_types (HO704.out) BK673.out (by decide)) (fun k_ hk => by simp_all))))) (Reps.none _ _)))))))
     intro v706 w42 ho43 hb hg_ hnew_
     clear hg_ hnew_
     (first | rw [← Ny705.out] at ho43 | (simp only [Int.reduceToNat] at ho43; rw [← Ny705.out] at ho43))
     have n0_ := Aside0.mk (Kd.R_below (by (with_reducible repeat (first | apply Kd.R_alloc | apply Kd.R_drewN | apply Kd.R_drew)); exact HO_3.out) hb)
     have n1_ := Aside0.mk (Kd.V_elder' (by (with_reducible repeat (first | apply Kd.V_alloc | apply Kd.V_drewN | apply Kd.V_drew)); exact HO_674006.out) (Kd.N_base ho43) hb)
     have n2_ := Aside0.mk (Kd.N_lower ho43 (below_size (by repeat (first | (with_reducible first | exact HB.out | apply below_alloc | apply pw_below_drewN | apply below_drew1 | refine below_set ?_ GE673.out) | exact HB.out))))
     have n3_ := Aside0.mk (blk_below (g := gb673) (o := .cells #[.int .i64 a0_0, .int .i64 a0_1, .int .i64 a0_2, .int .i64 a0_3, .int .i64 a0_4, .int .i64 a0_5, .slice A0_6 l0_6.length c0_6] 34 (0, 0)) (by (with_reducible repeat (first | refine blk_drewN ?_ _ | refine blk_drew ?_ | refine blk_alloc ?_ _)); exact BK673.out) hb)
     have n4_ := Aside0.mk (below_step (by repeat (first | (with_reducible first | exact HB.out | apply below_alloc | apply pw_below_drewN | apply below_drew1 | refine below_set ?_ GE673.out) | exact HB.out)) hb)
     clear HO_3
     clear HO_674006
     clear BK673
     clear HB
     clear HO692
     clear HO695
     clear HO698
     clear HO701
     clear HO704
     have HO_3 := n0_
     have HO_674006 := n1_
     have HO707 := n2_
     have BK673 := n3_
     have HB := n4_
     clear n0_ n1_ n2_ n3_ n4_
     clear hb ho43
     refine hK.out _ _ ⟨.slice Ao37 y693.length co37, .slice Ao39 y696.length co39, .slice Ao40 t699.length co40, .slice Ao41 t702.length co41, v706, v709, m17_, (by rw [ha.out]; exact putSel_upk 10 hb_ rfl rfl rfl), fun h0_ => absurd ((up_self b 15).symm.trans h0_) (by decide), fun h0_ => absurd ((up_self b 15).symm.trans h0_) (by decide), fun h0_ => absurd ((up_self b 15).symm.trans h0_) (by decide), (by (with_reducible repeat (first | refine blk_drewN ?_ _ | refine blk_drew ?_ | refine blk_alloc ?_ _)); exact BK673.out), (by repeat (first | (with_reducible first | exact HB.out | apply below_alloc | apply pw_below_drewN | apply below_drew1 | refine below_set ?_ GE673.out) | exact HB.out)), fun _ h1_ => absurd ((up_self b 15).symm.trans h1_) (by decide), fun _ h1_ => absurd ((up_self b 15).symm.trans h1_) (by decide), fun _ h1_ => absurd ((up_self b 15).symm.trans h1_) (by decide), fun _ h1_ => absurd ((up_self b 15).symm.trans h1_) (by decide), fun _ => (by (with_reducible repeat (first | apply Kd.N_alloc | apply Kd.N_drewN | apply Kd.N_drew)); exact HO707.out), fun _ => (by (with_reducible repeat (first | apply Kd.R_alloc | apply Kd.R_drewN | apply Kd.R_drew)); exact Kd.R_mono HO_3.out (fun _ hk => hk.1)), fun _ => (by (with_reducible repeat (first | apply Kd.V_alloc | apply Kd.V_drewN | apply Kd.V_drew)); exact Kd.V_mono HO_674006.out (fun _ hk => by simp_all)), fun h0_ => absurd ((hoff 16 (by kernel_rfl)).symm.trans h0_) (by decide), fun h0_ => absurd ((hoff 17 (by kernel_rfl)).symm.trans h0_) (by decide)⟩
    refine steps_cons ?_ ?_
    ·rintro b a w' ⟨v694, v697, v700, v703, v706, v709, m17_, ha, Q_HO692, Q_HO_3, Q_HO_674006, Q_BK673, Q_HB, Q_HO695, Q_HO698, Q_HO701, Q_HO704, Q_HO707, Q_HO_3_e15, Q_HO_674006_e15, Q_HO710, Q_X17_⟩ hb_ hon hoff
     refine ⟨_, rfl, fun K hK => ?_⟩
     have e41 : a.tmps[41]? = some (v706) := by rw [ha]; exact putSel_on (e := (15, 41, v706)) 10 rfl rfl (hon 15 (by kernel_rfl)) rfl
     replace ha := Aside0.mk ha
     have BK673 := Aside0.mk Q_BK673
     have HB := Aside0.mk Q_HB
     have HO707 := Aside0.mk (Q_HO707 (hon 15 (by kernel_rfl)))
     have HO_3 := Aside0.mk (Q_HO_3_e15 (hon 15 (by kernel_rfl)))
     have HO_674006 := Aside0.mk (Q_HO_674006_e15 (hon 15 (by kernel_rfl)))
     obtain ⟨Ao44, co44, eo44⟩ := Kd.N_slice HO707.out
     (first | subst eo44 | (injection eo44 with f1_ f2_ f3_; have f4_ := f1_.symm; have f5_ := f3_.symm; clear f1_ f2_ f3_; subst f4_; subst f5_))
     refine goes_ Try.func49 (by kernel_rfl) rfl #[.slice Ao44 y705.length co44] (by rfl) rfl rfl (by first | (simp only [List.map_toArray, List.map_cons, List.map_nil, Act.eval, Array.getD_eq_getD_getElem?, Option.getD_some, e41]; done) | (simp only [List.map_toArray, List.map_cons, List.map_nil, Act.eval, Array.getD_eq_getD_getElem?, Option.getD_some, e41]; rfl)) ?_
     with_reducible refine (slices_Concat_byte_byte.calls _ _ y705 t708 _ ?side1 ?side2 A24.out).mono ?_
     (case side1 => repeat (first | exact (Kd.N_reads' HO707.out).2.2 | (with_reducible refine Kd.C_alloc ?_ _) | (with_reducible refine Kd.C_drewN ?_ _) | (with_reducible refine Kd.C_drew ?_)))
     (case side2 => exact (Kd.N_reads' HO707.out).2.1)
     rintro e w45 ⟨v709, rfl, ho0, hb⟩
     refine ⟨_, rfl, ?_⟩
     have n0_ := Aside0.mk (Kd.R_elder' (by (with_reducible repeat (first | apply Kd.R_alloc | apply Kd.R_drewN | apply Kd.R_drew)); exact HO_3.out) (Kd.R_base ho0) hb)
     have n1_ := Aside0.mk (Kd.V_elder' (by (with_reducible repeat (first | apply Kd.V_alloc | apply Kd.V_drewN | apply Kd.V_drew)); exact HO_674006.out) (Kd.R_base ho0) hb)
     have n2_ := Aside0.mk (Kd.N_elder' (by (with_reducible repeat (first | apply Kd.N_alloc | apply Kd.N_drewN | apply Kd.N_drew)); exact HO707.out) (Kd.R_base ho0) hb)
     have n3_ := Aside0.mk (Kd.R_lower (Kd.R_new' (Kd.R_newM (M := fun k_ => (w.heap.size ≤ k_)) ho0 (below_size (by repeat (first | (with_reducible first | exact HB.out | apply below_alloc | apply pw_below_drewN | apply below_drew1 | refine below_set ?_ GE673.out) | exact HB.out))) (fun k_ h_ => h_)) (Kd.R_lt (by (with_reducible repeat (first | apply Kd.R_alloc | apply Kd.R_drewN | apply Kd.R_drew)); exact HO_3.out))) (below_size (by repeat (first | (with_reducible first | exact HB.out | apply below_alloc | apply pw_below_drewN | apply below_drew1 | refine below_set ?_ GE673.out) | exact HB.out))))
     have n4_ := Aside0.mk (blk_below (g := gb673) (o := .cells #[.int .i64 a0_0, .int .i64 a0_1, .int .i64 a0_2, .int .i64 a0_3, .int .i64 a0_4, .int .i64 a0_5, .slice A0_6 l0_6.length c0_6] 34 (0, 0)) (by (with_reducible repeat (first | refine blk_drewN ?_ _ | refine blk_drew ?_ | refine blk_alloc ?_ _)); exact BK673.out) hb)
     have n5_ := Aside0.mk (below_step (by repeat (first | (with_reducible first | exact HB.out | apply below_alloc | apply pw_below_drewN | apply below_drew1 | refine below_set ?_ GE673.out) | exact HB.out)) hb)
     clear HO_3
     clear HO_674006
     clear HO707
     clear BK673
     clear HB
     have HO_3 := n0_
     have HO_674006 := n1_
     have HO707 := n2_
     have HO710 := n3_
     have BK673 := n4_
     have HB := n5_
     clear n0_ n1_ n2_ n3_ n4_ n5_
     (try clear hb)
     (try clear hb2)
     (try clear hk)
     (try clear hi)
     (try clear ho0)
     refine hK.out _ _ ⟨v694, v697, v700, v703, .slice Ao44 y705.length co44, v709, m17_, (by rw [ha.out]; exact putSel_upk 11 hb_ rfl rfl rfl), fun h0_ => absurd ((hon 15 (by kernel_rfl)).symm.trans h0_) (by decide), fun h0_ => absurd ((hon 15 (by kernel_rfl)).symm.trans h0_) (by decide), fun h0_ => absurd ((hon 15 (by kernel_rfl)).symm.trans h0_) (by decide), (by (with_reducible repeat (first | refine blk_drewN ?_ _ | refine blk_drew ?_ | refine blk_alloc ?_ _)); exact BK673.out), (by repeat (first | (with_reducible first | exact HB.out | apply below_alloc | apply pw_below_drewN | apply below_drew1 | refine below_set ?_ GE673.out) | exact HB.out)), fun _ h1_ => absurd ((hon 15 (by kernel_rfl)).symm.trans h1_) (by decide), fun _ h1_ => absurd ((hon 15 (by kernel_rfl)).symm.trans h1_) (by decide), fun _ h1_ => absurd ((hon 15 (by kernel_rfl)).symm.trans h1_) (by decide), fun _ h1_ => absurd ((hon 15 (by kernel_rfl)).symm.trans h1_) (by decide), fun _ => (by (with_reducible repeat (first | apply Kd.N_alloc | apply Kd.N_drewN | apply Kd.N_drew)); exact Kd.N_mono HO707.out (fun _ hk => by simp_all)), fun _ => (by (with_reducible repeat (first | apply Kd.R_alloc | apply Kd.R_drewN | apply Kd.R_drew)); exact Kd.R_mono HO_3.out (fun _ hk => by simp_all)), fun _ => (by (with_reducible repeat (first | apply Kd.V_alloc | apply Kd.V_drewN | apply Kd.V_drew)); exact Kd.V_mono HO_674006.out (fun _ hk => by simp_all)), fun _ => (by (with_reducible repeat (first | apply Kd.R_alloc | apply Kd.R_drewN | apply Kd.R_drew)); exact Kd.R_mono HO710.out (fun _ hk => by simp_all)), fun h0_ => absurd ((hoff 17 (by kernel_rfl)).symm.trans h0_) (by decide)⟩
    refine steps_cons ?_ ?_
    ·rintro b a w' ⟨v694, v697, v700, v703, v706, v709, m17_, ha, Q_HO692, Q_HO_3, Q_HO_674006, Q_BK673, Q_HB, Q_HO695, Q_HO698, Q_HO701, Q_HO704, Q_HO707, Q_HO_3_e15, Q_HO_674006_e15, Q_HO710, Q_X17_⟩ hb_ hon hoff
     refine ⟨_, rfl, fun K hK => ?_⟩
     have e42 : a.tmps[42]? = some (v709) := by rw [ha]; exact putSel_on (e := (16, 42, v709)) 11 rfl rfl (hon 16 (by kernel_rfl)) rfl
     replace ha := Aside0.mk ha
     have BK673 := Aside0.mk Q_BK673
     have HB := Aside0.mk Q_HB
     have HO707 := Aside0.mk (Q_HO707 (hon 15 (by kernel_rfl)))
     have HO_3 := Aside0.mk (Q_HO_3_e15 (hon 15 (by kernel_rfl)))
     have HO_674006 := Aside0.mk (Q_HO_674006_e15 (hon 15 (by kernel_rfl)))
     have HO710 := Aside0.mk (Q_HO710 (hon 16 (by kernel_rfl)))
     refine value_ (w1 := w') (v := v709) (by rfl) rfl ?_ ?_
     ·go_simp
      (try simp only [i64_w])
      try rfl
     refine hK.out _ _ ⟨v694, v697, v700, v703, v706, v709, (v709), (by rw [ha.out]; exact putSel_upk 12 hb_ rfl rfl rfl), fun h0_ => absurd ((hon 15 (by kernel_rfl)).symm.trans h0_) (by decide), fun h0_ => absurd ((hon 15 (by kernel_rfl)).symm.trans h0_) (by decide), fun h0_ => absurd ((hon 15 (by kernel_rfl)).symm.trans h0_) (by decide), Q_BK673, Q_HB, fun _ h1_ => absurd ((hon 15 (by kernel_rfl)).symm.trans h1_) (by decide), fun _ h1_ => absurd ((hon 15 (by kernel_rfl)).symm.trans h1_) (by decide), fun _ h1_ => absurd ((hon 15 (by kernel_rfl)).symm.trans h1_) (by decide), fun _ h1_ => absurd ((hon 15 (by kernel_rfl)).symm.trans h1_) (by decide), Q_HO707, Q_HO_3_e15, Q_HO_674006_e15, Q_HO710, fun _ => rfl⟩
    exact steps_nil
   rintro b a w45 hall ⟨v694, v697, v700, v703, v706, v709, m17_, ha, Q_HO692, Q_HO_3, Q_HO_674006, Q_BK673, Q_HB, Q_HO695, Q_HO698, Q_HO701, Q_HO704, Q_HO707, Q_HO_3_e15, Q_HO_674006_e15, Q_HO710, Q_X17_⟩
   clear BK673 HB HO692 HO_3 HO_674006
   have hb0_ := hall 0 (by kernel_rfl)
   have hb3_ := hall 3 (by kernel_rfl)
   have hb4_ := hall 4 (by kernel_rfl)
   have hb6_ := hall 6 (by kernel_rfl)
   have hb7_ := hall 7 (by kernel_rfl)
   have hb8_ := hall 8 (by kernel_rfl)
   have hb10_ := hall 10 (by kernel_rfl)
   have hb11_ := hall 11 (by kernel_rfl)
   have hb13_ := hall 13 (by kernel_rfl)
   have hb14_ := hall 14 (by kernel_rfl)
   have hb15_ := hall 15 (by kernel_rfl)
   have hb16_ := hall 16 (by kernel_rfl)
   have hb17_ := hall 17 (by kernel_rfl)
   subst ha
   obtain rfl := Q_X17_ hb17_
   simp only [putSel, hb0_, hb3_, hb4_, hb6_, hb7_, hb8_, hb10_, hb11_, hb13_, hb14_, hb15_, hb16_, hb17_, if_true, Act.put, lA_, lZ_, lS_]
   clear Q_HO692
   clear Q_HO_3
   clear Q_HO_674006
   have BK673 := Aside0.mk Q_BK673
   clear Q_BK673
   have HB := Aside0.mk Q_HB
   clear Q_HB
   clear Q_HO695
   clear Q_HO698
   clear Q_HO701
   clear Q_HO704
   have HO707 := Aside0.mk (Q_HO707 hb15_)
   clear Q_HO707
   have HO_3 := Aside0.mk (Q_HO_3_e15 hb15_)
   clear Q_HO_3_e15
   have HO_674006 := Aside0.mk (Q_HO_674006_e15 hb15_)
   clear Q_HO_674006_e15
   have HO710 := Aside0.mk (Q_HO710 hb16_)
   clear Q_HO710
   clear hall hb0_ hb3_ hb4_ hb6_ hb7_ hb8_ hb10_ hb11_ hb13_ hb14_ hb15_ hb16_ hb17_
   have hx_ : 0 < t708.length := by have := CL_.out; omega
   obtain ⟨g6, c6, cur6, ev6, hg6, hok6, hb6, hc6, hm6, hs6, ht6⟩ := build_open HO710.out hx_
   subst ev6
   have HG6 := Aside0.mk hg6
   have HN6 := Aside0.mk (show some g6 ≠ (.slice Ao26 x3_2.length co26 : Value).ownBlock from hok6.2)
   clear hg6 hok6
   have HT6 := Aside0.mk ht6
   clear ht6
   have HX_ := Aside0.mk hx_
   clear hx_
   have HB6 := Aside0.mk hb6
   have HC6_ := Aside0.mk hc6
   have HM6 := Aside0.mk hm6
   have HS6 := Aside0.mk hs6
   clear hb6 hc6 hm6 hs6
   obtain ⟨i0_, hi_, _, hsz_, _⟩ := info_parts info5
   have hcut6 : ∀ W : World, (Instr.slice 22 (.slice (some ⟨g6, 0, none⟩) t708.length c6) (some (.int .i64 10)) none none).run Try.prog W = .ok (.slice (some ⟨g6, 10, none⟩) (t708.length - 10) (c6 - 10)) W := by
     have := cut_from (P := Try.prog) 22 5 .i64 Try.underlying22 hi_ 1 hsz_ (some ⟨g6, 0, none⟩) t708.length c6 10 (by omega) (by have := CL_.out; omega)
     rw [if_neg (by have h1 := CL_.out; have h2 := HC6_.out; omega)] at this
     exact this
   clear hi_ hsz_
   clear HO707 HO_674006
   try go_wp2
   have n0_ := Aside0.mk (Kd.R_drew HO_3.out)
   have n1_ := Aside0.mk (Kd.R_drew HO710.out)
   have n2_ := Aside0.mk (blk_drew BK673.out)
   have n3_ := Aside0.mk (below_drew1 HB.out)
   have n4_ := Aside0.mk (blk_drew HG6.out)
   clear HO_3 HO710 BK673 HB HG6
   have HO_3 := n0_; have HO710 := n1_; have BK673 := n2_; have HB := n3_; have HG6 := n4_
   clear n0_ n1_ n2_ n3_ n4_
   refine start_ (n := 6) (S := fun _ => True) (ds := []) #[false, false, false, false, false, false] (by kernel_rfl) rfl rfl trivial (fun hHeld => ?_)
   obtain ⟨w61, hw61_⟩ : ∃ W_ : World, W_ = w45.drew := ⟨_, rfl⟩
   rw [← hw61_] at HO_3 HO710 BK673 HB HG6 ⊢
   clear hw61_
   refine pure_ (i := 0) (N := some 43) (v := ?_) (a' := ?_) #[true, false, false, false, false, false] rfl rfl (by kernel_rfl) (fun _ _ _ h => h) (Or.inl ⟨by rfl, ?_⟩) ?_ ?_
   rotate_left
   ·intro w'
    go_simp
    with_reducible rfl
   rotate_left
   ·simp only [Act.put, lA_, lZ_, lS_, i64_w, i32_w]
    rfl
   refine pure_ (i := 1) (N := some 44) (v := ?_) (a' := ?_) #[true, true, false, false, false, false] rfl rfl (by kernel_rfl) (fun _ _ _ h => h) (Or.inl ⟨by rfl, ?_⟩) ?_ ?_
   rotate_left
   ·intro w'
    go_simp
    first | with_reducible rfl | (simp only [hcut6]; rfl) | (rw [hcut6]; rfl)
   rotate_left
   ·simp only [Act.put, lA_, lZ_, lS_, i64_w, i32_w]
    rfl
   refine pure_ (i := 2) (N := some 45) (v := ?_) (a' := ?_) #[true, true, true, false, false, false] rfl rfl (by kernel_rfl) (fun _ _ _ h => h) (Or.inl ⟨by rfl, ?_⟩) ?_ ?_
   rotate_left
   ·intro w'
    go_simp
    with_reducible rfl
   rotate_left
   ·simp only [Act.put, lA_, lZ_, lS_, i64_w, i32_w]
    rfl
   refine one_ (i := 3) (N := some 46) #[true, true, true, true, false, false] rfl rfl (by kernel_rfl) (by decide) (fun K hK => ?_)
   refine goes_ Try.func72 (by kernel_rfl) rfl #[.slice (some ⟨g6, 0, none⟩) t708.length c6] (by rfl) rfl rfl (by (try simp only [List.map_toArray, List.map_cons, List.map_nil]); first | done | rfl) ?_
   with_reducible refine (impl_SumWords.calls kj2 (some ⟨g6, 0, none⟩) c6 t708 ts_ w61 (Kd.R_reads' HO710.out).2.2 HC6_.out AS_.out).mono ?_
   rintro e w62 ⟨rfl, hd⟩
   have hb := hd.below
   clear hd
   refine ⟨_, rfl, ?_⟩
   have n0_ := Aside0.mk (below_step HB.out hb)
   have n1_ := Aside0.mk (blk_below BK673.out hb)
   have n2_ := Aside0.mk (Kd.R_below HO710.out hb)
   have n3_ := Aside0.mk (Kd.R_below HO_3.out hb)
   have n4_ := Aside0.mk (blk_below HG6.out hb)
   clear HB BK673 HO710 HO_3 HG6 hb
   have HB := n0_; have BK673 := n1_; have HO710 := n2_; have HO_3 := n3_; have HG6 := n4_
   clear n0_ n1_ n2_ n3_ n4_
   refine hK.out _ _ trivial (fun hHeld => ?_)
   clear hK K
   refine norm_ (a' := ?_) ?_ ?_
   rotate_left
   ·show Act.put _ (some 46) _ = _
    simp only [Act.put, lA_, lZ_, lS_, i64_w, i32_w]
    rfl
   refine one_ (i := 4) (N := some 47) #[true, true, true, true, true, false] rfl rfl (by kernel_rfl) (by decide) (fun K hK => ?_)
   refine goes_ Try.func50 (by kernel_rfl) rfl #[.int .i64 ts_, .int .i64 2] (by rfl) rfl rfl (by (try simp only [List.map_toArray, List.map_cons, List.map_nil]); first | done | rfl) ?_
   with_reducible refine (impl_put.calls kj2 ts_ 2 tz_ w62 AZ_.out).mono ?_
   rintro e w63 ⟨vz, rfl, ho0, hb⟩
   refine ⟨_, rfl, ?_⟩
   have n0_ := Aside0.mk (below_step HB.out hb)
   have n1_ := Aside0.mk (blk_below BK673.out hb)
   have n2_ := Aside0.mk (Kd.R_below HO710.out hb)
   have n3_ := Aside0.mk (Kd.R_below HO_3.out hb)
   have n4_ := Aside0.mk (blk_below HG6.out hb)
   clear HB BK673 HO710 HO_3 HG6 hb
   have HB := n0_; have BK673 := n1_; have HO710 := n2_; have HO_3 := n3_; have HG6 := n4_
   clear n0_ n1_ n2_ n3_ n4_
   have hz_ : 0 < tz_.length := by have := CL_.out; omega
   obtain ⟨gz, cz, curz, evz, hgz, _, _, _, _, _, htz⟩ := build_open ho0 hz_
   subst evz
   clear ho0 hz_
   have HGZ := Aside0.mk hgz
   have HTZ := Aside0.mk htz
   clear hgz htz
   refine hK.out _ _ trivial (fun hHeld => ?_)
   clear hK K
   refine norm_ (a' := ?_) ?_ ?_
   rotate_left
   ·show Act.put _ (some 47) _ = _
    simp only [Act.put, lA_, lZ_, lS_, i64_w, i32_w]
    rfl
   refine one_ (i := 5) (N := some 48) #[true, true, true, true, true, true] rfl rfl (by kernel_rfl) (by decide) (fun K hK => ?_)
   obtain ⟨cs6, hcs6⟩ : ∃ cs6, cs6 = tz_.map (Value.int .u8) := ⟨_, rfl⟩
   have hl6 : cs6.length = 2 := by rw [hcs6, List.length_map]; exact CL_.out.2
   refine step_copy_row rfl (.tmp 44) (.tmp 47) 22 22 (by rfl) 5 Try.underlying22 rfl g6 10 (t708.length - 10) (c6 - 10) ⟨gz, 0, none⟩ tz_.length cz rfl rfl cur6 5 HG6.out cs6 ?cn ?cp ?cf ?c1 ?_
   (case cn => rw [hl6]; have := CL_.out; show 2 = min _ _; omega)
   (case cp => rw [hcs6]; exact build_src HGZ.out HTZ.out)
   (case cf => have h1 := CL_.out; have h2 := HC6_.out; have h3 := HS6.out; omega)
   (case c1 => intro v_ hv_; rw [hcs6] at hv_; obtain ⟨x_, _, rfl⟩ := List.mem_map.1 hv_; rfl)
   rw [hl6]
   have n0_ : Aside0 (Kd.R (Kd.int .u8) 5 (w63.setRow g6 (cur6.toList.take 10 ++ (cs6 ++ cur6.toList.drop (10 + 2))).toArray) w.heap.size (fun _ => True) (.slice (some ⟨g6, 0, none⟩) t708.length c6) ty_) := Aside0.mk (by rw [HTY_.out, hcs6]; exact build_after HB6.out HG6.out HC6_.out HM6.out HS6.out HT6.out CL_.out.1 CL_.out.2)
   have n1_ := Aside0.mk (below_setRow HB.out HB6.out (cur6.toList.take 10 ++ (cs6 ++ cur6.toList.drop (10 + 2))).toArray)
   have n2_ := Aside0.mk ((setRow_other w63 g6 gb673 (cur6.toList.take 10 ++ (cs6 ++ cur6.toList.drop (10 + 2))).toArray (blk_ne BK673.out HG6.out (by decide))).trans BK673.out)
   have n3_ := Aside0.mk (build_keep HO_3.out (fun k hk => setRow_other w63 g6 k (cur6.toList.take 10 ++ (cs6 ++ cur6.toList.drop (10 + 2))).toArray (fun e_ => HN6.out (e_ ▸ hk.symm))))
   generalize w63.setRow g6 (cur6.toList.take 10 ++ (cs6 ++ cur6.toList.drop (10 + 2))).toArray = w64 at n0_ n1_ n2_ n3_ ⊢
   clear HB BK673 HO710 HO_3 HG6
   have HO710 := n0_; have HB := n1_; have BK673 := n2_; have HO_3 := n3_
   clear n0_ n1_ n2_ n3_
   refine hK.out _ _ trivial (fun hHeld => ?_)
   clear hK K
   refine norm_ (a' := ?_) ?_ ?_
   rotate_left
   ·show Act.put _ (some 48) _ = _
    simp only [Act.put, lA_, lZ_, lS_, i64_w, i32_w]
    rfl
   refine done_ (by kernel_rfl) ?_
   clear hHeld hcut6
   have HOL := Aside0.mk (Kd.V_below hs0_6 HB.out)
   have hln_ : t708.length = ty_.length := by rw [HTY_.out]; exact (splice_len _ _ _ (by have := CL_.out; omega)).symm
   have HLN_ := Aside0.mk hln_
   clear hln_
   have hcz46_0 : w64.cell? ⟨gb673, 0, none⟩ = some (.int .i64 a0_0) := (blk_cell BK673.out 0).trans rfl
   have hcz46_1 : w64.cell? ⟨gb673, 1, none⟩ = some (.int .i64 a0_1) := (blk_cell BK673.out 1).trans rfl
   have hcz46_2 : w64.cell? ⟨gb673, 2, none⟩ = some (.int .i64 a0_2) := (blk_cell BK673.out 2).trans rfl
   have hcz46_3 : w64.cell? ⟨gb673, 3, none⟩ = some (.int .i64 a0_3) := (blk_cell BK673.out 3).trans rfl
   have hcz46_4 : w64.cell? ⟨gb673, 4, none⟩ = some (.int .i64 a0_4) := (blk_cell BK673.out 4).trans rfl
   have hcz46_5 : w64.cell? ⟨gb673, 5, none⟩ = some (.int .i64 a0_5) := (blk_cell BK673.out 5).trans rfl
   have hcz46_6 : w64.cell? ⟨gb673, 6, none⟩ = some (.slice A0_6 l0_6.length c0_6) := (blk_cell BK673.out 6).trans rfl
   have hfz46_0 := blk_frozen BK673.out 0
   have hfz46_1 := blk_frozen BK673.out 1
   have hfz46_2 := blk_frozen BK673.out 2
   have hfz46_3 := blk_frozen BK673.out 3
   have hfz46_4 := blk_frozen BK673.out 4
   have hfz46_5 := blk_frozen BK673.out 5
   have hfz46_6 := blk_frozen BK673.out 6
   go_wp2_with (first | ((with_reducible refine gate_dst (N := 53) rfl ?_); refine Kd.N_lit (Kd.slice 5 (Kd.int .u8)) _ 22 ?hg (N' := 53) ?hd (xs := ([ty_, x3_2, l0_6] : List (List Int))) (inner := [.slice (some ⟨g6, 0, none⟩) t708.length c6, .slice Ao26 x3_2.length co26, .slice A0_6 l0_6.length c0_6]) (ok := fun _ => True) (okp := fun _ => True) ?hr ?hp (fun _ hk => hk) trivial (Below.refl _ _) (Nat.le_refl _) (by simp) ?_; (case hd => rfl); (case hg => rfl); (case hr => first | (go_simp; done) | (go_simp; rfl)); (case hp => exact (Reps.one (show Kd.FK (Kd.slice 5 (Kd.int .u8)) _ _ ty_ [.slice (some ⟨g6, 0, none⟩) t708.length c6] from build_FK HLN_.out (Kd.R_mono (ok' := fun _ => True) HO710.out (fun _ _ => trivial))) (Reps.one (show Kd.FK (Kd.slice 5 (Kd.int .u8)) _ _ x3_2 [.slice Ao26 x3_2.length co26] from (Kd.FK_slice_mk (Kd.R_reads' HO_3.out).2.1 (Kd.R_F (Kd.R_mono (ok' := fun _ => True) HO_3.out (fun _ _ => trivial))))) (Reps.one (show Kd.FK (Kd.slice 5 (Kd.int .u8)) _ _ l0_6 [.slice A0_6 l0_6.length c0_6] from (Kd.FK_slice_mk (Kd.V_reads' HOL.out).2.1 (Kd.V_F (Kd.V_mono (ok' := fun _ => True) HOL.out (fun _ _ => trivial))))) (Reps.none _ _))))); intro v712 w48 ho49 hb hg_ hnew_; clear hg_ hnew_; rw [← Ny711.out] at ho49; have n2_ := Aside0.mk (Kd.N_lower ho49 (below_size HB.out)); have n4_ := Aside0.mk (below_step HB.out hb); clear BK673 HB HO710 HO_3 HOL; have HO713 := n2_; have HB := n4_; clear n2_ n4_; clear hb ho49; obtain ⟨Ao50, co50, eo50⟩ := Kd.N_slice HO713.out; subst eo50) | ((with_reducible refine gate_callee (f := 49) rfl ?_); refine goesL_ (some 54) rfl rfl Try.func49 (by kernel_rfl) rfl #[.slice Ao50 y711.length co50] rfl (by (try simp only [List.map_toArray, List.map_cons, List.map_nil]); first | done | rfl | (simp only [List.length_drop, List.length_take]; rfl)) ?_; (with_reducible refine (slices_Concat_byte_byte.calls _ _ y711 t714 _ ?side1 ?side2 A25.out).mono ?_); (case side1 => exact (Kd.N_reads' HO713.out).2.2); (case side2 => exact (Kd.N_reads' HO713.out).2.1); rintro e w51 ⟨v715, rfl, ho0, hb⟩; refine ⟨_, rfl, ?_⟩; have n3_ := Aside0.mk (Kd.R_lower (Kd.R_newM (M := fun k_ => (w.heap.size ≤ k_)) ho0 (below_size HB.out) (fun k_ h_ => h_)) (below_size HB.out)); have n5_ := Aside0.mk (below_step HB.out hb); clear HO713 HB; have HO716 := n3_; have HB := n5_; clear n3_ n5_ hb ho0))
   go_ret
   exact ⟨_, by first | rfl | (simp [errW_none, errW_some] <;> rfl) | (simp [*, errW_none, errW_some] <;> rfl), Kd.R_mono HO716.out (fun _ hk => hk.1), HB.out⟩
theorem impl_build.calls (k : Nat) (a0_0 : Int) (a0_1 : Int) (a0_2 : Int) (a0_3 : Int) (a0_4 : Int) (a0_5 : Int) (A0_6 : Option Addr) (c0_6 : Nat) (l0_6 : List Int) (r : List Int) (w : World) (hr0_6 : Kd.C (Kd.int .u8) w A0_6 l0_6.length l0_6) (hc0_6 : l0_6.length ≤ c0_6) (h : impl_build.f k a0_0 a0_1 a0_2 a0_3 a0_4 a0_5 l0_6 = some r) :
    Calls Try.prog 62 #[.agg #[.int .i64 a0_0, .int .i64 a0_1, .int .i64 a0_2, .int .i64 a0_3, .int .i64 a0_4, .int .i64 a0_5, .slice A0_6 l0_6.length c0_6]] w fun e w' => ∃ v0_ : Value, e = .returned (v0_) ∧ Kd.R (Kd.int .u8) 5 w' w.heap.size (fun _ => True) v0_ r ∧ Below w.heap.size w w' := by
  refine (impl_build.callsV k a0_0 a0_1 a0_2 a0_3 a0_4 a0_5 (fun k_ => k_ < w.heap.size) A0_6 c0_6 l0_6 r w (Kd.V_mk hc0_6 (Kd.C_F (Kd.heap_int .u8) hr0_6)) h).mono ?_
  rintro e w' ⟨v, rfl, hr, hb⟩
  exact ⟨v, rfl, Kd.R_mono hr (fun _ _ => trivial), hb⟩
end Go.Proofs.Ytidejdfbapjfiaa.G
namespace Go.Proofs.Ytidejdfbapjfiaa.G
open Go.RowKit Go.Proofs.YtidejdfbapjfiaaW.PrintWords Go.Proofs.YtidejdfbapjfiaaW.PrintLast Go.Proofs.YtidejdfbapjfiaaW.PrintMore
attribute [local go_sem] max2_int min2_int max_two min_two max_three min_three max_four min_four   -- for this text's walks alone
set_option linter.unusedVariables false
set_option linter.unusedSimpArgs false
def impl_nearer.f (a0_0 : Int) (a0_1 : Int) (a0_2 : Int) (a0_3 : Int) (a0_4 : Int) (a0_5 : Int) (l0_6 : List Int) : Option (Int × Int × Int × Int × Int × Int × List Int) := some (a0_0, a0_1, a0_2, wrap64 (a0_3 - 1), a0_4, a0_5, l0_6)
set_option maxHeartbeats 8000000 in
set_option maxRecDepth 100000 in
theorem impl_nearer.calls (a0_0 : Int) (a0_1 : Int) (a0_2 : Int) (a0_3 : Int) (a0_4 : Int) (a0_5 : Int) (P0_6_ : Nat → Prop) (u9000_ : Value) (l0_6 : List Int) (r1 : Int) (r2 : Int) (r3 : Int) (r4 : Int) (r5 : Int) (r6 : Int) (r7 : List Int) (w0 w : World) (hB : Below w0.heap.size w0 w) (ho0_6 : Kd.R (Kd.int .u8) 5 w w0.heap.size P0_6_ u9000_ l0_6) (h : impl_nearer.f a0_0 a0_1 a0_2 a0_3 a0_4 a0_5 l0_6 = some (r1, r2, r3, r4, r5, r6, r7)) :
  Calls Try.prog 63 #[.agg #[.int .i64 a0_0, .int .i64 a0_1, .int .i64 a0_2, .int .i64 a0_3, .int .i64 a0_4, .int .i64 a0_5, u9000_]] w fun e w' => ∃ v6_ : Value, e = .returned (.agg #[.int .i64 r1, .int .i64 r2, .int .i64 r3, .int .i64 r4, .int .i64 r5, .int .i64 r6, v6_]) ∧ Kd.R (Kd.int .u8) 5 w' w0.heap.size (fun k_ => (P0_6_ k_ ∨ w.heap.size ≤ k_)) v6_ r7 ∧ Below w0.heap.size w0 w' ∧ Kept w w' (fun k_ => P0_6_ k_) := by
 have hu34 := Try.underlying34
 have HO0_6 := Aside0.mk (show Kd.R (Kd.int .u8) 5 w w0.heap.size (fun k_ => (P0_6_ k_ ∨ w.heap.size ≤ k_)) u9000_ l0_6 from Kd.R_mono ho0_6 (fun k_ hk => (.inl hk)))
 have HK := Aside0.mk (Kept.refl w (fun k_ => P0_6_ k_))
 have HW0 := Aside0.mk hB.size
 have HB := Aside0.mk hB
 clear hB
 have H : (some (a0_0, a0_1, a0_2, wrap64 (a0_3 - 1), a0_4, a0_5, l0_6)) = some (r1, r2, r3, r4, r5, r6, r7) := h
 clear h
 simp only [Option.some.injEq, Prod.mk.injEq] at H
 obtain ⟨rfl, rfl, rfl, rfl, rfl, rfl, rfl⟩ := H
 obtain ⟨Ao2, co2, eo2⟩ := Kd.R_slice HO0_6.out
 subst eo2
 go_enter Try.func63, Try.ntmps63
 go_wp2_with (first | ((with_reducible refine gate_dst (N := 1) rfl ?_); refine box_event ?hg (N := 1) ?hd (cs := #[.int .i64 a0_0, .int .i64 a0_1, .int .i64 a0_2, .int .i64 a0_3, .int .i64 a0_4, .int .i64 a0_5, .slice Ao2 l0_6.length co2]) (t := 34) ?hr ?_; (case hd => rfl); (case hg => rfl); (case hr => first | (go_simp; done) | (go_simp; rfl)); intro gb673 hg w3 hbox hb; have n0_ := Aside0.mk (Kd.R_below (by (with_reducible repeat (first | apply Kd.R_alloc | apply Kd.R_drewN | apply Kd.R_drew)); exact HO0_6.out) hb); have n1_ := Aside0.mk (Kept.below (S := (fun k_ => P0_6_ k_)) (by repeat (first | (with_reducible first | exact HK.out | apply Kept.alloc | apply Kept.drewN | apply Kept.drew) | exact HK.out)) hb); have n2_ := Aside0.mk (below_step (by repeat (first | (with_reducible first | exact HB.out | apply below_alloc | apply pw_below_drewN | apply below_drew1) | exact HB.out)) hb); have n3_ := Aside0.mk (hbox); have n4_ := Aside0.mk ((by rw [hg]; exact (by first | exact HK.out.1 | exact (show Kept w _ (fun k_ => P0_6_ k_) from by repeat (first | (with_reducible first | exact HK.out | apply Kept.alloc | apply Kept.drewN | apply Kept.drew) | exact HK.out)).1) : w.heap.size ≤ gb673)); have n5_ := Aside0.mk ((by rw [hg]; exact (below_size (by repeat (first | (with_reducible first | exact HB.out | apply below_alloc | apply pw_below_drewN | apply below_drew1) | exact HB.out))) : w0.heap.size ≤ gb673)); clear HO0_6; clear HK; clear HB; have HO0_6 := n0_; have HK := n1_; have HB := n2_; have BK673 := n3_; have GW673 := n4_; have GE673 := n5_; clear n0_ n1_ n2_ n3_ n4_ n5_; clear hb hbox hg) | ((with_reducible refine gate_dst (N := 2) rfl ?_); refine box_event ?hg (N := 2) ?hd (cs := #[.int .i64 0, .int .i64 0, .int .i64 0, .int .i64 0, .int .i64 0, .int .i64 0, .slice none 0 0]) (t := 34) ?hr ?_; (case hd => rfl); (case hg => rfl); (case hr => first | (go_simp; done) | (go_simp; rfl)); intro gb674 hg w4 hbox hb; have n0_ := Aside0.mk (Kd.R_below (by (with_reducible repeat (first | apply Kd.R_alloc | apply Kd.R_drewN | apply Kd.R_drew)); exact HO0_6.out) hb); have n1_ := Aside0.mk (blk_below (g := gb673) (o := .cells #[.int .i64 a0_0, .int .i64 a0_1, .int .i64 a0_2, .int .i64 a0_3, .int .i64 a0_4, .int .i64 a0_5, .slice Ao2 l0_6.length co2] 34 (0, 0)) (by (with_reducible repeat (first | refine blk_drewN ?_ _ | refine blk_drew ?_ | refine blk_alloc ?_ _)); exact BK673.out) hb); have n2_ := Aside0.mk (Kept.below (S := (fun k_ => P0_6_ k_)) (by repeat (first | (with_reducible first | exact HK.out | apply Kept.alloc | apply Kept.drewN | apply Kept.drew | refine Kept.setCell ?_ (.inr GW673.out) _) | exact HK.out)) hb); have n3_ := Aside0.mk (below_step (by repeat (first | (with_reducible first | exact HB.out | apply below_alloc | apply pw_below_drewN | apply below_drew1 | refine below_set ?_ GE673.out) | exact HB.out)) hb); have n4_ := Aside0.mk (hbox); have n5_ := Aside0.mk ((by rw [hg]; exact (by first | exact HK.out.1 | exact (show Kept w _ (fun k_ => P0_6_ k_) from by repeat (first | (with_reducible first | exact HK.out | apply Kept.alloc | apply Kept.drewN | apply Kept.drew | refine Kept.setCell ?_ (.inr GW673.out) _) | exact HK.out)).1) : w.heap.size ≤ gb674)); have n6_ := Aside0.mk ((by rw [hg]; exact (below_size (by repeat (first | (with_reducible first | exact HB.out | apply below_alloc | apply pw_below_drewN | apply below_drew1 | refine below_set ?_ GE673.out) | exact HB.out))) : w0.heap.size ≤ gb674)); have n7_ := Aside0.mk ((by rw [hg]; exact Nat.ne_of_lt (blk_lt (g := gb673) (o := .cells #[.int .i64 a0_0, .int .i64 a0_1, .int .i64 a0_2, .int .i64 a0_3, .int .i64 a0_4, .int .i64 a0_5, .slice Ao2 l0_6.length co2] 34 (0, 0)) (by (with_reducible repeat (first | refine blk_drewN ?_ _ | refine blk_drew ?_ | refine blk_alloc ?_ _)); exact BK673.out)) : gb673 ≠ gb674)); have n8_ := Aside0.mk ((by rw [hg]; exact Nat.ne_of_gt (blk_lt (g := gb673) (o := .cells #[.int .i64 a0_0, .int .i64 a0_1, .int .i64 a0_2, .int .i64 a0_3, .int .i64 a0_4, .int .i64 a0_5, .slice Ao2 l0_6.length co2] 34 (0, 0)) (by (with_reducible repeat (first | refine blk_drewN ?_ _ | refine blk_drew ?_ | refine blk_alloc ?_ _)); exact BK673.out)) : gb674 ≠ gb673)); clear HO0_6; clear BK673; clear HK; clear HB; have HO0_6 := n0_; have BK673 := n1_; have HK := n2_; have HB := n3_; have BK674 := n4_; have GW674 := n5_; have GE674 := n6_; have NB673_674 := n7_; have NB674_673 := n8_; clear n0_ n1_ n2_ n3_ n4_ n5_ n6_ n7_ n8_; clear hb hbox hg; have hnb5 := NB673_674.out; have hnc5 := NB674_673.out; have hcz6_0 : w4.cell? ⟨gb673, 0, none⟩ = some (.int .i64 a0_0) := (blk_cell BK673.out 0).trans rfl; have hcz6_1 : w4.cell? ⟨gb673, 1, none⟩ = some (.int .i64 a0_1) := (blk_cell BK673.out 1).trans rfl; have hcz6_2 : w4.cell? ⟨gb673, 2, none⟩ = some (.int .i64 a0_2) := (blk_cell BK673.out 2).trans rfl; have hcz6_3 : w4.cell? ⟨gb673, 3, none⟩ = some (.int .i64 a0_3) := (blk_cell BK673.out 3).trans rfl; have hcz6_4 : w4.cell? ⟨gb673, 4, none⟩ = some (.int .i64 a0_4) := (blk_cell BK673.out 4).trans rfl; have hcz6_5 : w4.cell? ⟨gb673, 5, none⟩ = some (.int .i64 a0_5) := (blk_cell BK673.out 5).trans rfl; have hcz6_6 : w4.cell? ⟨gb673, 6, none⟩ = some (.slice Ao2 l0_6.length co2) := (blk_cell BK673.out 6).trans rfl; have hfz6_0 := blk_frozen BK673.out 0; have hfz6_1 := blk_frozen BK673.out 1; have hfz6_2 := blk_frozen BK673.out 2; have hfz6_3 := blk_frozen BK673.out 3; have hfz6_4 := blk_frozen BK673.out 4; have hfz6_5 := blk_frozen BK673.out 5; have hfz6_6 := blk_frozen BK673.out 6; have hcz7_0 : w4.cell? ⟨gb674, 0, none⟩ = some (.int .i64 0) := (blk_cell BK674.out 0).trans rfl; have hcz7_1 : w4.cell? ⟨gb674, 1, none⟩ = some (.int .i64 0) := (blk_cell BK674.out 1).trans rfl; have hcz7_2 : w4.cell? ⟨gb674, 2, none⟩ = some (.int .i64 0) := (blk_cell BK674.out 2).trans rfl; have hcz7_3 : w4.cell? ⟨gb674, 3, none⟩ = some (.int .i64 0) := (blk_cell BK674.out 3).trans rfl; have hcz7_4 : w4.cell? ⟨gb674, 4, none⟩ = some (.int .i64 0) := (blk_cell BK674.out 4).trans rfl; have hcz7_5 : w4.cell? ⟨gb674, 5, none⟩ = some (.int .i64 0) := (blk_cell BK674.out 5).trans rfl; have hcz7_6 : w4.cell? ⟨gb674, 6, none⟩ = some (.slice none 0 0) := (blk_cell BK674.out 6).trans rfl; have hfz7_0 := blk_frozen BK674.out 0; have hfz7_1 := blk_frozen BK674.out 1; have hfz7_2 := blk_frozen BK674.out 2; have hfz7_3 := blk_frozen BK674.out 3; have hfz7_4 := blk_frozen BK674.out 4; have hfz7_5 := blk_frozen BK674.out 5; have hfz7_6 := blk_frozen BK674.out 6))
 refine bodyPost_ret (results_cell_row rfl _ _ gb674 34 #[.int .i64 a0_0, .int .i64 a0_1, .int .i64 a0_2, .int .i64 (wrap64 (a0_3 - 1)), .int .i64 a0_4, .int .i64 a0_5, .slice Ao2 l0_6.length co2] (0, 0) _ rfl (by (with_reducible repeat (first | refine blk_drewN ?_ _ | refine blk_drew ?_ | refine blk_alloc ?_ _)); refine blk_put (cs := #[.int .i64 a0_0, .int .i64 a0_1, .int .i64 a0_2, .int .i64 (wrap64 (a0_3 - 1)), .int .i64 a0_4, .int .i64 a0_5, .slice none 0 0]) ?_ 6 _ rfl; (with_reducible repeat (first | refine blk_drewN ?_ _ | refine blk_drew ?_ | refine blk_alloc ?_ _)); refine blk_put (cs := #[.int .i64 a0_0, .int .i64 a0_1, .int .i64 a0_2, .int .i64 (wrap64 (a0_3 - 1)), .int .i64 a0_4, .int .i64 0, .slice none 0 0]) ?_ 5 _ rfl; (with_reducible repeat (first | refine blk_drewN ?_ _ | refine blk_drew ?_ | refine blk_alloc ?_ _)); refine blk_put (cs := #[.int .i64 a0_0, .int .i64 a0_1, .int .i64 a0_2, .int .i64 (wrap64 (a0_3 - 1)), .int .i64 0, .int .i64 0, .slice none 0 0]) ?_ 4 _ rfl; (with_reducible repeat (first | refine blk_drewN ?_ _ | refine blk_drew ?_ | refine blk_alloc ?_ _)); refine blk_put (cs := #[.int .i64 a0_0, .int .i64 a0_1, .int .i64 a0_2, .int .i64 0, .int .i64 0, .int .i64 0, .slice none 0 0]) ?_ 3 _ rfl; (with_reducible repeat (first | refine blk_drewN ?_ _ | refine blk_drew ?_ | refine blk_alloc ?_ _)); refine blk_put (cs := #[.int .i64 a0_0, .int .i64 a0_1, .int .i64 0, .int .i64 0, .int .i64 0, .int .i64 0, .slice none 0 0]) ?_ 2 _ rfl; (with_reducible repeat (first | refine blk_drewN ?_ _ | refine blk_drew ?_ | refine blk_alloc ?_ _)); refine blk_put (cs := #[.int .i64 a0_0, .int .i64 0, .int .i64 0, .int .i64 0, .int .i64 0, .int .i64 0, .slice none 0 0]) ?_ 1 _ rfl; (with_reducible repeat (first | refine blk_drewN ?_ _ | refine blk_drew ?_ | refine blk_alloc ?_ _)); refine blk_put (cs := #[.int .i64 0, .int .i64 0, .int .i64 0, .int .i64 0, .int .i64 0, .int .i64 0, .slice none 0 0]) ?_ 0 _ rfl; (with_reducible repeat (first | refine blk_drewN ?_ _ | refine blk_drew ?_ | refine blk_alloc ?_ _)); refine blk_far ?_ NB674_673.out _; (with_reducible repeat (first | refine blk_drewN ?_ _ | refine blk_drew ?_ | refine blk_alloc ?_ _)); exact BK674.out) Try.underlying34 rfl (by kernel_rfl)) rfl ?_
 exact ⟨_, by first | rfl | (simp [errW_none, errW_some] <;> rfl) | (simp [*, errW_none, errW_some] <;> rfl), by (with_reducible repeat (first | apply Kd.R_alloc | apply Kd.R_drewN | apply Kd.R_drew)); exact Kd.R_mono (Kd.R_far (p := ⟨gb674, 6, none⟩) (Kd.R_far (p := ⟨gb674, 5, none⟩) (Kd.R_far (p := ⟨gb674, 4, none⟩) (Kd.R_far (p := ⟨gb674, 3, none⟩) (Kd.R_far (p := ⟨gb674, 2, none⟩) (Kd.R_far (p := ⟨gb674, 1, none⟩) (Kd.R_far (p := ⟨gb674, 0, none⟩) (Kd.R_far (p := ⟨gb673, 3, none⟩) (Kd.R_types (Kd.R_types HO0_6.out BK673.out (by decide)) BK674.out (by decide)) (fun _ hk => hk.1.2) (.int .i64 (wrap64 (a0_3 - 1)))) (fun _ hk => hk.2) (.int .i64 a0_0)) (fun _ hk => hk.2) (.int .i64 a0_1)) (fun _ hk => hk.2) (.int .i64 a0_2)) (fun _ hk => hk.2) (.int .i64 (wrap64 (a0_3 - 1)))) (fun _ hk => hk.2) (.int .i64 a0_4)) (fun _ hk => hk.2) (.int .i64 a0_5)) (fun _ hk => hk.2) (.slice Ao2 l0_6.length co2)) (fun _ hk => hk.1.1), by repeat (first | (with_reducible first | exact HB.out | apply below_alloc | apply pw_below_drewN | apply below_drew1 | refine below_set ?_ GE673.out | refine below_set ?_ GE674.out) | exact HB.out), by repeat (first | (with_reducible first | exact HK.out | apply Kept.alloc | apply Kept.drewN | apply Kept.drew | refine Kept.setCell ?_ (.inr GW673.out) _ | refine Kept.setCell ?_ (.inr GW674.out) _) | exact HK.out)⟩
end Go.Proofs.Ytidejdfbapjfiaa.G
namespace Go.Proofs.Ytidejdfbapjfiaa.G
open Go.RowKit Go.Proofs.YtidejdfbapjfiaaW.PrintWords Go.Proofs.YtidejdfbapjfiaaW.PrintLast Go.Proofs.YtidejdfbapjfiaaW.PrintMore
attribute [local go_sem] max2_int min2_int max_two min_two max_three min_three max_four min_four   -- for this text's walks alone
set_option linter.unusedVariables false
set_option linter.unusedSimpArgs false
def impl_TtlDown.f (k : Nat) (l0 : List Int) : Option (Int × List Int) := (impl_ParsePacket.f k l0).bind fun bt676 => (if bt676.1 = 0 then (if bt676.2.2.2.2.1 = 1 then (some (10, ([] : List Int))) else ((impl_nearer.f bt676.2.1 bt676.2.2.1 bt676.2.2.2.1 bt676.2.2.2.2.1 bt676.2.2.2.2.2.1 bt676.2.2.2.2.2.2.1 bt676.2.2.2.2.2.2.2).bind fun bt687 => ((impl_build.f k bt687.1 bt687.2.1 bt687.2.2.1 bt687.2.2.2.1 bt687.2.2.2.2.1 bt687.2.2.2.2.2.1 bt687.2.2.2.2.2.2).bind fun t696 => (some (0, t696))))) else (some (bt676.1, ([] : List Int))))
set_option maxHeartbeats 8000000 in
set_option maxRecDepth 100000 in
theorem impl_TtlDown.calls (k : Nat) (A0 : Option Addr) (c0 : Nat) (l0 : List Int) (r1 : Int) (r2 : List Int) (w : World) (hr0 : Kd.C (Kd.int .u8) w A0 l0.length l0) (hc0 : l0.length ≤ c0) (h : impl_TtlDown.f k l0 = some (r1, r2)) :
  Calls Try.prog 24 #[.slice A0 l0.length c0] w fun e w' => ∃ v1_ : Value, e = .returned (.agg #[.int .i64 r1, v1_]) ∧ Kd.R (Kd.int .u8) 5 w' w.heap.size (fun _ => True) v1_ r2 ∧ Below w.heap.size w w' := by
 have hu29 := Try.underlying29
 have hu36 := Try.underlying36
 have hu34 := Try.underlying34
 have HR0 := Aside0.mk hr0
 have HC0 := Aside0.mk hc0
 clear hr0 hc0
 have HB := Aside0.mk (Below.refl w.heap.size w)
 have H : ((impl_ParsePacket.f k l0).bind fun bt676 => (if bt676.1 = 0 then (if bt676.2.2.2.2.1 = 1 then (some (10, ([] : List Int))) else ((impl_nearer.f bt676.2.1 bt676.2.2.1 bt676.2.2.2.1 bt676.2.2.2.2.1 bt676.2.2.2.2.2.1 bt676.2.2.2.2.2.2.1 bt676.2.2.2.2.2.2.2).bind fun bt687 => ((impl_build.f k bt687.1 bt687.2.1 bt687.2.2.1 bt687.2.2.2.1 bt687.2.2.2.2.1 bt687.2.2.2.2.2.1 bt687.2.2.2.2.2.2).bind fun t696 => (some (0, t696))))) else (some (bt676.1, ([] : List Int))))) = some (r1, r2) := h
 clear h
 replace H := Option.bind_eq_some_iff.mp H
 obtain ⟨⟨t676, t677, t678, t679, t680, t681, t682, t683⟩, A20, H⟩ := H
 try dsimp only at H
 have A2 := Aside0.mk A20
 clear A20
 by_cases c3 : t676 = 0
 ·rw [if_pos c3] at H
  have c3b0 : (t676 == 0) = true := beq_iff_eq.mpr c3
  have c3b1 : (t676 != 0) = false := bne_eq_false_iff_eq.mpr c3
  clear c3
  by_cases c4 : t680 = 1
  ·rw [if_pos c4] at H
   have c4b0 : (t680 == 1) = true := beq_iff_eq.mpr c4
   have c4b1 : (t680 != 1) = false := bne_eq_false_iff_eq.mpr c4
   clear c4
   simp only [Option.some.injEq, Prod.mk.injEq] at H
   obtain ⟨rfl, rfl⟩ := H
   go_enter Try.func24, Try.ntmps24
   go_wp2_with (first | ((with_reducible refine gate_dst (N := 2) rfl ?_); refine box_event ?hg (N := 2) ?hd (cs := #[.int .i64 0, .slice none 0 0]) (t := 29) ?hr ?_; (case hd => rfl); (case hg => rfl); (case hr => first | (go_simp; done) | (go_simp; rfl)); intro gb675 hg w5 hbox hb; have n0_ := Aside0.mk (below_step (by repeat (first | (with_reducible first | exact HB.out | apply below_alloc | apply pw_below_drewN | apply below_drew1) | exact HB.out)) hb); have n1_ := Aside0.mk (hbox); have n2_ := Aside0.mk ((by rw [hg]; exact (below_size (by repeat (first | (with_reducible first | exact HB.out | apply below_alloc | apply pw_below_drewN | apply below_drew1) | exact HB.out))) : w.heap.size ≤ gb675)); have n3_ := Aside0.mk ((by rw [hg]; exact (below_size (by repeat (first | (with_reducible first | exact HB.out | apply below_alloc | apply pw_below_drewN | apply below_drew1) | exact HB.out))) : w.heap.size ≤ gb675)); clear HB; have HB := n0_; have BK675 := n1_; have GW675 := n2_; have GE675 := n3_; clear n0_ n1_ n2_ n3_; clear hb hbox hg) | ((with_reducible refine gate_callee (f := 17) rfl ?_); refine goesL_ (some 5) rfl rfl Try.func17 (by kernel_rfl) rfl #[.slice A0 l0.length c0] rfl (by (try simp only [List.map_toArray, List.map_cons, List.map_nil]); first | done | rfl | (simp only [List.length_drop, List.length_take]; rfl)) ?_; (with_reducible refine (impl_ParsePacket.calls k _ _ l0 t676 t677 t678 t679 t680 t681 t682 t683 _ ?side1 ?side2 A2.out).mono ?_); (case side1 => repeat (first | exact (Kd.C_below HR0.out HB.out) | (with_reducible refine Kd.C_alloc ?_ _) | (with_reducible refine Kd.C_drewN ?_ _) | (with_reducible refine Kd.C_drew ?_))); (case side2 => exact HC0.out); rintro e w6 ⟨v684, rfl, ho0, hb⟩; refine ⟨_, rfl, ?_⟩; have n0_ := Aside0.mk (Kd.R_lower ho0 (below_size (by repeat (first | (with_reducible first | exact HB.out | apply below_alloc | apply pw_below_drewN | apply below_drew1 | refine below_set ?_ GE675.out) | exact HB.out)))); have n1_ := Aside0.mk (blk_below (g := gb675) (o := .cells #[.int .i64 0, .slice none 0 0] 29 (0, 0)) (by (with_reducible repeat (first | refine blk_drewN ?_ _ | refine blk_drew ?_ | refine blk_alloc ?_ _)); exact BK675.out) hb); have n2_ := Aside0.mk (below_step (by repeat (first | (with_reducible first | exact HB.out | apply below_alloc | apply pw_below_drewN | apply below_drew1 | refine below_set ?_ GE675.out) | exact HB.out)) hb); clear BK675; clear HB; have HO685 := n0_; have BK675 := n1_; have HB := n2_; clear n0_ n1_ n2_; (try clear hb); (try clear hb2); (try clear hk); (try clear hi); (try clear ho0)) | ((with_reducible refine gate_dst (N := 3) rfl ?_); refine box_event ?hg (N := 3) ?hd (cs := #[.int .i64 0, .int .i64 0, .int .i64 0, .int .i64 0, .int .i64 0, .int .i64 0, .int .i64 0, .slice none 0 0]) (t := 36) ?hr ?_; (case hd => rfl); (case hg => rfl); (case hr => first | (go_simp; done) | (go_simp; rfl)); intro gb686 hg w7 hbox hb; have n0_ := Aside0.mk (Kd.R_below (by (with_reducible repeat (first | apply Kd.R_alloc | apply Kd.R_drewN | apply Kd.R_drew)); exact HO685.out) hb); have n1_ := Aside0.mk (blk_below (g := gb675) (o := .cells #[.int .i64 0, .slice none 0 0] 29 (0, 0)) (by (with_reducible repeat (first | refine blk_drewN ?_ _ | refine blk_drew ?_ | refine blk_alloc ?_ _)); exact BK675.out) hb); have n2_ := Aside0.mk (below_step (by repeat (first | (with_reducible first | exact HB.out | apply below_alloc | apply pw_below_drewN | apply below_drew1 | refine below_set ?_ GE675.out) | exact HB.out)) hb); have n3_ := Aside0.mk (hbox); have n4_ := Aside0.mk ((by rw [hg]; exact (below_size (by repeat (first | (with_reducible first | exact HB.out | apply below_alloc | apply pw_below_drewN | apply below_drew1 | refine below_set ?_ GE675.out) | exact HB.out))) : w.heap.size ≤ gb686)); have n5_ := Aside0.mk ((by rw [hg]; exact (below_size (by repeat (first | (with_reducible first | exact HB.out | apply below_alloc | apply pw_below_drewN | apply below_drew1 | refine below_set ?_ GE675.out) | exact HB.out))) : w.heap.size ≤ gb686)); have n6_ := Aside0.mk ((by rw [hg]; exact Nat.ne_of_lt (blk_lt (g := gb675) (o := .cells #[.int .i64 0, .slice none 0 0] 29 (0, 0)) (by (with_reducible repeat (first | refine blk_drewN ?_ _ | refine blk_drew ?_ | refine blk_alloc ?_ _)); exact BK675.out)) : gb675 ≠ gb686)); have n7_ := Aside0.mk ((by rw [hg]; exact Nat.ne_of_gt (blk_lt (g := gb675) (o := .cells #[.int .i64 0, .slice none 0 0] 29 (0, 0)) (by (with_reducible repeat (first | refine blk_drewN ?_ _ | refine blk_drew ?_ | refine blk_alloc ?_ _)); exact BK675.out)) : gb686 ≠ gb675)); clear HO685; clear BK675; clear HB; have HO685 := n0_; have BK675 := n1_; have HB := n2_; have BK686 := n3_; have GW686 := n4_; have GE686 := n5_; have NB675_686 := n6_; have NB686_675 := n7_; clear n0_ n1_ n2_ n3_ n4_ n5_ n6_ n7_; clear hb hbox hg; have hnb8 := NB686_675.out; have hnc8 := NB675_686.out; have hcz9_0 : w7.cell? ⟨gb686, 0, none⟩ = some (.int .i64 0) := (blk_cell BK686.out 0).trans rfl; have hcz9_1 : w7.cell? ⟨gb686, 1, none⟩ = some (.int .i64 0) := (blk_cell BK686.out 1).trans rfl; have hcz9_2 : w7.cell? ⟨gb686, 2, none⟩ = some (.int .i64 0) := (blk_cell BK686.out 2).trans rfl; have hcz9_3 : w7.cell? ⟨gb686, 3, none⟩ = some (.int .i64 0) := (blk_cell BK686.out 3).trans rfl; have hcz9_4 : w7.cell? ⟨gb686, 4, none⟩ = some (.int .i64 0) := (blk_cell BK686.out 4).trans rfl; have hcz9_5 : w7.cell? ⟨gb686, 5, none⟩ = some (.int .i64 0) := (blk_cell BK686.out 5).trans rfl; have hcz9_6 : w7.cell? ⟨gb686, 6, none⟩ = some (.int .i64 0) := (blk_cell BK686.out 6).trans rfl; have hcz9_7 : w7.cell? ⟨gb686, 7, none⟩ = some (.slice none 0 0) := (blk_cell BK686.out 7).trans rfl; have hfz9_0 := blk_frozen BK686.out 0; have hfz9_1 := blk_frozen BK686.out 1; have hfz9_2 := blk_frozen BK686.out 2; have hfz9_3 := blk_frozen BK686.out 3; have hfz9_4 := blk_frozen BK686.out 4; have hfz9_5 := blk_frozen BK686.out 5; have hfz9_6 := blk_frozen BK686.out 6; have hfz9_7 := blk_frozen BK686.out 7; obtain ⟨Ao10, co10, eo10⟩ := Kd.R_slice HO685.out; subst eo10; have hcz11_0 : w7.cell? ⟨gb675, 0, none⟩ = some (.int .i64 0) := (blk_cell BK675.out 0).trans rfl; have hcz11_1 : w7.cell? ⟨gb675, 1, none⟩ = some (.slice none 0 0) := (blk_cell BK675.out 1).trans rfl; have hfz11_0 := blk_frozen BK675.out 0; have hfz11_1 := blk_frozen BK675.out 1))
   refine bodyPost_ret (results_cell_row rfl _ _ gb675 29 #[.int .i64 10, .slice none 0 0] (0, 0) _ rfl (by (with_reducible repeat (first | refine blk_drewN ?_ _ | refine blk_drew ?_ | refine blk_alloc ?_ _)); refine blk_put (cs := #[.int .i64 10, .slice none 0 0]) ?_ 1 _ rfl; (with_reducible repeat (first | refine blk_drewN ?_ _ | refine blk_drew ?_ | refine blk_alloc ?_ _)); refine blk_put (cs := #[.int .i64 0, .slice none 0 0]) ?_ 0 _ rfl; (with_reducible repeat (first | refine blk_drewN ?_ _ | refine blk_drew ?_ | refine blk_alloc ?_ _)); refine blk_far ?_ NB675_686.out _; (with_reducible repeat (first | refine blk_drewN ?_ _ | refine blk_drew ?_ | refine blk_alloc ?_ _)); refine blk_far ?_ NB675_686.out _; (with_reducible repeat (first | refine blk_drewN ?_ _ | refine blk_drew ?_ | refine blk_alloc ?_ _)); refine blk_far ?_ NB675_686.out _; (with_reducible repeat (first | refine blk_drewN ?_ _ | refine blk_drew ?_ | refine blk_alloc ?_ _)); refine blk_far ?_ NB675_686.out _; (with_reducible repeat (first | refine blk_drewN ?_ _ | refine blk_drew ?_ | refine blk_alloc ?_ _)); refine blk_far ?_ NB675_686.out _; (with_reducible repeat (first | refine blk_drewN ?_ _ | refine blk_drew ?_ | refine blk_alloc ?_ _)); refine blk_far ?_ NB675_686.out _; (with_reducible repeat (first | refine blk_drewN ?_ _ | refine blk_drew ?_ | refine blk_alloc ?_ _)); refine blk_far ?_ NB675_686.out _; (with_reducible repeat (first | refine blk_drewN ?_ _ | refine blk_drew ?_ | refine blk_alloc ?_ _)); refine blk_far ?_ NB675_686.out _; (with_reducible repeat (first | refine blk_drewN ?_ _ | refine blk_drew ?_ | refine blk_alloc ?_ _)); exact BK675.out) Try.underlying29 rfl (by kernel_rfl)) rfl ?_
   exact ⟨_, by first | rfl | (simp [errW_none, errW_some] <;> rfl) | (simp [*, errW_none, errW_some] <;> rfl), by first | exact Kd.R_nil _ _ _ _ _ | exact Kd.N_nil _ _ _ _ _ | exact Kd.V_nil _ _ _ _ _ | exact Kd.Q_nil _ _ _ _ _ | exact Kd.S_nil _ _ _ _ _, by repeat (first | (with_reducible first | exact HB.out | apply below_alloc | apply pw_below_drewN | apply below_drew1 | refine below_set ?_ GE675.out | refine below_set ?_ GE686.out) | exact HB.out)⟩
  ·rw [if_neg c4] at H
   have c4b0 : (t680 == 1) = false := beq_eq_false_iff_ne.mpr c4
   have c4b1 : (t680 != 1) = true := bne_iff_ne.mpr c4
   replace H := Option.bind_eq_some_iff.mp H
   obtain ⟨⟨t687, t688, t689, t690, t691, t692, t693⟩, A120, H⟩ := H
   try dsimp only at H
   have A12 := Aside0.mk A120
   clear A120
   replace H := Option.bind_eq_some_iff.mp H
   obtain ⟨t696, A130, H⟩ := H
   try dsimp only at H
   have A13 := Aside0.mk A130
   clear A130
   simp only [Option.some.injEq, Prod.mk.injEq] at H
   obtain ⟨rfl, rfl⟩ := H
   go_enter Try.func24, Try.ntmps24
   go_wp2_with (first | ((with_reducible refine gate_dst (N := 2) rfl ?_); refine box_event ?hg (N := 2) ?hd (cs := #[.int .i64 0, .slice none 0 0]) (t := 29) ?hr ?_; (case hd => rfl); (case hg => rfl); (case hr => first | (go_simp; done) | (go_simp; rfl)); intro gb675 hg w14 hbox hb; have n0_ := Aside0.mk (below_step (by repeat (first | (with_reducible first | exact HB.out | apply below_alloc | apply pw_below_drewN | apply below_drew1) | exact HB.out)) hb); have n1_ := Aside0.mk (hbox); have n2_ := Aside0.mk ((by rw [hg]; exact (below_size (by repeat (first | (with_reducible first | exact HB.out | apply below_alloc | apply pw_below_drewN | apply below_drew1) | exact HB.out))) : w.heap.size ≤ gb675)); have n3_ := Aside0.mk ((by rw [hg]; exact (below_size (by repeat (first | (with_reducible first | exact HB.out | apply below_alloc | apply pw_below_drewN | apply below_drew1) | exact HB.out))) : w.heap.size ≤ gb675)); clear HB; have HB := n0_; have BK675 := n1_; have GW675 := n2_; have GE675 := n3_; clear n0_ n1_ n2_ n3_; clear hb hbox hg) | ((with_reducible refine gate_callee (f := 17) rfl ?_); refine goesL_ (some 5) rfl rfl Try.func17 (by kernel_rfl) rfl #[.slice A0 l0.length c0] rfl (by (try simp only [List.map_toArray, List.map_cons, List.map_nil]); first | done | rfl | (simp only [List.length_drop, List.length_take]; rfl)) ?_; (with_reducible refine (impl_ParsePacket.calls k _ _ l0 t676 t677 t678 t679 t680 t681 t682 t683 _ ?side1 ?side2 A2.out).mono ?_); (case side1 => repeat (first | exact (Kd.C_below HR0.out HB.out) | (with_reducible refine Kd.C_alloc ?_ _) | (with_reducible refine Kd.C_drewN ?_ _) | (with_reducible refine Kd.C_drew ?_))); (case side2 => exact HC0.out); rintro e w15 ⟨v684, rfl, ho0, hb⟩; refine ⟨_, rfl, ?_⟩; have n0_ := Aside0.mk (Kd.R_lower ho0 (below_size (by repeat (first | (with_reducible first | exact HB.out | apply below_alloc | apply pw_below_drewN | apply below_drew1 | refine below_set ?_ GE675.out) | exact HB.out)))); have n1_ := Aside0.mk (blk_below (g := gb675) (o := .cells #[.int .i64 0, .slice none 0 0] 29 (0, 0)) (by (with_reducible repeat (first | refine blk_drewN ?_ _ | refine blk_drew ?_ | refine blk_alloc ?_ _)); exact BK675.out) hb); have n2_ := Aside0.mk (below_step (by repeat (first | (with_reducible first | exact HB.out | apply below_alloc | apply pw_below_drewN | apply below_drew1 | refine below_set ?_ GE675.out) | exact HB.out)) hb); clear BK675; clear HB; have HO685 := n0_; have BK675 := n1_; have HB := n2_; clear n0_ n1_ n2_; (try clear hb); (try clear hb2); (try clear hk); (try clear hi); (try clear ho0)) | ((with_reducible refine gate_dst (N := 3) rfl ?_); refine box_event ?hg (N := 3) ?hd (cs := #[.int .i64 0, .int .i64 0, .int .i64 0, .int .i64 0, .int .i64 0, .int .i64 0, .int .i64 0, .slice none 0 0]) (t := 36) ?hr ?_; (case hd => rfl); (case hg => rfl); (case hr => first | (go_simp; done) | (go_simp; rfl)); intro gb686 hg w16 hbox hb; have n0_ := Aside0.mk (Kd.R_below (by (with_reducible repeat (first | apply Kd.R_alloc | apply Kd.R_drewN | apply Kd.R_drew)); exact HO685.out) hb); have n1_ := Aside0.mk (blk_below (g := gb675) (o := .cells #[.int .i64 0, .slice none 0 0] 29 (0, 0)) (by (with_reducible repeat (first | refine blk_drewN ?_ _ | refine blk_drew ?_ | refine blk_alloc ?_ _)); exact BK675.out) hb); have n2_ := Aside0.mk (below_step (by repeat (first | (with_reducible first | exact HB.out | apply below_alloc | apply pw_below_drewN | apply below_drew1 | refine below_set ?_ GE675.out) | exact HB.out)) hb); have n3_ := Aside0.mk (hbox); have n4_ := Aside0.mk ((by rw [hg]; exact (below_size (by repeat (first | (with_reducible first | exact HB.out | apply below_alloc | apply pw_below_drewN | apply below_drew1 | refine below_set ?_ GE675.out) | exact HB.out))) : w.heap.size ≤ gb686)); have n5_ := Aside0.mk ((by rw [hg]; exact (below_size (by repeat (first | (with_reducible first | exact HB.out | apply below_alloc | apply pw_below_drewN | apply below_drew1 | refine below_set ?_ GE675.out) | exact HB.out))) : w.heap.size ≤ gb686)); have n6_ := Aside0.mk ((by rw [hg]; exact Nat.ne_of_lt (blk_lt (g := gb675) (o := .cells #[.int .i64 0, .slice none 0 0] 29 (0, 0)) (by (with_reducible repeat (first | refine blk_drewN ?_ _ | refine blk_drew ?_ | refine blk_alloc ?_ _)); exact BK675.out)) : gb675 ≠ gb686)); have n7_ := Aside0.mk ((by rw [hg]; exact Nat.ne_of_gt (blk_lt (g := gb675) (o := .cells #[.int .i64 0, .slice none 0 0] 29 (0, 0)) (by (with_reducible repeat (first | refine blk_drewN ?_ _ | refine blk_drew ?_ | refine blk_alloc ?_ _)); exact BK675.out)) : gb686 ≠ gb675)); clear HO685; clear BK675; clear HB; have HO685 := n0_; have BK675 := n1_; have HB := n2_; have BK686 := n3_; have GW686 := n4_; have GE686 := n5_; have NB675_686 := n6_; have NB686_675 := n7_; clear n0_ n1_ n2_ n3_ n4_ n5_ n6_ n7_; clear hb hbox hg; have hnb17 := NB686_675.out; have hnc17 := NB675_686.out; have hcz18_0 : w16.cell? ⟨gb686, 0, none⟩ = some (.int .i64 0) := (blk_cell BK686.out 0).trans rfl; have hcz18_1 : w16.cell? ⟨gb686, 1, none⟩ = some (.int .i64 0) := (blk_cell BK686.out 1).trans rfl; have hcz18_2 : w16.cell? ⟨gb686, 2, none⟩ = some (.int .i64 0) := (blk_cell BK686.out 2).trans rfl; have hcz18_3 : w16.cell? ⟨gb686, 3, none⟩ = some (.int .i64 0) := (blk_cell BK686.out 3).trans rfl; have hcz18_4 : w16.cell? ⟨gb686, 4, none⟩ = some (.int .i64 0) := (blk_cell BK686.out 4).trans rfl; have hcz18_5 : w16.cell? ⟨gb686, 5, none⟩ = some (.int .i64 0) := (blk_cell BK686.out 5).trans rfl; have hcz18_6 : w16.cell? ⟨gb686, 6, none⟩ = some (.int .i64 0) := (blk_cell BK686.out 6).trans rfl; have hcz18_7 : w16.cell? ⟨gb686, 7, none⟩ = some (.slice none 0 0) := (blk_cell BK686.out 7).trans rfl; have hfz18_0 := blk_frozen BK686.out 0; have hfz18_1 := blk_frozen BK686.out 1; have hfz18_2 := blk_frozen BK686.out 2; have hfz18_3 := blk_frozen BK686.out 3; have hfz18_4 := blk_frozen BK686.out 4; have hfz18_5 := blk_frozen BK686.out 5; have hfz18_6 := blk_frozen BK686.out 6; have hfz18_7 := blk_frozen BK686.out 7; obtain ⟨Ao19, co19, eo19⟩ := Kd.R_slice HO685.out; subst eo19) | ((with_reducible refine gate_store (t := 36) (p := 3) rfl ?_); refine store_event (t := 36) (p := 3) (v := ?vo_w20) (w1 := ((((((((w16.setCell ⟨gb686, 0, none⟩ (.int .i64 t676)).setCell ⟨gb686, 1, none⟩ (.int .i64 t677)).setCell ⟨gb686, 2, none⟩ (.int .i64 t678)).setCell ⟨gb686, 3, none⟩ (.int .i64 t679)).setCell ⟨gb686, 4, none⟩ (.int .i64 t680)).setCell ⟨gb686, 5, none⟩ (.int .i64 t681)).setCell ⟨gb686, 6, none⟩ (.int .i64 t682)).setCell ⟨gb686, 7, none⟩ (.slice Ao19 t683.length co19))) ?hg ?ho ?hn ?hr ?_; (case ho => rfl); (case hg => rfl); (case hn => rfl); (case hr => first | (go_simp; done) | (go_simp; rfl)); intro w20 hw; have n0_ : Aside0 (Kd.R (Kd.int .u8) 5 w20 w.heap.size (fun _ => True) (.slice Ao19 t683.length co19) t683) := ⟨(by rw [hw]; exact (by (with_reducible repeat (first | apply Kd.R_alloc | apply Kd.R_drewN | apply Kd.R_drew)); exact Kd.R_mono (Kd.R_far (p := ⟨gb686, 7, none⟩) (Kd.R_far (p := ⟨gb686, 6, none⟩) (Kd.R_far (p := ⟨gb686, 5, none⟩) (Kd.R_far (p := ⟨gb686, 4, none⟩) (Kd.R_far (p := ⟨gb686, 3, none⟩) (Kd.R_far (p := ⟨gb686, 2, none⟩) (Kd.R_far (p := ⟨gb686, 1, none⟩) (Kd.R_far (p := ⟨gb686, 0, none⟩) (Kd.R_types HO685.out BK686.out (by decide)) (fun _ hk => hk.2) (.int .i64 t676)) (fun _ hk => hk.2) (.int .i64 t677)) (fun _ hk => hk.2) (.int .i64 t678)) (fun _ hk => hk.2) (.int .i64 t679)) (fun _ hk => hk.2) (.int .i64 t680)) (fun _ hk => hk.2) (.int .i64 t681)) (fun _ hk => hk.2) (.int .i64 t682)) (fun _ hk => hk.2) (.slice Ao19 t683.length co19)) (fun _ hk => trivial)))⟩; have n1_ : Aside0 (w20.heap[gb675]? = some (.cells #[.int .i64 0, .slice none 0 0] 29 (0, 0))) := ⟨(by rw [hw]; exact (by (with_reducible repeat (first | refine blk_drewN ?_ _ | refine blk_drew ?_ | refine blk_alloc ?_ _)); refine blk_far ?_ NB675_686.out _; (with_reducible repeat (first | refine blk_drewN ?_ _ | refine blk_drew ?_ | refine blk_alloc ?_ _)); refine blk_far ?_ NB675_686.out _; (with_reducible repeat (first | refine blk_drewN ?_ _ | refine blk_drew ?_ | refine blk_alloc ?_ _)); refine blk_far ?_ NB675_686.out _; (with_reducible repeat (first | refine blk_drewN ?_ _ | refine blk_drew ?_ | refine blk_alloc ?_ _)); refine blk_far ?_ NB675_686.out _; (with_reducible repeat (first | refine blk_drewN ?_ _ | refine blk_drew ?_ | refine blk_alloc ?_ _)); refine blk_far ?_ NB675_686.out _; (with_reducible repeat (first | refine blk_drewN ?_ _ | refine blk_drew ?_ | refine blk_alloc ?_ _)); refine blk_far ?_ NB675_686.out _; (with_reducible repeat (first | refine blk_drewN ?_ _ | refine blk_drew ?_ | refine blk_alloc ?_ _)); refine blk_far ?_ NB675_686.out _; (with_reducible repeat (first | refine blk_drewN ?_ _ | refine blk_drew ?_ | refine blk_alloc ?_ _)); refine blk_far ?_ NB675_686.out _; (with_reducible repeat (first | refine blk_drewN ?_ _ | refine blk_drew ?_ | refine blk_alloc ?_ _)); exact BK675.out))⟩; have n2_ : Aside0 (w20.heap[gb686]? = some (.cells #[.int .i64 t676, .int .i64 t677, .int .i64 t678, .int .i64 t679, .int .i64 t680, .int .i64 t681, .int .i64 t682, .slice Ao19 t683.length co19] 36 (0, 0))) := ⟨(by rw [hw]; exact (by (with_reducible repeat (first | refine blk_drewN ?_ _ | refine blk_drew ?_ | refine blk_alloc ?_ _)); refine blk_put (cs := #[.int .i64 t676, .int .i64 t677, .int .i64 t678, .int .i64 t679, .int .i64 t680, .int .i64 t681, .int .i64 t682, .slice none 0 0]) ?_ 7 _ rfl; (with_reducible repeat (first | refine blk_drewN ?_ _ | refine blk_drew ?_ | refine blk_alloc ?_ _)); refine blk_put (cs := #[.int .i64 t676, .int .i64 t677, .int .i64 t678, .int .i64 t679, .int .i64 t680, .int .i64 t681, .int .i64 0, .slice none 0 0]) ?_ 6 _ rfl; (with_reducible repeat (first | refine blk_drewN ?_ _ | refine blk_drew ?_ | refine blk_alloc ?_ _)); refine blk_put (cs := #[.int .i64 t676, .int .i64 t677, .int .i64 t678, .int .i64 t679, .int .i64 t680, .int .i64 0, .int .i64 0, .slice none 0 0]) ?_ 5 _ rfl; (with_reducible repeat (first | refine blk_drewN ?_ _ | refine blk_drew ?_ | refine blk_alloc ?_ _)); refine blk_put (cs := #[.int .i64 t676, .int .i64 t677, .int .i64 t678, .int .i64 t679, .int .i64 0, .int .i64 0, .int .i64 0, .slice none 0 0]) ?_ 4 _ rfl; (with_reducible repeat (first | refine blk_drewN ?_ _ | refine blk_drew ?_ | refine blk_alloc ?_ _)); refine blk_put (cs := #[.int .i64 t676, .int .i64 t677, .int .i64 t678, .int .i64 0, .int .i64 0, .int .i64 0, .int .i64 0, .slice none 0 0]) ?_ 3 _ rfl; (with_reducible repeat (first | refine blk_drewN ?_ _ | refine blk_drew ?_ | refine blk_alloc ?_ _)); refine blk_put (cs := #[.int .i64 t676, .int .i64 t677, .int .i64 0, .int .i64 0, .int .i64 0, .int .i64 0, .int .i64 0, .slice none 0 0]) ?_ 2 _ rfl; (with_reducible repeat (first | refine blk_drewN ?_ _ | refine blk_drew ?_ | refine blk_alloc ?_ _)); refine blk_put (cs := #[.int .i64 t676, .int .i64 0, .int .i64 0, .int .i64 0, .int .i64 0, .int .i64 0, .int .i64 0, .slice none 0 0]) ?_ 1 _ rfl; (with_reducible repeat (first | refine blk_drewN ?_ _ | refine blk_drew ?_ | refine blk_alloc ?_ _)); refine blk_put (cs := #[.int .i64 0, .int .i64 0, .int .i64 0, .int .i64 0, .int .i64 0, .int .i64 0, .int .i64 0, .slice none 0 0]) ?_ 0 _ rfl; (with_reducible repeat (first | refine blk_drewN ?_ _ | refine blk_drew ?_ | refine blk_alloc ?_ _)); exact BK686.out))⟩; have n3_ : Aside0 (Below w.heap.size w w20) := ⟨(by rw [hw]; exact (by repeat (first | (with_reducible first | exact HB.out | apply below_alloc | apply pw_below_drewN | apply below_drew1 | refine below_set ?_ GE675.out | refine below_set ?_ GE686.out) | exact HB.out)))⟩; clear hw; clear HO685; clear BK675; clear BK686; clear HB; have HO685 := n0_; have BK675 := n1_; have BK686 := n2_; have HB := n3_; clear n0_ n1_ n2_ n3_; have hcz21_0 : w20.cell? ⟨gb686, 0, none⟩ = some (.int .i64 t676) := (blk_cell BK686.out 0).trans rfl; have hcz21_1 : w20.cell? ⟨gb686, 1, none⟩ = some (.int .i64 t677) := (blk_cell BK686.out 1).trans rfl; have hcz21_2 : w20.cell? ⟨gb686, 2, none⟩ = some (.int .i64 t678) := (blk_cell BK686.out 2).trans rfl; have hcz21_3 : w20.cell? ⟨gb686, 3, none⟩ = some (.int .i64 t679) := (blk_cell BK686.out 3).trans rfl; have hcz21_4 : w20.cell? ⟨gb686, 4, none⟩ = some (.int .i64 t680) := (blk_cell BK686.out 4).trans rfl; have hcz21_5 : w20.cell? ⟨gb686, 5, none⟩ = some (.int .i64 t681) := (blk_cell BK686.out 5).trans rfl; have hcz21_6 : w20.cell? ⟨gb686, 6, none⟩ = some (.int .i64 t682) := (blk_cell BK686.out 6).trans rfl; have hcz21_7 : w20.cell? ⟨gb686, 7, none⟩ = some (.slice Ao19 t683.length co19) := (blk_cell BK686.out 7).trans rfl; have hfz21_0 := blk_frozen BK686.out 0; have hfz21_1 := blk_frozen BK686.out 1; have hfz21_2 := blk_frozen BK686.out 2; have hfz21_3 := blk_frozen BK686.out 3; have hfz21_4 := blk_frozen BK686.out 4; have hfz21_5 := blk_frozen BK686.out 5; have hfz21_6 := blk_frozen BK686.out 6; have hfz21_7 := blk_frozen BK686.out 7) | ((with_reducible refine gate_callee (f := 63) rfl ?_); refine goesL_ (some 21) rfl rfl Try.func63 (by kernel_rfl) rfl #[.agg #[.int .i64 t677, .int .i64 t678, .int .i64 t679, .int .i64 t680, .int .i64 t681, .int .i64 t682, .slice Ao19 t683.length co19]] rfl (by (try simp only [List.map_toArray, List.map_cons, List.map_nil]); first | done | rfl | (simp only [List.length_drop, List.length_take]; rfl)) ?_; (with_reducible refine (impl_nearer.calls t677 t678 t679 t680 t681 t682 (fun k_ => some k_ = (.slice Ao19 t683.length co19 : Value).ownBlock) (.slice Ao19 t683.length co19) t683 t687 t688 t689 t690 t691 t692 t693 w _ ?side1 ?side2 A12.out).mono ?_); (case side1 => repeat (first | (with_reducible first | exact HB.out | apply below_alloc | apply pw_below_drewN | apply below_drew1 | refine below_set ?_ GE675.out | refine below_set ?_ GE686.out) | exact HB.out)); (case side2 => exact Kd.R_tight rfl HO685.out); rintro e w22 ⟨v694, rfl, ho0, hb, hkp⟩; refine ⟨_, rfl, ?_⟩; have n0_ := Aside0.mk (blk_kept (by (with_reducible repeat (first | refine blk_drewN ?_ _ | refine blk_drew ?_ | refine blk_alloc ?_ _)); exact BK675.out) hkp (fun hs_ => (fun e_ => (Kd.R_ne HO685.out BK675.out (by decide)) e_) hs_)); have n1_ := Aside0.mk (blk_kept (by (with_reducible repeat (first | refine blk_drewN ?_ _ | refine blk_drew ?_ | refine blk_alloc ?_ _)); exact BK686.out) hkp (fun hs_ => (fun e_ => (Kd.R_ne HO685.out BK686.out (by decide)) e_) hs_)); have n2_ := Aside0.mk (Kd.R_mono (ok' := fun k_ => True) ho0 (fun k_ hk_ => trivial)); have n3_ := Aside0.mk (hb); clear BK675; clear BK686; clear HB; clear HO685; have BK675 := n0_; have BK686 := n1_; have HO695 := n2_; have HB := n3_; clear n0_ n1_ n2_ n3_; (try clear hb); (try clear hkp); (try clear ho0); obtain ⟨Ao23, co23, eo23⟩ := Kd.R_slice HO695.out; subst eo23) | ((with_reducible refine gate_callee (f := 62) rfl ?_); refine goesL_ (some 22) rfl rfl Try.func62 (by kernel_rfl) rfl #[.agg #[.int .i64 t687, .int .i64 t688, .int .i64 t689, .int .i64 t690, .int .i64 t691, .int .i64 t692, .slice Ao23 t693.length co23]] rfl (by (try simp only [List.map_toArray, List.map_cons, List.map_nil]); first | done | rfl | (simp only [List.length_drop, List.length_take]; rfl)) ?_; (with_reducible refine (impl_build.calls k t687 t688 t689 t690 t691 t692 _ _ t693 t696 _ ?side1 ?side2 A13.out).mono ?_); (case side1 => repeat (first | exact (Kd.R_reads' HO695.out).2.2 | (with_reducible refine Kd.C_alloc ?_ _) | (with_reducible refine Kd.C_drewN ?_ _) | (with_reducible refine Kd.C_drew ?_))); (case side2 => exact (Kd.R_reads' HO695.out).2.1); rintro e w24 ⟨v697, rfl, ho0, hb⟩; refine ⟨_, rfl, ?_⟩; have n0_ := Aside0.mk (Kd.R_elder' (by (with_reducible repeat (first | apply Kd.R_alloc | apply Kd.R_drewN | apply Kd.R_drew)); exact HO695.out) (Kd.R_base ho0) hb); have n1_ := Aside0.mk (Kd.R_lower (Kd.R_new' ho0 (Kd.R_lt (by (with_reducible repeat (first | apply Kd.R_alloc | apply Kd.R_drewN | apply Kd.R_drew)); exact HO695.out))) (below_size (by repeat (first | (with_reducible first | exact HB.out | apply below_alloc | apply pw_below_drewN | apply below_drew1 | refine below_set ?_ GE675.out | refine below_set ?_ GE686.out) | exact HB.out)))); have n2_ := Aside0.mk (blk_below (g := gb675) (o := .cells #[.int .i64 0, .slice none 0 0] 29 (0, 0)) (by (with_reducible repeat (first | refine blk_drewN ?_ _ | refine blk_drew ?_ | refine blk_alloc ?_ _)); exact BK675.out) hb); have n3_ := Aside0.mk (blk_below (g := gb686) (o := .cells #[.int .i64 t676, .int .i64 t677, .int .i64 t678, .int .i64 t679, .int .i64 t680, .int .i64 t681, .int .i64 t682, .slice Ao19 t683.length co19] 36 (0, 0)) (by (with_reducible repeat (first | refine blk_drewN ?_ _ | refine blk_drew ?_ | refine blk_alloc ?_ _)); exact BK686.out) hb); have n4_ := Aside0.mk (below_step (by repeat (first | (with_reducible first | exact HB.out | apply below_alloc | apply pw_below_drewN | apply below_drew1 | refine below_set ?_ GE675.out | refine below_set ?_ GE686.out) | exact HB.out)) hb); clear HO695; clear BK675; clear BK686; clear HB; have HO695 := n0_; have HO698 := n1_; have BK675 := n2_; have BK686 := n3_; have HB := n4_; clear n0_ n1_ n2_ n3_ n4_; (try clear hb); (try clear hb2); (try clear hk); (try clear hi); (try clear ho0); obtain ⟨Ao25, co25, eo25⟩ := Kd.R_slice HO698.out; subst eo25; have hcz26_0 : w24.cell? ⟨gb675, 0, none⟩ = some (.int .i64 0) := (blk_cell BK675.out 0).trans rfl; have hcz26_1 : w24.cell? ⟨gb675, 1, none⟩ = some (.slice none 0 0) := (blk_cell BK675.out 1).trans rfl; have hfz26_0 := blk_frozen BK675.out 0; have hfz26_1 := blk_frozen BK675.out 1))
   refine bodyPost_ret (results_cell_row rfl _ _ gb675 29 #[.int .i64 0, .slice Ao25 t696.length co25] (0, 0) _ rfl (by (with_reducible repeat (first | refine blk_drewN ?_ _ | refine blk_drew ?_ | refine blk_alloc ?_ _)); refine blk_put (cs := #[.int .i64 0, .slice none 0 0]) ?_ 1 _ rfl; (with_reducible repeat (first | refine blk_drewN ?_ _ | refine blk_drew ?_ | refine blk_alloc ?_ _)); refine blk_put (cs := #[.int .i64 0, .slice none 0 0]) ?_ 0 _ rfl; (with_reducible repeat (first | refine blk_drewN ?_ _ | refine blk_drew ?_ | refine blk_alloc ?_ _)); exact BK675.out) Try.underlying29 rfl (by kernel_rfl)) rfl ?_
   exact ⟨_, by first | rfl | (simp [errW_none, errW_some] <;> rfl) | (simp [*, errW_none, errW_some] <;> rfl), by (with_reducible repeat (first | apply Kd.R_alloc | apply Kd.R_drewN | apply Kd.R_drew)); exact Kd.R_mono (Kd.R_far (p := ⟨gb675, 1, none⟩) (Kd.R_far (p := ⟨gb675, 0, none⟩) (Kd.R_types HO698.out BK675.out (by decide)) (fun _ hk => hk.2) (.int .i64 0)) (fun _ hk => hk.2) (.slice Ao25 t696.length co25)) (fun _ hk => trivial), by repeat (first | (with_reducible first | exact HB.out | apply below_alloc | apply pw_below_drewN | apply below_drew1 | refine below_set ?_ GE675.out | refine below_set ?_ GE686.out) | exact HB.out)⟩
 ·rw [if_neg c3] at H
  have c3b0 : (t676 == 0) = false := beq_eq_false_iff_ne.mpr c3
  have c3b1 : (t676 != 0) = true := bne_iff_ne.mpr c3
  simp only [Option.some.injEq, Prod.mk.injEq] at H
  obtain ⟨rfl, rfl⟩ := H
  go_enter Try.func24, Try.ntmps24
  go_wp2_with (first | ((with_reducible refine gate_dst (N := 2) rfl ?_); refine box_event ?hg (N := 2) ?hd (cs := #[.int .i64 0, .slice none 0 0]) (t := 29) ?hr ?_; (case hd => rfl); (case hg => rfl); (case hr => first | (go_simp; done) | (go_simp; rfl)); intro gb675 hg w27 hbox hb; have n0_ := Aside0.mk (below_step (by repeat (first | (with_reducible first | exact HB.out | apply below_alloc | apply pw_below_drewN | apply below_drew1) | exact HB.out)) hb); have n1_ := Aside0.mk (hbox); have n2_ := Aside0.mk ((by rw [hg]; exact (below_size (by repeat (first | (with_reducible first | exact HB.out | apply below_alloc | apply pw_below_drewN | apply below_drew1) | exact HB.out))) : w.heap.size ≤ gb675)); have n3_ := Aside0.mk ((by rw [hg]; exact (below_size (by repeat (first | (with_reducible first | exact HB.out | apply below_alloc | apply pw_below_drewN | apply below_drew1) | exact HB.out))) : w.heap.size ≤ gb675)); clear HB; have HB := n0_; have BK675 := n1_; have GW675 := n2_; have GE675 := n3_; clear n0_ n1_ n2_ n3_; clear hb hbox hg) | ((with_reducible refine gate_callee (f := 17) rfl ?_); refine goesL_ (some 5) rfl rfl Try.func17 (by kernel_rfl) rfl #[.slice A0 l0.length c0] rfl (by (try simp only [List.map_toArray, List.map_cons, List.map_nil]); first | done | rfl | (simp only [List.length_drop, List.length_take]; rfl)) ?_; (with_reducible refine (impl_ParsePacket.calls k _ _ l0 t676 t677 t678 t679 t680 t681 t682 t683 _ ?side1 ?side2 A2.out).mono ?_); (case side1 => repeat (first | exact (Kd.C_below HR0.out HB.out) | (with_reducible refine Kd.C_alloc ?_ _) | (with_reducible refine Kd.C_drewN ?_ _) | (with_reducible refine Kd.C_drew ?_))); (case side2 => exact HC0.out); rintro e w28 ⟨v684, rfl, ho0, hb⟩; refine ⟨_, rfl, ?_⟩; have n0_ := Aside0.mk (Kd.R_lower ho0 (below_size (by repeat (first | (with_reducible first | exact HB.out | apply below_alloc | apply pw_below_drewN | apply below_drew1 | refine below_set ?_ GE675.out) | exact HB.out)))); have n1_ := Aside0.mk (blk_below (g := gb675) (o := .cells #[.int .i64 0, .slice none 0 0] 29 (0, 0)) (by (with_reducible repeat (first | refine blk_drewN ?_ _ | refine blk_drew ?_ | refine blk_alloc ?_ _)); exact BK675.out) hb); have n2_ := Aside0.mk (below_step (by repeat (first | (with_reducible first | exact HB.out | apply below_alloc | apply pw_below_drewN | apply below_drew1 | refine below_set ?_ GE675.out) | exact HB.out)) hb); clear BK675; clear HB; have HO685 := n0_; have BK675 := n1_; have HB := n2_; clear n0_ n1_ n2_; (try clear hb); (try clear hb2); (try clear hk); (try clear hi); (try clear ho0)) | ((with_reducible refine gate_dst (N := 3) rfl ?_); refine box_event ?hg (N := 3) ?hd (cs := #[.int .i64 0, .int .i64 0, .int .i64 0, .int .i64 0, .int .i64 0, .int .i64 0, .int .i64 0, .slice none 0 0]) (t := 36) ?hr ?_; (case hd => rfl); (case hg => rfl); (case hr => first | (go_simp; done) | (go_simp; rfl)); intro gb686 hg w29 hbox hb; have n0_ := Aside0.mk (Kd.R_below (by (with_reducible repeat (first | apply Kd.R_alloc | apply Kd.R_drewN | apply Kd.R_drew)); exact HO685.out) hb); have n1_ := Aside0.mk (blk_below (g := gb675) (o := .cells #[.int .i64 0, .slice none 0 0] 29 (0, 0)) (by (with_reducible repeat (first | refine blk_drewN ?_ _ | refine blk_drew ?_ | refine blk_alloc ?_ _)); exact BK675.out) hb); have n2_ := Aside0.mk (below_step (by repeat (first | (with_reducible first | exact HB.out | apply below_alloc | apply pw_below_drewN | apply below_drew1 | refine below_set ?_ GE675.out) | exact HB.out)) hb); have n3_ := Aside0.mk (hbox); have n4_ := Aside0.mk ((by rw [hg]; exact (below_size (by repeat (first | (with_reducible first | exact HB.out | apply below_alloc | apply pw_below_drewN | apply below_drew1 | refine below_set ?_ GE675.out) | exact HB.out))) : w.heap.size ≤ gb686)); have n5_ := Aside0.mk ((by rw [hg]; exact (below_size (by repeat (first | (with_reducible first | exact HB.out | apply below_alloc | apply pw_below_drewN | apply below_drew1 | refine below_set ?_ GE675.out) | exact HB.out))) : w.heap.size ≤ gb686)); have n6_ := Aside0.mk ((by rw [hg]; exact Nat.ne_of_lt (blk_lt (g := gb675) (o := .cells #[.int .i64 0, .slice none 0 0] 29 (0, 0)) (by (with_reducible repeat (first | refine blk_drewN ?_ _ | refine blk_drew ?_ | refine blk_alloc ?_ _)); exact BK675.out)) : gb675 ≠ gb686)); have n7_ := Aside0.mk ((by rw [hg]; exact Nat.ne_of_gt (blk_lt (g := gb675) (o := .cells #[.int .i64 0, .slice none 0 0] 29 (0, 0)) (by (with_reducible repeat (first | refine blk_drewN ?_ _ | refine blk_drew ?_ | refine blk_alloc ?_ _)); exact BK675.out)) : gb686 ≠ gb675)); clear HO685; clear BK675; clear HB; have HO685 := n0_; have BK675 := n1_; have HB := n2_; have BK686 := n3_; have GW686 := n4_; have GE686 := n5_; have NB675_686 := n6_; have NB686_675 := n7_; clear n0_ n1_ n2_ n3_ n4_ n5_ n6_ n7_; clear hb hbox hg; have hnb30 := NB686_675.out; have hnc30 := NB675_686.out; have hcz31_0 : w29.cell? ⟨gb686, 0, none⟩ = some (.int .i64 0) := (blk_cell BK686.out 0).trans rfl; have hcz31_1 : w29.cell? ⟨gb686, 1, none⟩ = some (.int .i64 0) := (blk_cell BK686.out 1).trans rfl; have hcz31_2 : w29.cell? ⟨gb686, 2, none⟩ = some (.int .i64 0) := (blk_cell BK686.out 2).trans rfl; have hcz31_3 : w29.cell? ⟨gb686, 3, none⟩ = some (.int .i64 0) := (blk_cell BK686.out 3).trans rfl; have hcz31_4 : w29.cell? ⟨gb686, 4, none⟩ = some (.int .i64 0) := (blk_cell BK686.out 4).trans rfl; have hcz31_5 : w29.cell? ⟨gb686, 5, none⟩ = some (.int .i64 0) := (blk_cell BK686.out 5).trans rfl; have hcz31_6 : w29.cell? ⟨gb686, 6, none⟩ = some (.int .i64 0) := (blk_cell BK686.out 6).trans rfl; have hcz31_7 : w29.cell? ⟨gb686, 7, none⟩ = some (.slice none 0 0) := (blk_cell BK686.out 7).trans rfl; have hfz31_0 := blk_frozen BK686.out 0; have hfz31_1 := blk_frozen BK686.out 1; have hfz31_2 := blk_frozen BK686.out 2; have hfz31_3 := blk_frozen BK686.out 3; have hfz31_4 := blk_frozen BK686.out 4; have hfz31_5 := blk_frozen BK686.out 5; have hfz31_6 := blk_frozen BK686.out 6; have hfz31_7 := blk_frozen BK686.out 7; obtain ⟨Ao32, co32, eo32⟩ := Kd.R_slice HO685.out; subst eo32; have hcz33_0 : w29.cell? ⟨gb675, 0, none⟩ = some (.int .i64 0) := (blk_cell BK675.out 0).trans rfl; have hcz33_1 : w29.cell? ⟨gb675, 1, none⟩ = some (.slice none 0 0) := (blk_cell BK675.out 1).trans rfl; have hfz33_0 := blk_frozen BK675.out 0; have hfz33_1 := blk_frozen BK675.out 1))
  refine bodyPost_ret (results_cell_row rfl _ _ gb675 29 #[.int .i64 t676, .slice none 0 0] (0, 0) _ rfl (by (with_reducible repeat (first | refine blk_drewN ?_ _ | refine blk_drew ?_ | refine blk_alloc ?_ _)); refine blk_put (cs := #[.int .i64 t676, .slice none 0 0]) ?_ 1 _ rfl; (with_reducible repeat (first | refine blk_drewN ?_ _ | refine blk_drew ?_ | refine blk_alloc ?_ _)); refine blk_put (cs := #[.int .i64 0, .slice none 0 0]) ?_ 0 _ rfl; (with_reducible repeat (first | refine blk_drewN ?_ _ | refine blk_drew ?_ | refine blk_alloc ?_ _)); refine blk_far ?_ NB675_686.out _; (with_reducible repeat (first | refine blk_drewN ?_ _ | refine blk_drew ?_ | refine blk_alloc ?_ _)); refine blk_far ?_ NB675_686.out _; (with_reducible repeat (first | refine blk_drewN ?_ _ | refine blk_drew ?_ | refine blk_alloc ?_ _)); refine blk_far ?_ NB675_686.out _; (with_reducible repeat (first | refine blk_drewN ?_ _ | refine blk_drew ?_ | refine blk_alloc ?_ _)); refine blk_far ?_ NB675_686.out _; (with_reducible repeat (first | refine blk_drewN ?_ _ | refine blk_drew ?_ | refine blk_alloc ?_ _)); refine blk_far ?_ NB675_686.out _; (with_reducible repeat (first | refine blk_drewN ?_ _ | refine blk_drew ?_ | refine blk_alloc ?_ _)); refine blk_far ?_ NB675_686.out _; (with_reducible repeat (first | refine blk_drewN ?_ _ | refine blk_drew ?_ | refine blk_alloc ?_ _)); refine blk_far ?_ NB675_686.out _; (with_reducible repeat (first | refine blk_drewN ?_ _ | refine blk_drew ?_ | refine blk_alloc ?_ _)); refine blk_far ?_ NB675_686.out _; (with_reducible repeat (first | refine blk_drewN ?_ _ | refine blk_drew ?_ | refine blk_alloc ?_ _)); exact BK675.out) Try.underlying29 rfl (by kernel_rfl)) rfl ?_
  exact ⟨_, by first | rfl | (simp [errW_none, errW_some] <;> rfl) | (simp [*, errW_none, errW_some] <;> rfl), by first | exact Kd.R_nil _ _ _ _ _ | exact Kd.N_nil _ _ _ _ _ | exact Kd.V_nil _ _ _ _ _ | exact Kd.Q_nil _ _ _ _ _ | exact Kd.S_nil _ _ _ _ _, by repeat (first | (with_reducible first | exact HB.out | apply below_alloc | apply pw_below_drewN | apply below_drew1 | refine below_set ?_ GE675.out | refine below_set ?_ GE686.out) | exact HB.out)⟩
end Go.Proofs.Ytidejdfbapjfiaa.G
namespace Go.Proofs.Ytidejdfbapjfiaa.G
open Go.RowKit Go.Proofs.YtidejdfbapjfiaaW.PrintWords Go.Proofs.YtidejdfbapjfiaaW.PrintLast Go.Proofs.YtidejdfbapjfiaaW.PrintMore
attribute [local go_sem] max2_int min2_int max_two min_two max_three min_three max_four min_four   -- for this text's walks alone
set_option linter.unusedVariables false
set_option linter.unusedSimpArgs false
def laws_eqBytesResult.f (k : Nat) (a0_0 : Int) (l0_1 : List Int) (a1_0 : Int) (l1_1 : List Int) : Option (Bool) := if a0_0 = a1_0 then ((laws_eqByteS.f k l0_1 l1_1).bind fun t701 => (if t701 = true then (some true) else (some false))) else (some false)
set_option maxHeartbeats 8000000 in
set_option maxRecDepth 100000 in
theorem laws_eqBytesResult.calls (k : Nat) (a0_0 : Int) (A0_1 : Option Addr) (c0_1 : Nat) (l0_1 : List Int) (a1_0 : Int) (A1_1 : Option Addr) (c1_1 : Nat) (l1_1 : List Int) (r : Bool) (w : World) (hr0_1 : Kd.C (Kd.int .u8) w A0_1 l0_1.length l0_1) (hc0_1 : l0_1.length ≤ c0_1) (hr1_1 : Kd.C (Kd.int .u8) w A1_1 l1_1.length l1_1) (hc1_1 : l1_1.length ≤ c1_1) (h : laws_eqBytesResult.f k a0_0 l0_1 a1_0 l1_1 = some r) :
  Calls Try.prog 25 #[.agg #[.int .i64 a0_0, .slice A0_1 l0_1.length c0_1], .agg #[.int .i64 a1_0, .slice A1_1 l1_1.length c1_1]] w fun e w' => e = .returned (.bool r) ∧ Below w.heap.size w w' := by
 have hu29 := Try.underlying29
 have HR0_1 := Aside0.mk hr0_1
 have HC0_1 := Aside0.mk hc0_1
 clear hr0_1 hc0_1
 have HR1_1 := Aside0.mk hr1_1
 have HC1_1 := Aside0.mk hc1_1
 clear hr1_1 hc1_1
 have HB := Aside0.mk (Below.refl w.heap.size w)
 have H : (if a0_0 = a1_0 then ((laws_eqByteS.f k l0_1 l1_1).bind fun t701 => (if t701 = true then (some true) else (some false))) else (some false)) = some r := h
 clear h
 by_cases c3 : a0_0 = a1_0
 ·rw [if_pos c3] at H
  have c3b0 : (a0_0 == a1_0) = true := beq_iff_eq.mpr c3
  have c3b1 : (a0_0 != a1_0) = false := bne_eq_false_iff_eq.mpr c3
  clear c3
  replace H := Option.bind_eq_some_iff.mp H
  obtain ⟨t701, A40, H⟩ := H
  try dsimp only at H
  have A4 := Aside0.mk A40
  clear A40
  by_cases c5 : t701 = true
  ·subst c5
   rw [if_pos rfl] at H
   obtain rfl := Option.some.inj H
   go_enter Try.func25, Try.ntmps25
   go_wp2_with (first | ((with_reducible refine gate_dst (N := 2) rfl ?_); refine box_event ?hg (N := 2) ?hd (cs := #[.int .i64 a0_0, .slice A0_1 l0_1.length c0_1]) (t := 29) ?hr ?_; (case hd => rfl); (case hg => rfl); (case hr => first | (go_simp; done) | (go_simp; rfl)); intro gb699 hg w6 hbox hb; have n0_ := Aside0.mk (below_step (by repeat (first | (with_reducible first | exact HB.out | apply below_alloc | apply pw_below_drewN | apply below_drew1) | exact HB.out)) hb); have n1_ := Aside0.mk (hbox); have n2_ := Aside0.mk ((by rw [hg]; exact (below_size (by repeat (first | (with_reducible first | exact HB.out | apply below_alloc | apply pw_below_drewN | apply below_drew1) | exact HB.out))) : w.heap.size ≤ gb699)); have n3_ := Aside0.mk ((by rw [hg]; exact (below_size (by repeat (first | (with_reducible first | exact HB.out | apply below_alloc | apply pw_below_drewN | apply below_drew1) | exact HB.out))) : w.heap.size ≤ gb699)); clear HB; have HB := n0_; have BK699 := n1_; have GW699 := n2_; have GE699 := n3_; clear n0_ n1_ n2_ n3_; clear hb hbox hg) | ((with_reducible refine gate_dst (N := 3) rfl ?_); refine box_event ?hg (N := 3) ?hd (cs := #[.int .i64 a1_0, .slice A1_1 l1_1.length c1_1]) (t := 29) ?hr ?_; (case hd => rfl); (case hg => rfl); (case hr => first | (go_simp; done) | (go_simp; rfl)); intro gb700 hg w7 hbox hb; have n0_ := Aside0.mk (blk_below (g := gb699) (o := .cells #[.int .i64 a0_0, .slice A0_1 l0_1.length c0_1] 29 (0, 0)) (by (with_reducible repeat (first | refine blk_drewN ?_ _ | refine blk_drew ?_ | refine blk_alloc ?_ _)); exact BK699.out) hb); have n1_ := Aside0.mk (below_step (by repeat (first | (with_reducible first | exact HB.out | apply below_alloc | apply pw_below_drewN | apply below_drew1 | refine below_set ?_ GE699.out) | exact HB.out)) hb); have n2_ := Aside0.mk (hbox); have n3_ := Aside0.mk ((by rw [hg]; exact (below_size (by repeat (first | (with_reducible first | exact HB.out | apply below_alloc | apply pw_below_drewN | apply below_drew1 | refine below_set ?_ GE699.out) | exact HB.out))) : w.heap.size ≤ gb700)); have n4_ := Aside0.mk ((by rw [hg]; exact (below_size (by repeat (first | (with_reducible first | exact HB.out | apply below_alloc | apply pw_below_drewN | apply below_drew1 | refine below_set ?_ GE699.out) | exact HB.out))) : w.heap.size ≤ gb700)); have n5_ := Aside0.mk ((by rw [hg]; exact Nat.ne_of_lt (blk_lt (g := gb699) (o := .cells #[.int .i64 a0_0, .slice A0_1 l0_1.length c0_1] 29 (0, 0)) (by (with_reducible repeat (first | refine blk_drewN ?_ _ | refine blk_drew ?_ | refine blk_alloc ?_ _)); exact BK699.out)) : gb699 ≠ gb700)); have n6_ := Aside0.mk ((by rw [hg]; exact Nat.ne_of_gt (blk_lt (g := gb699) (o := .cells #[.int .i64 a0_0, .slice A0_1 l0_1.length c0_1] 29 (0, 0)) (by (with_reducible repeat (first | refine blk_drewN ?_ _ | refine blk_drew ?_ | refine blk_alloc ?_ _)); exact BK699.out)) : gb700 ≠ gb699)); clear BK699; clear HB; have BK699 := n0_; have HB := n1_; have BK700 := n2_; have GW700 := n3_; have GE700 := n4_; have NB699_700 := n5_; have NB700_699 := n6_; clear n0_ n1_ n2_ n3_ n4_ n5_ n6_; clear hb hbox hg; have hnb8 := NB699_700.out; have hnc8 := NB700_699.out; have hcz9_0 : w7.cell? ⟨gb699, 0, none⟩ = some (.int .i64 a0_0) := (blk_cell BK699.out 0).trans rfl; have hcz9_1 : w7.cell? ⟨gb699, 1, none⟩ = some (.slice A0_1 l0_1.length c0_1) := (blk_cell BK699.out 1).trans rfl; have hfz9_0 := blk_frozen BK699.out 0; have hfz9_1 := blk_frozen BK699.out 1; have hcz10_0 : w7.cell? ⟨gb700, 0, none⟩ = some (.int .i64 a1_0) := (blk_cell BK700.out 0).trans rfl; have hcz10_1 : w7.cell? ⟨gb700, 1, none⟩ = some (.slice A1_1 l1_1.length c1_1) := (blk_cell BK700.out 1).trans rfl; have hfz10_0 := blk_frozen BK700.out 0; have hfz10_1 := blk_frozen BK700.out 1) | ((with_reducible refine gate_callee (f := 19) rfl ?_); refine goesL_ (some 14) rfl rfl Try.func19 (by kernel_rfl) rfl #[.slice A0_1 l0_1.length c0_1, .slice A1_1 l1_1.length c1_1] rfl (by (try simp only [List.map_toArray, List.map_cons, List.map_nil]); first | done | rfl | (simp only [List.length_drop, List.length_take]; rfl)) ?_; (with_reducible refine (laws_eqByteS.calls k _ _ l0_1 _ _ l1_1 true _ ?side1 ?side2 ?side3 ?side4 A4.out).mono ?_); (case side1 => repeat (first | exact (Kd.C_below HR0_1.out HB.out) | (with_reducible refine Kd.C_alloc ?_ _) | (with_reducible refine Kd.C_drewN ?_ _) | (with_reducible refine Kd.C_drew ?_))); (case side2 => exact HC0_1.out); (case side3 => repeat (first | exact (Kd.C_below HR1_1.out HB.out) | (with_reducible refine Kd.C_alloc ?_ _) | (with_reducible refine Kd.C_drewN ?_ _) | (with_reducible refine Kd.C_drew ?_))); (case side4 => exact HC1_1.out); rintro e w' ⟨rfl, ⟨nd, rfl⟩⟩; refine ⟨_, rfl, ?_⟩))
   go_ret
   exact ⟨by first | rfl | (simp [errW_none, errW_some] <;> rfl) | (simp [*, errW_none, errW_some] <;> rfl), by repeat (first | (with_reducible first | exact HB.out | apply below_alloc | apply pw_below_drewN | apply below_drew1 | refine below_set ?_ GE699.out | refine below_set ?_ GE700.out) | exact HB.out)⟩
  ·replace c5 := Bool.eq_false_iff.mpr c5
   subst c5
   rw [if_neg (show ¬ (false = true) by decide)] at H
   obtain rfl := Option.some.inj H
   go_enter Try.func25, Try.ntmps25
   go_wp2_with (first | ((with_reducible refine gate_dst (N := 2) rfl ?_); refine box_event ?hg (N := 2) ?hd (cs := #[.int .i64 a0_0, .slice A0_1 l0_1.length c0_1]) (t := 29) ?hr ?_; (case hd => rfl); (case hg => rfl); (case hr => first | (go_simp; done) | (go_simp; rfl)); intro gb699 hg w11 hbox hb; have n0_ := Aside0.mk (below_step (by repeat (first | (with_reducible first | exact HB.out | apply below_alloc | apply pw_below_drewN | apply below_drew1) | exact HB.out)) hb); have n1_ := Aside0.mk (hbox); have n2_ := Aside0.mk ((by rw [hg]; exact (below_size (by repeat (first | (with_reducible first | exact HB.out | apply below_alloc | apply pw_below_drewN | apply below_drew1) | exact HB.out))) : w.heap.size ≤ gb699)); have n3_ := Aside0.mk ((by rw [hg]; exact (below_size (by repeat (first | (with_reducible first | exact HB.out | apply below_alloc | apply pw_below_drewN | apply below_drew1) | exact HB.out))) : w.heap.size ≤ gb699)); clear HB; have HB := n0_; have BK699 := n1_; have GW699 := n2_; have GE699 := n3_; clear n0_ n1_ n2_ n3_; clear hb hbox hg) | ((with_reducible refine gate_dst (N := 3) rfl ?_); refine box_event ?hg (N := 3) ?hd (cs := #[.int .i64 a1_0, .slice A1_1 l1_1.length c1_1]) (t := 29) ?hr ?_; (case hd => rfl); (case hg => rfl); (case hr => first | (go_simp; done) | (go_simp; rfl)); intro gb700 hg w12 hbox hb; have n0_ := Aside0.mk (blk_below (g := gb699) (o := .cells #[.int .i64 a0_0, .slice A0_1 l0_1.length c0_1] 29 (0, 0)) (by (with_reducible repeat (first | refine blk_drewN ?_ _ | refine blk_drew ?_ | refine blk_alloc ?_ _)); exact BK699.out) hb); have n1_ := Aside0.mk (below_step (by repeat (first | (with_reducible first | exact HB.out | apply below_alloc | apply pw_below_drewN | apply below_drew1 | refine below_set ?_ GE699.out) | exact HB.out)) hb); have n2_ := Aside0.mk (hbox); have n3_ := Aside0.mk ((by rw [hg]; exact (below_size (by repeat (first | (with_reducible first | exact HB.out | apply below_alloc | apply pw_below_drewN | apply below_drew1 | refine below_set ?_ GE699.out) | exact HB.out))) : w.heap.size ≤ gb700)); have n4_ := Aside0.mk ((by rw [hg]; exact (below_size (by repeat (first | (with_reducible first | exact HB.out | apply below_alloc | apply pw_below_drewN | apply below_drew1 | refine below_set ?_ GE699.out) | exact HB.out))) : w.heap.size ≤ gb700)); have n5_ := Aside0.mk ((by rw [hg]; exact Nat.ne_of_lt (blk_lt (g := gb699) (o := .cells #[.int .i64 a0_0, .slice A0_1 l0_1.length c0_1] 29 (0, 0)) (by (with_reducible repeat (first | refine blk_drewN ?_ _ | refine blk_drew ?_ | refine blk_alloc ?_ _)); exact BK699.out)) : gb699 ≠ gb700)); have n6_ := Aside0.mk ((by rw [hg]; exact Nat.ne_of_gt (blk_lt (g := gb699) (o := .cells #[.int .i64 a0_0, .slice A0_1 l0_1.length c0_1] 29 (0, 0)) (by (with_reducible repeat (first | refine blk_drewN ?_ _ | refine blk_drew ?_ | refine blk_alloc ?_ _)); exact BK699.out)) : gb700 ≠ gb699)); clear BK699; clear HB; have BK699 := n0_; have HB := n1_; have BK700 := n2_; have GW700 := n3_; have GE700 := n4_; have NB699_700 := n5_; have NB700_699 := n6_; clear n0_ n1_ n2_ n3_ n4_ n5_ n6_; clear hb hbox hg; have hnb13 := NB699_700.out; have hnc13 := NB700_699.out; have hcz14_0 : w12.cell? ⟨gb699, 0, none⟩ = some (.int .i64 a0_0) := (blk_cell BK699.out 0).trans rfl; have hcz14_1 : w12.cell? ⟨gb699, 1, none⟩ = some (.slice A0_1 l0_1.length c0_1) := (blk_cell BK699.out 1).trans rfl; have hfz14_0 := blk_frozen BK699.out 0; have hfz14_1 := blk_frozen BK699.out 1; have hcz15_0 : w12.cell? ⟨gb700, 0, none⟩ = some (.int .i64 a1_0) := (blk_cell BK700.out 0).trans rfl; have hcz15_1 : w12.cell? ⟨gb700, 1, none⟩ = some (.slice A1_1 l1_1.length c1_1) := (blk_cell BK700.out 1).trans rfl; have hfz15_0 := blk_frozen BK700.out 0; have hfz15_1 := blk_frozen BK700.out 1) | ((with_reducible refine gate_callee (f := 19) rfl ?_); refine goesL_ (some 14) rfl rfl Try.func19 (by kernel_rfl) rfl #[.slice A0_1 l0_1.length c0_1, .slice A1_1 l1_1.length c1_1] rfl (by (try simp only [List.map_toArray, List.map_cons, List.map_nil]); first | done | rfl | (simp only [List.length_drop, List.length_take]; rfl)) ?_; (with_reducible refine (laws_eqByteS.calls k _ _ l0_1 _ _ l1_1 false _ ?side1 ?side2 ?side3 ?side4 A4.out).mono ?_); (case side1 => repeat (first | exact (Kd.C_below HR0_1.out HB.out) | (with_reducible refine Kd.C_alloc ?_ _) | (with_reducible refine Kd.C_drewN ?_ _) | (with_reducible refine Kd.C_drew ?_))); (case side2 => exact HC0_1.out); (case side3 => repeat (first | exact (Kd.C_below HR1_1.out HB.out) | (with_reducible refine Kd.C_alloc ?_ _) | (with_reducible refine Kd.C_drewN ?_ _) | (with_reducible refine Kd.C_drew ?_))); (case side4 => exact HC1_1.out); rintro e w' ⟨rfl, ⟨nd, rfl⟩⟩; refine ⟨_, rfl, ?_⟩))
   go_ret
   exact ⟨by first | rfl | (simp [errW_none, errW_some] <;> rfl) | (simp [*, errW_none, errW_some] <;> rfl), by repeat (first | (with_reducible first | exact HB.out | apply below_alloc | apply pw_below_drewN | apply below_drew1 | refine below_set ?_ GE699.out | refine below_set ?_ GE700.out) | exact HB.out)⟩
 ·rw [if_neg c3] at H
  have c3b0 : (a0_0 == a1_0) = false := beq_eq_false_iff_ne.mpr c3
  have c3b1 : (a0_0 != a1_0) = true := bne_iff_ne.mpr c3
  obtain rfl := Option.some.inj H
  go_enter Try.func25, Try.ntmps25
  go_wp2_with (first | ((with_reducible refine gate_dst (N := 2) rfl ?_); refine box_event ?hg (N := 2) ?hd (cs := #[.int .i64 a0_0, .slice A0_1 l0_1.length c0_1]) (t := 29) ?hr ?_; (case hd => rfl); (case hg => rfl); (case hr => first | (go_simp; done) | (go_simp; rfl)); intro gb699 hg w16 hbox hb; have n0_ := Aside0.mk (below_step (by repeat (first | (with_reducible first | exact HB.out | apply below_alloc | apply pw_below_drewN | apply below_drew1) | exact HB.out)) hb); have n1_ := Aside0.mk (hbox); have n2_ := Aside0.mk ((by rw [hg]; exact (below_size (by repeat (first | (with_reducible first | exact HB.out | apply below_alloc | apply pw_below_drewN | apply below_drew1) | exact HB.out))) : w.heap.size ≤ gb699)); have n3_ := Aside0.mk ((by rw [hg]; exact (below_size (by repeat (first | (with_reducible first | exact HB.out | apply below_alloc | apply pw_below_drewN | apply below_drew1) | exact HB.out))) : w.heap.size ≤ gb699)); clear HB; have HB := n0_; have BK699 := n1_; have GW699 := n2_; have GE699 := n3_; clear n0_ n1_ n2_ n3_; clear hb hbox hg) | ((with_reducible refine gate_dst (N := 3) rfl ?_); refine box_event ?hg (N := 3) ?hd (cs := #[.int .i64 a1_0, .slice A1_1 l1_1.length c1_1]) (t := 29) ?hr ?_; (case hd => rfl); (case hg => rfl); (case hr => first | (go_simp; done) | (go_simp; rfl)); intro gb700 hg w17 hbox hb; have n0_ := Aside0.mk (blk_below (g := gb699) (o := .cells #[.int .i64 a0_0, .slice A0_1 l0_1.length c0_1] 29 (0, 0)) (by (with_reducible repeat (first | refine blk_drewN ?_ _ | refine blk_drew ?_ | refine blk_alloc ?_ _)); exact BK699.out) hb); have n1_ := Aside0.mk (below_step (by repeat (first | (with_reducible first | exact HB.out | apply below_alloc | apply pw_below_drewN | apply below_drew1 | refine below_set ?_ GE699.out) | exact HB.out)) hb); have n2_ := Aside0.mk (hbox); have n3_ := Aside0.mk ((by rw [hg]; exact (below_size (by repeat (first | (with_reducible first | exact HB.out | apply below_alloc | apply pw_below_drewN | apply below_drew1 | refine below_set ?_ GE699.out) | exact HB.out))) : w.heap.size ≤ gb700)); have n4_ := Aside0.mk ((by rw [hg]; exact (below_size (by repeat (first | (with_reducible first | exact HB.out | apply below_alloc | apply pw_below_drewN | apply below_drew1 | refine below_set ?_ GE699.out) | exact HB.out))) : w.heap.size ≤ gb700)); have n5_ := Aside0.mk ((by rw [hg]; exact Nat.ne_of_lt (blk_lt (g := gb699) (o := .cells #[.int .i64 a0_0, .slice A0_1 l0_1.length c0_1] 29 (0, 0)) (by (with_reducible repeat (first | refine blk_drewN ?_ _ | refine blk_drew ?_ | refine blk_alloc ?_ _)); exact BK699.out)) : gb699 ≠ gb700)); have n6_ := Aside0.mk ((by rw [hg]; exact Nat.ne_of_gt (blk_lt (g := gb699) (o := .cells #[.int .i64 a0_0, .slice A0_1 l0_1.length c0_1] 29 (0, 0)) (by (with_reducible repeat (first | refine blk_drewN ?_ _ | refine blk_drew ?_ | refine blk_alloc ?_ _)); exact BK699.out)) : gb700 ≠ gb699)); clear BK699; clear HB; have BK699 := n0_; have HB := n1_; have BK700 := n2_; have GW700 := n3_; have GE700 := n4_; have NB699_700 := n5_; have NB700_699 := n6_; clear n0_ n1_ n2_ n3_ n4_ n5_ n6_; clear hb hbox hg; have hnb18 := NB699_700.out; have hnc18 := NB700_699.out; have hcz19_0 : w17.cell? ⟨gb699, 0, none⟩ = some (.int .i64 a0_0) := (blk_cell BK699.out 0).trans rfl; have hcz19_1 : w17.cell? ⟨gb699, 1, none⟩ = some (.slice A0_1 l0_1.length c0_1) := (blk_cell BK699.out 1).trans rfl; have hfz19_0 := blk_frozen BK699.out 0; have hfz19_1 := blk_frozen BK699.out 1; have hcz20_0 : w17.cell? ⟨gb700, 0, none⟩ = some (.int .i64 a1_0) := (blk_cell BK700.out 0).trans rfl; have hcz20_1 : w17.cell? ⟨gb700, 1, none⟩ = some (.slice A1_1 l1_1.length c1_1) := (blk_cell BK700.out 1).trans rfl; have hfz20_0 := blk_frozen BK700.out 0; have hfz20_1 := blk_frozen BK700.out 1))
  go_ret
  exact ⟨by first | rfl | (simp [errW_none, errW_some] <;> rfl) | (simp [*, errW_none, errW_some] <;> rfl), by repeat (first | (with_reducible first | exact HB.out | apply below_alloc | apply pw_below_drewN | apply below_drew1 | refine below_set ?_ GE699.out | refine below_set ?_ GE700.out) | exact HB.out)⟩
end Go.Proofs.Ytidejdfbapjfiaa.G
namespace Go.Proofs.Ytidejdfbapjfiaa.G
open Go.RowKit Go.Proofs.YtidejdfbapjfiaaW.PrintWords Go.Proofs.YtidejdfbapjfiaaW.PrintLast Go.Proofs.YtidejdfbapjfiaaW.PrintMore
attribute [local go_sem] max2_int min2_int max_two min_two max_three min_three max_four min_four   -- for this text's walks alone
set_option linter.unusedVariables false
set_option linter.unusedSimpArgs false
def laws_markBytesResult.f (k : Nat) (a0_0 : Int) (l0_1 : List Int) (a1 : Int) : Option (Int × List Int) := (laws_markByteS.f k l0_1 a1).bind fun bt703 => (some (bt703.1, bt703.2))
set_option maxHeartbeats 8000000 in
set_option maxRecDepth 100000 in
theorem laws_markBytesResult.calls (k : Nat) (a0_0 : Int) (P0_1_ : Nat → Prop) (u9000_ : Value) (l0_1 : List Int) (a1 : Int) (r1 : Int) (r2 : List Int) (w0 w : World) (hB : Below w0.heap.size w0 w) (ho0_1 : Kd.R (Kd.int .u8) 5 w w0.heap.size P0_1_ u9000_ l0_1) (h : laws_markBytesResult.f k a0_0 l0_1 a1 = some (r1, r2)) :
  Calls Try.prog 26 #[.agg #[.int .i64 a0_0, u9000_], .int .i64 a1] w fun e w' => e = .returned (.int .i64 r1) ∧ Kd.R (Kd.int .u8) 5 w' w0.heap.size (fun k_ => (P0_1_ k_ ∨ w.heap.size ≤ k_)) u9000_ r2 ∧ Below w0.heap.size w0 w' ∧ Kept w w' (fun k_ => P0_1_ k_) := by
 have hu29 := Try.underlying29
 have HO0_1 := Aside0.mk (show Kd.R (Kd.int .u8) 5 w w0.heap.size (fun k_ => (P0_1_ k_ ∨ w.heap.size ≤ k_)) u9000_ l0_1 from Kd.R_mono ho0_1 (fun k_ hk => (.inl hk)))
 have HK := Aside0.mk (Kept.refl w (fun k_ => P0_1_ k_))
 have HW0 := Aside0.mk hB.size
 have HB := Aside0.mk hB
 clear hB
 have H : ((laws_markByteS.f k l0_1 a1).bind fun bt703 => (some (bt703.1, bt703.2))) = some (r1, r2) := h
 clear h
 replace H := Option.bind_eq_some_iff.mp H
 obtain ⟨⟨t703, t704⟩, A30, H⟩ := H
 try dsimp only at H
 have A3 := Aside0.mk A30
 clear A30
 simp only [Option.some.injEq, Prod.mk.injEq] at H
 obtain ⟨rfl, rfl⟩ := H
 obtain ⟨Ao4, co4, eo4⟩ := Kd.R_slice HO0_1.out
 subst eo4
 go_enter Try.func26, Try.ntmps26
 go_wp2_with (first | ((with_reducible refine gate_dst (N := 2) rfl ?_); refine box_event ?hg (N := 2) ?hd (cs := #[.int .i64 a0_0, .slice Ao4 l0_1.length co4]) (t := 29) ?hr ?_; (case hd => rfl); (case hg => rfl); (case hr => first | (go_simp; done) | (go_simp; rfl)); intro gb702 hg w5 hbox hb; have n0_ := Aside0.mk (Kd.R_below (by (with_reducible repeat (first | apply Kd.R_alloc | apply Kd.R_drewN | apply Kd.R_drew)); exact HO0_1.out) hb); have n1_ := Aside0.mk (Kept.below (S := (fun k_ => P0_1_ k_)) (by repeat (first | (with_reducible first | exact HK.out | apply Kept.alloc | apply Kept.drewN | apply Kept.drew) | exact HK.out)) hb); have n2_ := Aside0.mk (below_step (by repeat (first | (with_reducible first | exact HB.out | apply below_alloc | apply pw_below_drewN | apply below_drew1) | exact HB.out)) hb); have n3_ := Aside0.mk (hbox); have n4_ := Aside0.mk ((by rw [hg]; exact (by first | exact HK.out.1 | exact (show Kept w _ (fun k_ => P0_1_ k_) from by repeat (first | (with_reducible first | exact HK.out | apply Kept.alloc | apply Kept.drewN | apply Kept.drew) | exact HK.out)).1) : w.heap.size ≤ gb702)); have n5_ := Aside0.mk ((by rw [hg]; exact (below_size (by repeat (first | (with_reducible first | exact HB.out | apply below_alloc | apply pw_below_drewN | apply below_drew1) | exact HB.out))) : w0.heap.size ≤ gb702)); clear HO0_1; clear HK; clear HB; have HO0_1 := n0_; have HK := n1_; have HB := n2_; have BK702 := n3_; have GW702 := n4_; have GE702 := n5_; clear n0_ n1_ n2_ n3_ n4_ n5_; clear hb hbox hg; have hcz6_0 : w5.cell? ⟨gb702, 0, none⟩ = some (.int .i64 a0_0) := (blk_cell BK702.out 0).trans rfl; have hcz6_1 : w5.cell? ⟨gb702, 1, none⟩ = some (.slice Ao4 l0_1.length co4) := (blk_cell BK702.out 1).trans rfl; have hfz6_0 := blk_frozen BK702.out 0; have hfz6_1 := blk_frozen BK702.out 1) | ((with_reducible refine gate_callee (f := 20) rfl ?_); refine goesL_ (some 8) rfl rfl Try.func20 (by kernel_rfl) rfl #[.slice Ao4 l0_1.length co4, .int .i64 a1] rfl (by (try simp only [List.map_toArray, List.map_cons, List.map_nil]); first | done | rfl | (simp only [List.length_drop, List.length_take]; rfl)) ?_; (with_reducible refine (laws_markByteS.calls k (fun k_ => some k_ = (.slice Ao4 l0_1.length co4 : Value).ownBlock) (.slice Ao4 l0_1.length co4) l0_1 a1 t703 t704 w0 _ ?side1 ?side2 A3.out).mono ?_); (case side1 => repeat (first | (with_reducible first | exact HB.out | apply below_alloc | apply pw_below_drewN | apply below_drew1 | refine below_set ?_ GE702.out) | exact HB.out)); (case side2 => exact Kd.R_tight rfl HO0_1.out); rintro e w7 ⟨rfl, hy0, hb, hkp⟩; refine ⟨_, rfl, ?_⟩; have n0_ := Aside0.mk (Kd.R_reok rfl hy0 (fun k_ e_ => HO0_1.out.1 k_ e_)); have n1_ := Aside0.mk (blk_kept (by (with_reducible repeat (first | refine blk_drewN ?_ _ | refine blk_drew ?_ | refine blk_alloc ?_ _)); exact BK702.out) hkp (fun hs_ => (fun e_ => (Kd.R_ne HO0_1.out BK702.out (by decide)) e_) hs_)); have n2_ := Aside0.mk (Kept.then_ (S := (fun k_ => P0_1_ k_)) (by repeat (first | (with_reducible first | exact HK.out | apply Kept.alloc | apply Kept.drewN | apply Kept.drew | refine Kept.setCell ?_ (.inr GW702.out) _) | exact HK.out)) hkp (fun k_ hs_ => (fun e_ => (HO0_1.out.1 k_ e_.symm)) hs_)); have n3_ := Aside0.mk (hb); clear HO0_1; clear BK702; clear HK; clear HB; have HO0_1 := n0_; have BK702 := n1_; have HK := n2_; have HB := n3_; clear n0_ n1_ n2_ n3_; (try clear hb); (try clear hkp); (try clear hy0)))
 go_ret
 exact ⟨by first | rfl | (simp [errW_none, errW_some] <;> rfl) | (simp [*, errW_none, errW_some] <;> rfl), by (with_reducible repeat (first | apply Kd.R_alloc | apply Kd.R_drewN | apply Kd.R_drew)); exact HO0_1.out, by repeat (first | (with_reducible first | exact HB.out | apply below_alloc | apply pw_below_drewN | apply below_drew1 | refine below_set ?_ GE702.out) | exact HB.out), by repeat (first | (with_reducible first | exact HK.out | apply Kept.alloc | apply Kept.drewN | apply Kept.drew | refine Kept.setCell ?_ (.inr GW702.out) _) | exact HK.out)⟩
end Go.Proofs.Ytidejdfbapjfiaa.G
namespace Go.Proofs.Ytidejdfbapjfiaa.G
open Go.RowKit Go.Proofs.YtidejdfbapjfiaaW.PrintWords Go.Proofs.YtidejdfbapjfiaaW.PrintLast Go.Proofs.YtidejdfbapjfiaaW.PrintMore
attribute [local go_sem] max2_int min2_int max_two min_two max_three min_three max_four min_four   -- for this text's walks alone
set_option linter.unusedVariables false
set_option linter.unusedSimpArgs false
def laws_heldByteS.l0 : Nat → List Int → Int → Int → Option (Int)
 | 0, _, _, _ => none
 | k + 1, x0, x1, x5 => if x5 < (x0.length : Int) then (if 0 ≤ x5 then (if (rd x0 x5) = ((x1) % 256) then (laws_heldByteS.l0 k x0 (wrap64 (x1 + 1)) (wrap64 (x5 + 1))) else (some (-1))) else (none)) else (some x1)
def laws_heldByteS.f (k : Nat) (l0 : List Int) (a1 : Int) : Option (Int) := laws_heldByteS.l0 k l0 a1 0
set_option maxHeartbeats 8000000 in
set_option maxRecDepth 100000 in
theorem laws_heldByteS.calls (k : Nat) (A0 : Option Addr) (c0 : Nat) (l0 : List Int) (a1 : Int) (r : Int) (w : World) (hr0 : Kd.C (Kd.int .u8) w A0 l0.length l0) (hc0 : l0.length ≤ c0) (h : laws_heldByteS.f k l0 a1 = some r) :
  Calls Try.prog 64 #[.slice A0 l0.length c0, .int .i64 a1] w fun e w' => e = .returned (.int .i64 r) ∧ Drawn0 w w' := by
 have HR0 := Aside0.mk hr0
 have HC0 := Aside0.mk hc0
 clear hr0 hc0
 have H : (laws_heldByteS.l0 k l0 a1 0) = some r := h
 clear h
 have H' := Aside0.mk H
 clear H
 go_enter Try.func64, Try.ntmps64
 go_wp2
 go_loopg [1, 5] k (fun kq v1 v5 w' => ∃ (x1_1 : Int) (x5_1 : Int), v1 = .int .i64 x1_1 ∧ v5 = .int .i64 x5_1 ∧ Aside0 (laws_heldByteS.l0 kq l0 x1_1 x5_1 = some r) ∧ Aside0 (kq ≤ k) ∧ Drawn0 w w')
 case atStart => exact ⟨(a1), (0), (by first | rfl | (simp; done) | (simp [*]; done)), (by first | rfl | (simp; done) | (simp [*]; done)), H', ⟨Nat.le_refl _⟩, by repeat (first | exact Drawn0.refl _ | apply Drawn0.step)⟩
 case round =>
  clear H'
  try clear p2
  obtain ⟨x1_1, x5_1, rfl, rfl, HA, HK1, ⟨m1, rfl⟩⟩ := hrel
  cases gk with
  | zero => exact absurd HA.out (by simp [laws_heldByteS.l0])
  | succ k1 =>
   have H := HA.out
   clear HA
   simp only [laws_heldByteS.l0] at H
   by_cases c3 : x5_1 < (l0.length : Int)
   ·rw [if_pos c3] at H
    have c3b0 : decide (x5_1 < (l0.length : Int)) = true := decide_eq_true c3
    clear c3
    by_cases c4 : 0 ≤ x5_1
    ·rw [if_pos c4] at H
     have c4b0 : decide (0 ≤ x5_1) = true := decide_eq_true c4
     clear c4
     by_cases c5 : (rd l0 x5_1) = ((x1_1) % 256)
     ·rw [if_pos c5] at H
      have c5b0 : ((rd l0 x5_1) == ((x1_1) % 256)) = true := beq_iff_eq.mpr c5
      have c5b1 : ((rd l0 x5_1) != ((x1_1) % 256)) = false := bne_eq_false_iff_eq.mpr c5
      clear c5
      have H' := Aside0.mk H
      clear H
      have p520 : 0 ≤ (x5_1 : Int) := of_decide_eq_true (by first | (with_reducible assumption) | assumption)
      have q520 : x5_1 < (l0.length : Int) := of_decide_eq_true (by first | (with_reducible assumption) | assumption)
      obtain ⟨ad520, e520, hx520_0⟩ := Kd.at_int HR0.out x5_1 p520 q520
      cases e520
      replace p520 := eq_true p520
      replace q520 := eq_true q520
      go_wp2
      go_roundg k1
      case measure => have := HK1.out; omega
      case rel => exact ⟨(wrap64 (x1_1 + 1)), (wrap64 (x5_1 + 1)), (by first | rfl | (simp; done) | (simp [*]; done)), (by first | rfl | (simp; done) | (simp [*]; done)), H', ⟨by have := HK1.out; omega⟩, by repeat (first | exact Drawn0.refl _ | apply Drawn0.step)⟩
     ·rw [if_neg c5] at H
      have c5b0 : ((rd l0 x5_1) == ((x1_1) % 256)) = false := beq_eq_false_iff_ne.mpr c5
      have c5b1 : ((rd l0 x5_1) != ((x1_1) % 256)) = true := bne_iff_ne.mpr c5
      obtain rfl := Option.some.inj H
      have p520 : 0 ≤ (x5_1 : Int) := of_decide_eq_true (by first | (with_reducible assumption) | assumption)
      have q520 : x5_1 < (l0.length : Int) := of_decide_eq_true (by first | (with_reducible assumption) | assumption)
      obtain ⟨ad520, e520, hx520_0⟩ := Kd.at_int HR0.out x5_1 p520 q520
      cases e520
      replace p520 := eq_true p520
      replace q520 := eq_true q520
      go_wp2
      go_ret
      exact ⟨by first | rfl | (simp; done) | (simp [*]; done), by repeat (first | exact Drawn0.refl _ | apply Drawn0.step)⟩
    ·rw [if_neg c4] at H
     exact absurd H (by simp)
   ·rw [if_neg c3] at H
    have c3b0 : decide (x5_1 < (l0.length : Int)) = false := decide_eq_false c3
    clear c3
    obtain rfl := Option.some.inj H
    go_wp2
    go_ret
    exact ⟨by first | rfl | (simp; done) | (simp [*]; done), by repeat (first | exact Drawn0.refl _ | apply Drawn0.step)⟩
end Go.Proofs.Ytidejdfbapjfiaa.G
namespace Go.Proofs.Ytidejdfbapjfiaa.G
open Go.RowKit Go.Proofs.YtidejdfbapjfiaaW.PrintWords Go.Proofs.YtidejdfbapjfiaaW.PrintLast Go.Proofs.YtidejdfbapjfiaaW.PrintMore
attribute [local go_sem] max2_int min2_int max_two min_two max_three min_three max_four min_four   -- for this text's walks alone
set_option linter.unusedVariables false
set_option linter.unusedSimpArgs false
def laws_heldBytesResult.f (k : Nat) (a0_0 : Int) (l0_1 : List Int) (a1 : Int) : Option (Int) := (laws_heldByteS.f k l0_1 a1).bind fun t706 => (if t706 < 0 then (some (-1)) else (some t706))
set_option maxHeartbeats 8000000 in
set_option maxRecDepth 100000 in
theorem laws_heldBytesResult.calls (k : Nat) (a0_0 : Int) (A0_1 : Option Addr) (c0_1 : Nat) (l0_1 : List Int) (a1 : Int) (r : Int) (w : World) (hr0_1 : Kd.C (Kd.int .u8) w A0_1 l0_1.length l0_1) (hc0_1 : l0_1.length ≤ c0_1) (h : laws_heldBytesResult.f k a0_0 l0_1 a1 = some r) :
  Calls Try.prog 27 #[.agg #[.int .i64 a0_0, .slice A0_1 l0_1.length c0_1], .int .i64 a1] w fun e w' => e = .returned (.int .i64 r) ∧ Below w.heap.size w w' := by
 have hu29 := Try.underlying29
 have HR0_1 := Aside0.mk hr0_1
 have HC0_1 := Aside0.mk hc0_1
 clear hr0_1 hc0_1
 have HB := Aside0.mk (Below.refl w.heap.size w)
 have H : ((laws_heldByteS.f k l0_1 a1).bind fun t706 => (if t706 < 0 then (some (-1)) else (some t706))) = some r := h
 clear h
 replace H := Option.bind_eq_some_iff.mp H
 obtain ⟨t706, A30, H⟩ := H
 try dsimp only at H
 have A3 := Aside0.mk A30
 clear A30
 by_cases c4 : t706 < 0
 ·rw [if_pos c4] at H
  have c4b0 : decide (t706 < 0) = true := decide_eq_true c4
  clear c4
  obtain rfl := Option.some.inj H
  go_enter Try.func27, Try.ntmps27
  go_wp2_with (first | ((with_reducible refine gate_dst (N := 2) rfl ?_); refine box_event ?hg (N := 2) ?hd (cs := #[.int .i64 a0_0, .slice A0_1 l0_1.length c0_1]) (t := 29) ?hr ?_; (case hd => rfl); (case hg => rfl); (case hr => first | (go_simp; done) | (go_simp; rfl)); intro gb705 hg w5 hbox hb; have n0_ := Aside0.mk (below_step (by repeat (first | (with_reducible first | exact HB.out | apply below_alloc | apply pw_below_drewN | apply below_drew1) | exact HB.out)) hb); have n1_ := Aside0.mk (hbox); have n2_ := Aside0.mk ((by rw [hg]; exact (below_size (by repeat (first | (with_reducible first | exact HB.out | apply below_alloc | apply pw_below_drewN | apply below_drew1) | exact HB.out))) : w.heap.size ≤ gb705)); have n3_ := Aside0.mk ((by rw [hg]; exact (below_size (by repeat (first | (with_reducible first | exact HB.out | apply below_alloc | apply pw_below_drewN | apply below_drew1) | exact HB.out))) : w.heap.size ≤ gb705)); clear HB; have HB := n0_; have BK705 := n1_; have GW705 := n2_; have GE705 := n3_; clear n0_ n1_ n2_ n3_; clear hb hbox hg; have hcz6_0 : w5.cell? ⟨gb705, 0, none⟩ = some (.int .i64 a0_0) := (blk_cell BK705.out 0).trans rfl; have hcz6_1 : w5.cell? ⟨gb705, 1, none⟩ = some (.slice A0_1 l0_1.length c0_1) := (blk_cell BK705.out 1).trans rfl; have hfz6_0 := blk_frozen BK705.out 0; have hfz6_1 := blk_frozen BK705.out 1) | ((with_reducible refine gate_callee (f := 64) rfl ?_); refine goesL_ (some 8) rfl rfl Try.func64 (by kernel_rfl) rfl #[.slice A0_1 l0_1.length c0_1, .int .i64 a1] rfl (by (try simp only [List.map_toArray, List.map_cons, List.map_nil]); first | done | rfl | (simp only [List.length_drop, List.length_take]; rfl)) ?_; (with_reducible refine (laws_heldByteS.calls k _ _ l0_1 a1 t706 _ ?side1 ?side2 A3.out).mono ?_); (case side1 => repeat (first | exact (Kd.C_below HR0_1.out HB.out) | (with_reducible refine Kd.C_alloc ?_ _) | (with_reducible refine Kd.C_drewN ?_ _) | (with_reducible refine Kd.C_drew ?_))); (case side2 => exact HC0_1.out); rintro e w' ⟨rfl, ⟨nd, rfl⟩⟩; refine ⟨_, rfl, ?_⟩))
  go_ret
  exact ⟨by first | rfl | (simp [errW_none, errW_some] <;> rfl) | (simp [*, errW_none, errW_some] <;> rfl), by repeat (first | (with_reducible first | exact HB.out | apply below_alloc | apply pw_below_drewN | apply below_drew1 | refine below_set ?_ GE705.out) | exact HB.out)⟩
 ·rw [if_neg c4] at H
  have c4b0 : decide (t706 < 0) = false := decide_eq_false c4
  clear c4
  obtain rfl := Option.some.inj H
  go_enter Try.func27, Try.ntmps27
  go_wp2_with (first | ((with_reducible refine gate_dst (N := 2) rfl ?_); refine box_event ?hg (N := 2) ?hd (cs := #[.int .i64 a0_0, .slice A0_1 l0_1.length c0_1]) (t := 29) ?hr ?_; (case hd => rfl); (case hg => rfl); (case hr => first | (go_simp; done) | (go_simp; rfl)); intro gb705 hg w7 hbox hb; have n0_ := Aside0.mk (below_step (by repeat (first | (with_reducible first | exact HB.out | apply below_alloc | apply pw_below_drewN | apply below_drew1) | exact HB.out)) hb); have n1_ := Aside0.mk (hbox); have n2_ := Aside0.mk ((by rw [hg]; exact (below_size (by repeat (first | (with_reducible first | exact HB.out | apply below_alloc | apply pw_below_drewN | apply below_drew1) | exact HB.out))) : w.heap.size ≤ gb705)); have n3_ := Aside0.mk ((by rw [hg]; exact (below_size (by repeat (first | (with_reducible first | exact HB.out | apply below_alloc | apply pw_below_drewN | apply below_drew1) | exact HB.out))) : w.heap.size ≤ gb705)); clear HB; have HB := n0_; have BK705 := n1_; have GW705 := n2_; have GE705 := n3_; clear n0_ n1_ n2_ n3_; clear hb hbox hg; have hcz8_0 : w7.cell? ⟨gb705, 0, none⟩ = some (.int .i64 a0_0) := (blk_cell BK705.out 0).trans rfl; have hcz8_1 : w7.cell? ⟨gb705, 1, none⟩ = some (.slice A0_1 l0_1.length c0_1) := (blk_cell BK705.out 1).trans rfl; have hfz8_0 := blk_frozen BK705.out 0; have hfz8_1 := blk_frozen BK705.out 1) | ((with_reducible refine gate_callee (f := 64) rfl ?_); refine goesL_ (some 8) rfl rfl Try.func64 (by kernel_rfl) rfl #[.slice A0_1 l0_1.length c0_1, .int .i64 a1] rfl (by (try simp only [List.map_toArray, List.map_cons, List.map_nil]); first | done | rfl | (simp only [List.length_drop, List.length_take]; rfl)) ?_; (with_reducible refine (laws_heldByteS.calls k _ _ l0_1 a1 t706 _ ?side1 ?side2 A3.out).mono ?_); (case side1 => repeat (first | exact (Kd.C_below HR0_1.out HB.out) | (with_reducible refine Kd.C_alloc ?_ _) | (with_reducible refine Kd.C_drewN ?_ _) | (with_reducible refine Kd.C_drew ?_))); (case side2 => exact HC0_1.out); rintro e w' ⟨rfl, ⟨nd, rfl⟩⟩; refine ⟨_, rfl, ?_⟩))
  go_ret
  exact ⟨by first | rfl | (simp [errW_none, errW_some] <;> rfl) | (simp [*, errW_none, errW_some] <;> rfl), by repeat (first | (with_reducible first | exact HB.out | apply below_alloc | apply pw_below_drewN | apply below_drew1 | refine below_set ?_ GE705.out) | exact HB.out)⟩
end Go.Proofs.Ytidejdfbapjfiaa.G
namespace Go.Proofs.Ytidejdfbapjfiaa.G
open Go.RowKit Go.Proofs.YtidejdfbapjfiaaW.PrintWords Go.Proofs.YtidejdfbapjfiaaW.PrintLast Go.Proofs.YtidejdfbapjfiaaW.PrintMore
attribute [local go_sem] max2_int min2_int max_two min_two max_three min_three max_four min_four   -- for this text's walks alone
set_option linter.unusedVariables false
set_option linter.unusedSimpArgs false
def laws_FnExactTtlDown.j0 : Nat → List Int → Bool → Int → List Int → Int → List Int → Option (Bool)
 | 0, _, _, _, _, _, _ => none
 | k + 1, x0, x39, x715000, x715001, x723000, x723001 => if x39 = true then (some false) else ((laws_markBytesResult.f k x723000 x723001 1).bind fun bt731 => ((laws_heldBytesResult.f k x723000 bt731.2 1).bind fun t733 => (if t733 < 0 then (some false) else (if t733 = bt731.1 then ((laws_toByteS.f k x0).bind fun t734 => ((impl_TtlDown.f k t734).bind fun bt737 => ((laws_eqBytesResult.f k bt737.1 bt737.2 x715000 x715001).bind fun t742 => (if t742 = true then ((laws_heldBytesResult.f k x723000 bt731.2 1).bind fun t743 => (if t743 < 0 then (some false) else (if t743 = bt731.1 then (some true) else (some false)))) else (some false))))) else (some false)))))
def laws_FnExactTtlDown.f (k : Nat) (l0 : List Int) : Option (Bool) := if (l0.length : Int) > 1048576 then (some true) else ((laws_toByteS.f k l0).bind fun t707 => ((spec_TtlDown.f k t707).bind fun bt710 => ((laws_toByteS.f k l0).bind fun t715 => ((impl_TtlDown.f k t715).bind fun bt718 => ((laws_eqBytesResult.f k bt718.1 bt718.2 bt710.1 bt710.2).bind fun t723 => (if t723 = true then ((laws_toByteS.f k l0).bind fun t724 => ((laws_eqByteS.f k t715 t724).bind fun t727 => (if t727 = true then ((laws_markByteS.f k t715 1).bind fun bt728 => (if bt728.1 < 0 then (laws_FnExactTtlDown.j0 k l0 true bt710.1 bt710.2 bt718.1 bt718.2) else ((laws_eqBytesResult.f k bt718.1 bt718.2 bt710.1 bt710.2).bind fun t730 => (laws_FnExactTtlDown.j0 k l0 (!t730) bt710.1 bt710.2 bt718.1 bt718.2)))) else (some false)))) else (some false)))))))
set_option maxHeartbeats 8000000 in
set_option maxRecDepth 100000 in
theorem laws_FnExactTtlDown.calls (k : Nat) (A0 : Option Addr) (c0 : Nat) (l0 : List Int) (w : World) (hr0 : Kd.C (Kd.int .u8) w A0 l0.length l0) (hc0 : l0.length ≤ c0) (h : laws_FnExactTtlDown.f k l0 = some true) :
  Calls Try.prog 5 #[.slice A0 l0.length c0] w fun e w' => e = .returned (.bool true) ∧ Below w.heap.size w w' := by
 have hu29 := Try.underlying29
 have HR0 := Aside0.mk hr0
 have HC0 := Aside0.mk hc0
 clear hr0 hc0
 have HB := Aside0.mk (Below.refl w.heap.size w)
 have H : (if (l0.length : Int) > 1048576 then (some true) else ((laws_toByteS.f k l0).bind fun t707 => ((spec_TtlDown.f k t707).bind fun bt710 => ((laws_toByteS.f k l0).bind fun t715 => ((impl_TtlDown.f k t715).bind fun bt718 => ((laws_eqBytesResult.f k bt718.1 bt718.2 bt710.1 bt710.2).bind fun t723 => (if t723 = true then ((laws_toByteS.f k l0).bind fun t724 => ((laws_eqByteS.f k t715 t724).bind fun t727 => (if t727 = true then ((laws_markByteS.f k t715 1).bind fun bt728 => (if bt728.1 < 0 then (laws_FnExactTtlDown.j0 k l0 true bt710.1 bt710.2 bt718.1 bt718.2) else ((laws_eqBytesResult.f k bt718.1 bt718.2 bt710.1 bt710.2).bind fun t730 => (laws_FnExactTtlDown.j0 k l0 (!t730) bt710.1 bt710.2 bt718.1 bt718.2)))) else (some false)))) else (some false)))))))) = some true := h
 clear h
 by_cases c2 : (l0.length : Int) > 1048576
 ·rw [if_pos c2] at H
  have c2b0 : decide (1048576 < (l0.length : Int)) = true := decide_eq_true c2
  have c2b1 : decide (1048576 < l0.length) = true := decide_eq_true (by omega)
  clear c2
  clear H
  go_enter Try.func5, Try.ntmps5
  go_wp2
  go_ret
  exact ⟨by first | rfl | (rw [hr_.out]; first | done | rfl) | (simp [errW_none, errW_some] <;> rfl) | (simp [*, errW_none, errW_some] <;> rfl), by repeat (first | (with_reducible first | exact HB.out | apply below_alloc | apply pw_below_drewN | apply below_drew1) | exact HB.out)⟩
 ·rw [if_neg c2] at H
  have c2b0 : decide (1048576 < (l0.length : Int)) = false := decide_eq_false c2
  have c2b1 : decide (1048576 < l0.length) = false := decide_eq_false (by omega)
  clear c2
  replace H := Option.bind_eq_some_iff.mp H
  obtain ⟨t707, A30, H⟩ := H
  try dsimp only at H
  have A3 := Aside0.mk A30
  clear A30
  replace H := Option.bind_eq_some_iff.mp H
  obtain ⟨⟨t710, t711⟩, A40, H⟩ := H
  try dsimp only at H
  have A4 := Aside0.mk A40
  clear A40
  replace H := Option.bind_eq_some_iff.mp H
  obtain ⟨t715, A50, H⟩ := H
  try dsimp only at H
  have A5 := Aside0.mk A50
  clear A50
  replace H := Option.bind_eq_some_iff.mp H
  obtain ⟨⟨t718, t719⟩, A60, H⟩ := H
  try dsimp only at H
  have A6 := Aside0.mk A60
  clear A60
  replace H := Option.bind_eq_some_iff.mp H
  obtain ⟨t723, A70, H⟩ := H
  try dsimp only at H
  have A7 := Aside0.mk A70
  clear A70
  by_cases c8 : t723 = true
  ·subst c8
   rw [if_pos rfl] at H
   replace H := Option.bind_eq_some_iff.mp H
   obtain ⟨t724, A90, H⟩ := H
   try dsimp only at H
   have A9 := Aside0.mk A90
   clear A90
   replace H := Option.bind_eq_some_iff.mp H
   obtain ⟨t727, A100, H⟩ := H
   try dsimp only at H
   have A10 := Aside0.mk A100
   clear A100
   by_cases c11 : t727 = true
   ·subst c11
    rw [if_pos rfl] at H
    replace H := Option.bind_eq_some_iff.mp H
    obtain ⟨⟨t728, t729⟩, A120, H⟩ := H
    try dsimp only at H
    have A12 := Aside0.mk A120
    clear A120
    have HC13 := Aside0.mk H
    clear H
    go_enter Try.func5, Try.ntmps5
    go_upto_region 12 with (first | ((with_reducible refine gate_callee (f := 16) rfl ?_); refine goesL_ (some 14) rfl rfl Try.func16 (by kernel_rfl) rfl #[.slice A0 l0.length c0] rfl (by (try simp only [List.map_toArray, List.map_cons, List.map_nil]); first | done | rfl | (simp only [List.length_drop, List.length_take]; rfl)) ?_; (with_reducible refine (laws_toByteS.calls k _ _ l0 t707 _ ?side1 ?side2 A3.out).mono ?_); (case side1 => repeat (first | exact HR0.out | (with_reducible refine Kd.C_alloc ?_ _) | (with_reducible refine Kd.C_drewN ?_ _) | (with_reducible refine Kd.C_drew ?_))); (case side2 => exact HC0.out); rintro e w14 ⟨v708, rfl, ho0, hb⟩; refine ⟨_, rfl, ?_⟩; have n0_ := Aside0.mk (Kd.R_lower ho0 (below_size (by repeat (first | (with_reducible first | exact HB.out | apply below_alloc | apply pw_below_drewN | apply below_drew1) | exact HB.out)))); have n1_ := Aside0.mk (below_step (by repeat (first | (with_reducible first | exact HB.out | apply below_alloc | apply pw_below_drewN | apply below_drew1) | exact HB.out)) hb); clear HB; have HO709 := n0_; have HB := n1_; clear n0_ n1_; (try clear hb); (try clear hb2); (try clear hk); (try clear hi); (try clear ho0); obtain ⟨Ao15, co15, eo15⟩ := Kd.R_slice HO709.out; subst eo15) | ((with_reducible refine gate_callee (f := 23) rfl ?_); refine goesL_ (some 15) rfl rfl Try.func23 (by kernel_rfl) rfl #[.slice Ao15 t707.length co15] rfl (by (try simp only [List.map_toArray, List.map_cons, List.map_nil]); first | done | rfl | (simp only [List.length_drop, List.length_take]; rfl)) ?_; (with_reducible refine (spec_TtlDown.calls k _ _ t707 t710 t711 _ ?side1 ?side2 A4.out).mono ?_); (case side1 => repeat (first | exact (Kd.R_reads' HO709.out).2.2 | (with_reducible refine Kd.C_alloc ?_ _) | (with_reducible refine Kd.C_drewN ?_ _) | (with_reducible refine Kd.C_drew ?_))); (case side2 => exact (Kd.R_reads' HO709.out).2.1); rintro e w16 ⟨v712, rfl, ho0, hb⟩; refine ⟨_, rfl, ?_⟩; have n0_ := Aside0.mk (Kd.R_elder' (by (with_reducible repeat (first | apply Kd.R_alloc | apply Kd.R_drewN | apply Kd.R_drew)); exact HO709.out) (Kd.R_base ho0) hb); have n1_ := Aside0.mk (Kd.R_lower (Kd.R_new' ho0 (Kd.R_lt (by (with_reducible repeat (first | apply Kd.R_alloc | apply Kd.R_drewN | apply Kd.R_drew)); exact HO709.out))) (below_size (by repeat (first | (with_reducible first | exact HB.out | apply below_alloc | apply pw_below_drewN | apply below_drew1) | exact HB.out)))); have n2_ := Aside0.mk (below_step (by repeat (first | (with_reducible first | exact HB.out | apply below_alloc | apply pw_below_drewN | apply below_drew1) | exact HB.out)) hb); clear HO709; clear HB; have HO709 := n0_; have HO713 := n1_; have HB := n2_; clear n0_ n1_ n2_; (try clear hb); (try clear hb2); (try clear hk); (try clear hi); (try clear ho0)) | ((with_reducible refine gate_dst (N := 3) rfl ?_); refine box_event ?hg (N := 3) ?hd (cs := #[.int .i64 0, .slice none 0 0]) (t := 29) ?hr ?_; (case hd => rfl); (case hg => rfl); (case hr => first | (go_simp; done) | (go_simp; rfl)); intro gb714 hg w17 hbox hb; have n0_ := Aside0.mk (Kd.R_below (by (with_reducible repeat (first | apply Kd.R_alloc | apply Kd.R_drewN | apply Kd.R_drew)); exact HO709.out) hb); have n1_ := Aside0.mk (Kd.R_below (by (with_reducible repeat (first | apply Kd.R_alloc | apply Kd.R_drewN | apply Kd.R_drew)); exact HO713.out) hb); have n2_ := Aside0.mk (below_step (by repeat (first | (with_reducible first | exact HB.out | apply below_alloc | apply pw_below_drewN | apply below_drew1) | exact HB.out)) hb); have n3_ := Aside0.mk (hbox); have n4_ := Aside0.mk ((by rw [hg]; exact (below_size (by repeat (first | (with_reducible first | exact HB.out | apply below_alloc | apply pw_below_drewN | apply below_drew1) | exact HB.out))) : w.heap.size ≤ gb714)); have n5_ := Aside0.mk ((by rw [hg]; exact (below_size (by repeat (first | (with_reducible first | exact HB.out | apply below_alloc | apply pw_below_drewN | apply below_drew1) | exact HB.out))) : w.heap.size ≤ gb714)); clear HO709; clear HO713; clear HB; have HO709 := n0_; have HO713 := n1_; have HB := n2_; have BK714 := n3_; have GW714 := n4_; have GE714 := n5_; clear n0_ n1_ n2_ n3_ n4_ n5_; clear hb hbox hg; have hcz18_0 : w17.cell? ⟨gb714, 0, none⟩ = some (.int .i64 0) := (blk_cell BK714.out 0).trans rfl; have hcz18_1 : w17.cell? ⟨gb714, 1, none⟩ = some (.slice none 0 0) := (blk_cell BK714.out 1).trans rfl; have hfz18_0 := blk_frozen BK714.out 0; have hfz18_1 := blk_frozen BK714.out 1; obtain ⟨Ao19, co19, eo19⟩ := Kd.R_slice HO713.out; subst eo19) | ((with_reducible refine gate_callee (f := 16) rfl ?_); refine goesL_ (some 17) rfl rfl Try.func16 (by kernel_rfl) rfl #[.slice A0 l0.length c0] rfl (by (try simp only [List.map_toArray, List.map_cons, List.map_nil]); first | done | rfl | (simp only [List.length_drop, List.length_take]; rfl)) ?_; (with_reducible refine (laws_toByteS.calls k _ _ l0 t715 _ ?side1 ?side2 A5.out).mono ?_); (case side1 => exact Kd.C_below HR0.out (by repeat (first | (with_reducible first | exact HB.out | apply below_alloc | apply pw_below_drewN | apply below_drew1 | refine below_set ?_ GE714.out) | exact HB.out))); (case side2 => exact HC0.out); rintro e w20 ⟨v716, rfl, ho0, hb⟩; refine ⟨_, rfl, ?_⟩; have n0_ := Aside0.mk (Kd.R_elder' (by (with_reducible repeat (first | apply Kd.R_alloc | apply Kd.R_drewN | apply Kd.R_drew)); exact (Kd.R_mono (Kd.R_far (p := ⟨gb714, 1, none⟩) (Kd.R_far (p := ⟨gb714, 0, none⟩) (Kd.R_types HO709.out BK714.out (by decide)) (fun _ hk => hk.2) (.int .i64 t710)) (fun _ hk => hk.2) (.slice Ao19 t711.length co19)) (fun _ h_ => h_.1))) (Kd.R_base ho0) hb); have n1_ := Aside0.mk (Kd.R_elder' (by (with_reducible repeat (first | apply Kd.R_alloc | apply Kd.R_drewN | apply Kd.R_drew)); exact (Kd.R_mono (Kd.R_far (p := ⟨gb714, 1, none⟩) (Kd.R_far (p := ⟨gb714, 0, none⟩) (Kd.R_types HO713.out BK714.out (by decide)) (fun _ hk => hk.2) (.int .i64 t710)) (fun _ hk => hk.2) (.slice Ao19 t711.length co19)) (fun _ h_ => h_.1))) (Kd.R_base ho0) hb); have n2_ := Aside0.mk (Kd.R_lower (Kd.R_new' (Kd.R_new' ho0 (Kd.R_lt (by (with_reducible repeat (first | apply Kd.R_alloc | apply Kd.R_drewN | apply Kd.R_drew)); exact (Kd.R_mono (Kd.R_far (p := ⟨gb714, 1, none⟩) (Kd.R_far (p := ⟨gb714, 0, none⟩) (Kd.R_types HO709.out BK714.out (by decide)) (fun _ hk => hk.2) (.int .i64 t710)) (fun _ hk => hk.2) (.slice Ao19 t711.length co19)) (fun _ h_ => h_.1))))) (Kd.R_lt (by (with_reducible repeat (first | apply Kd.R_alloc | apply Kd.R_drewN | apply Kd.R_drew)); exact (Kd.R_mono (Kd.R_far (p := ⟨gb714, 1, none⟩) (Kd.R_far (p := ⟨gb714, 0, none⟩) (Kd.R_types HO713.out BK714.out (by decide)) (fun _ hk => hk.2) (.int .i64 t710)) (fun _ hk => hk.2) (.slice Ao19 t711.length co19)) (fun _ h_ => h_.1))))) (below_size (by repeat (first | (with_reducible first | exact HB.out | apply below_alloc | apply pw_below_drewN | apply below_drew1 | refine below_set ?_ GE714.out) | exact HB.out)))); have n3_ := Aside0.mk (blk_below (g := gb714) (o := .cells #[.int .i64 t710, .slice Ao19 t711.length co19] 29 (0, 0)) (by (with_reducible repeat (first | refine blk_drewN ?_ _ | refine blk_drew ?_ | refine blk_alloc ?_ _)); refine blk_put (cs := #[.int .i64 t710, .slice none 0 0]) ?_ 1 _ rfl; (with_reducible repeat (first | refine blk_drewN ?_ _ | refine blk_drew ?_ | refine blk_alloc ?_ _)); refine blk_put (cs := #[.int .i64 0, .slice none 0 0]) ?_ 0 _ rfl; (with_reducible repeat (first | refine blk_drewN ?_ _ | refine blk_drew ?_ | refine blk_alloc ?_ _)); exact BK714.out) hb); have n4_ := Aside0.mk (below_step (by repeat (first | (with_reducible first | exact HB.out | apply below_alloc | apply pw_below_drewN | apply below_drew1 | refine below_set ?_ GE714.out) | exact HB.out)) hb); clear HO709; clear HO713; clear BK714; clear HB; have HO709 := n0_; have HO713 := n1_; have HO717 := n2_; have BK714 := n3_; have HB := n4_; clear n0_ n1_ n2_ n3_ n4_; (try clear hb); (try clear hb2); (try clear hk); (try clear hi); (try clear ho0); obtain ⟨Ao21, co21, eo21⟩ := Kd.R_slice HO717.out; subst eo21) | ((with_reducible refine gate_callee (f := 24) rfl ?_); refine goesL_ (some 19) rfl rfl Try.func24 (by kernel_rfl) rfl #[.slice Ao21 t715.length co21] rfl (by (try simp only [List.map_toArray, List.map_cons, List.map_nil]); first | done | rfl | (simp only [List.length_drop, List.length_take]; rfl)) ?_; (with_reducible refine (impl_TtlDown.calls k _ _ t715 t718 t719 _ ?side1 ?side2 A6.out).mono ?_); (case side1 => repeat (first | exact (Kd.R_reads' HO717.out).2.2 | (with_reducible refine Kd.C_alloc ?_ _) | (with_reducible refine Kd.C_drewN ?_ _) | (with_reducible refine Kd.C_drew ?_))); (case side2 => exact (Kd.R_reads' HO717.out).2.1); rintro e w22 ⟨v720, rfl, ho0, hb⟩; refine ⟨_, rfl, ?_⟩; have n0_ := Aside0.mk (Kd.R_elder' (by (with_reducible repeat (first | apply Kd.R_alloc | apply Kd.R_drewN | apply Kd.R_drew)); exact HO709.out) (Kd.R_base ho0) hb); have n1_ := Aside0.mk (Kd.R_elder' (by (with_reducible repeat (first | apply Kd.R_alloc | apply Kd.R_drewN | apply Kd.R_drew)); exact HO713.out) (Kd.R_base ho0) hb); have n2_ := Aside0.mk (Kd.R_elder' (by (with_reducible repeat (first | apply Kd.R_alloc | apply Kd.R_drewN | apply Kd.R_drew)); exact HO717.out) (Kd.R_base ho0) hb); have n3_ := Aside0.mk (Kd.R_lower (Kd.R_new' (Kd.R_new' (Kd.R_new' ho0 (Kd.R_lt (by (with_reducible repeat (first | apply Kd.R_alloc | apply Kd.R_drewN | apply Kd.R_drew)); exact HO709.out))) (Kd.R_lt (by (with_reducible repeat (first | apply Kd.R_alloc | apply Kd.R_drewN | apply Kd.R_drew)); exact HO713.out))) (Kd.R_lt (by (with_reducible repeat (first | apply Kd.R_alloc | apply Kd.R_drewN | apply Kd.R_drew)); exact HO717.out))) (below_size (by repeat (first | (with_reducible first | exact HB.out | apply below_alloc | apply pw_below_drewN | apply below_drew1 | refine below_set ?_ GE714.out) | exact HB.out)))); have n4_ := Aside0.mk (blk_below (g := gb714) (o := .cells #[.int .i64 t710, .slice Ao19 t711.length co19] 29 (0, 0)) (by (with_reducible repeat (first | refine blk_drewN ?_ _ | refine blk_drew ?_ | refine blk_alloc ?_ _)); exact BK714.out) hb); have n5_ := Aside0.mk (below_step (by repeat (first | (with_reducible first | exact HB.out | apply below_alloc | apply pw_below_drewN | apply below_drew1 | refine below_set ?_ GE714.out) | exact HB.out)) hb); clear HO709; clear HO713; clear HO717; clear BK714; clear HB; have HO709 := n0_; have HO713 := n1_; have HO717 := n2_; have HO721 := n3_; have BK714 := n4_; have HB := n5_; clear n0_ n1_ n2_ n3_ n4_ n5_; (try clear hb); (try clear hb2); (try clear hk); (try clear hi); (try clear ho0)) | ((with_reducible refine gate_dst (N := 5) rfl ?_); refine box_event ?hg (N := 5) ?hd (cs := #[.int .i64 0, .slice none 0 0]) (t := 29) ?hr ?_; (case hd => rfl); (case hg => rfl); (case hr => first | (go_simp; done) | (go_simp; rfl)); intro gb722 hg w23 hbox hb; have n0_ := Aside0.mk (Kd.R_below (by (with_reducible repeat (first | apply Kd.R_alloc | apply Kd.R_drewN | apply Kd.R_drew)); exact HO709.out) hb); have n1_ := Aside0.mk (Kd.R_below (by (with_reducible repeat (first | apply Kd.R_alloc | apply Kd.R_drewN | apply Kd.R_drew)); exact HO713.out) hb); have n2_ := Aside0.mk (Kd.R_below (by (with_reducible repeat (first | apply Kd.R_alloc | apply Kd.R_drewN | apply Kd.R_drew)); exact HO717.out) hb); have n3_ := Aside0.mk (Kd.R_below (by (with_reducible repeat (first | apply Kd.R_alloc | apply Kd.R_drewN | apply Kd.R_drew)); exact HO721.out) hb); have n4_ := Aside0.mk (blk_below (g := gb714) (o := .cells #[.int .i64 t710, .slice Ao19 t711.length co19] 29 (0, 0)) (by (with_reducible repeat (first | refine blk_drewN ?_ _ | refine blk_drew ?_ | refine blk_alloc ?_ _)); exact BK714.out) hb); have n5_ := Aside0.mk (below_step (by repeat (first | (with_reducible first | exact HB.out | apply below_alloc | apply pw_below_drewN | apply below_drew1 | refine below_set ?_ GE714.out) | exact HB.out)) hb); have n6_ := Aside0.mk (hbox); have n7_ := Aside0.mk ((by rw [hg]; exact (below_size (by repeat (first | (with_reducible first | exact HB.out | apply below_alloc | apply pw_below_drewN | apply below_drew1 | refine below_set ?_ GE714.out) | exact HB.out))) : w.heap.size ≤ gb722)); have n8_ := Aside0.mk ((by rw [hg]; exact (below_size (by repeat (first | (with_reducible first | exact HB.out | apply below_alloc | apply pw_below_drewN | apply below_drew1 | refine below_set ?_ GE714.out) | exact HB.out))) : w.heap.size ≤ gb722)); have n9_ := Aside0.mk ((by rw [hg]; exact Nat.ne_of_lt (blk_lt (g := gb714) (o := .cells #[.int .i64 t710, .slice Ao19 t711.length co19] 29 (0, 0)) (by (with_reducible repeat (first | refine blk_drewN ?_ _ | refine blk_drew ?_ | refine blk_alloc ?_ _)); exact BK714.out)) : gb714 ≠ gb722)); have n10_ := Aside0.mk ((by rw [hg]; exact Nat.ne_of_gt (blk_lt (g := gb714) (o := .cells #[.int .i64 t710, .slice Ao19 t711.length co19] 29 (0, 0)) (by (with_reducible repeat (first | refine blk_drewN ?_ _ | refine blk_drew ?_ | refine blk_alloc ?_ _)); exact BK714.out)) : gb722 ≠ gb714)); clear HO709; clear HO713; clear HO717; clear HO721; clear BK714; clear HB; have HO709 := n0_; have HO713 := n1_; have HO717 := n2_; have HO721 := n3_; have BK714 := n4_; have HB := n5_; have BK722 := n6_; have GW722 := n7_; have GE722 := n8_; have NB714_722 := n9_; have NB722_714 := n10_; clear n0_ n1_ n2_ n3_ n4_ n5_ n6_ n7_ n8_ n9_ n10_; clear hb hbox hg; have hnb24 := NB722_714.out; have hnc24 := NB714_722.out; have hcz25_0 : w23.cell? ⟨gb722, 0, none⟩ = some (.int .i64 0) := (blk_cell BK722.out 0).trans rfl; have hcz25_1 : w23.cell? ⟨gb722, 1, none⟩ = some (.slice none 0 0) := (blk_cell BK722.out 1).trans rfl; have hfz25_0 := blk_frozen BK722.out 0; have hfz25_1 := blk_frozen BK722.out 1; obtain ⟨Ao26, co26, eo26⟩ := Kd.R_slice HO721.out; subst eo26; have hcz27_0 : w23.cell? ⟨gb714, 0, none⟩ = some (.int .i64 t710) := (blk_cell BK714.out 0).trans rfl; have hcz27_1 : w23.cell? ⟨gb714, 1, none⟩ = some (.slice Ao19 t711.length co19) := (blk_cell BK714.out 1).trans rfl; have hfz27_0 := blk_frozen BK714.out 0; have hfz27_1 := blk_frozen BK714.out 1) | ((with_reducible refine gate_callee (f := 25) rfl ?_); refine goesL_ (some 22) rfl rfl Try.func25 (by kernel_rfl) rfl #[.agg #[.int .i64 t718, .slice Ao26 t719.length co26], .agg #[.int .i64 t710, .slice Ao19 t711.length co19]] rfl (by (try simp only [List.map_toArray, List.map_cons, List.map_nil]); first | done | rfl | (simp only [List.length_drop, List.length_take]; rfl)) ?_; (with_reducible refine (laws_eqBytesResult.calls k t718 _ _ t719 t710 _ _ t711 true _ ?side1 ?side2 ?side3 ?side4 A7.out).mono ?_); (case side1 => refine (Kd.R_reads' (e := 5) (base := w.heap.size) (ok := fun k_ => (((True ∧ some k_ ≠ (.slice Ao15 t707.length co15 : Value).ownBlock) ∧ some k_ ≠ (.slice Ao19 t711.length co19 : Value).ownBlock) ∧ some k_ ≠ (.slice Ao21 t715.length co21 : Value).ownBlock)) (n := t719.length) (c := co26) ?_).2.2; exact (by (with_reducible repeat (first | apply Kd.R_alloc | apply Kd.R_drewN | apply Kd.R_drew)); exact (Kd.R_mono (Kd.R_far (p := ⟨gb722, 1, none⟩) (Kd.R_far (p := ⟨gb722, 0, none⟩) (Kd.R_types HO721.out BK722.out (by decide)) (fun _ hk => hk.2) (.int .i64 t718)) (fun _ hk => hk.2) (.slice Ao26 t719.length co26)) (fun _ h_ => h_.1)))); (case side2 => exact (Kd.R_reads' HO721.out).2.1); (case side3 => refine (Kd.R_reads' (e := 5) (base := w.heap.size) (ok := fun k_ => (((True ∧ some k_ ≠ (.slice Ao15 t707.length co15 : Value).ownBlock) ∧ some k_ ≠ (.slice Ao21 t715.length co21 : Value).ownBlock) ∧ some k_ ≠ (.slice Ao26 t719.length co26 : Value).ownBlock)) (n := t711.length) (c := co19) ?_).2.2; exact (by (with_reducible repeat (first | apply Kd.R_alloc | apply Kd.R_drewN | apply Kd.R_drew)); exact (Kd.R_mono (Kd.R_far (p := ⟨gb722, 1, none⟩) (Kd.R_far (p := ⟨gb722, 0, none⟩) (Kd.R_types HO713.out BK722.out (by decide)) (fun _ hk => hk.2) (.int .i64 t718)) (fun _ hk => hk.2) (.slice Ao26 t719.length co26)) (fun _ h_ => h_.1)))); (case side4 => exact (Kd.R_reads' HO713.out).2.1); rintro e w28 ⟨rfl, hb⟩; refine ⟨_, rfl, ?_⟩; have n0_ := Aside0.mk (Kd.R_below (by (with_reducible repeat (first | apply Kd.R_alloc | apply Kd.R_drewN | apply Kd.R_drew)); exact (Kd.R_mono (Kd.R_far (p := ⟨gb722, 1, none⟩) (Kd.R_far (p := ⟨gb722, 0, none⟩) (Kd.R_types HO709.out BK722.out (by decide)) (fun _ hk => hk.2) (.int .i64 t718)) (fun _ hk => hk.2) (.slice Ao26 t719.length co26)) (fun _ h_ => h_.1))) hb); have n1_ := Aside0.mk (Kd.R_below (by (with_reducible repeat (first | apply Kd.R_alloc | apply Kd.R_drewN | apply Kd.R_drew)); exact (Kd.R_mono (Kd.R_far (p := ⟨gb722, 1, none⟩) (Kd.R_far (p := ⟨gb722, 0, none⟩) (Kd.R_types HO713.out BK722.out (by decide)) (fun _ hk => hk.2) (.int .i64 t718)) (fun _ hk => hk.2) (.slice Ao26 t719.length co26)) (fun _ h_ => h_.1))) hb); have n2_ := Aside0.mk (Kd.R_below (by (with_reducible repeat (first | apply Kd.R_alloc | apply Kd.R_drewN | apply Kd.R_drew)); exact (Kd.R_mono (Kd.R_far (p := ⟨gb722, 1, none⟩) (Kd.R_far (p := ⟨gb722, 0, none⟩) (Kd.R_types HO717.out BK722.out (by decide)) (fun _ hk => hk.2) (.int .i64 t718)) (fun _ hk => hk.2) (.slice Ao26 t719.length co26)) (fun _ h_ => h_.1))) hb); have n3_ := Aside0.mk (Kd.R_below (by (with_reducible repeat (first | apply Kd.R_alloc | apply Kd.R_drewN | apply Kd.R_drew)); exact (Kd.R_mono (Kd.R_far (p := ⟨gb722, 1, none⟩) (Kd.R_far (p := ⟨gb722, 0, none⟩) (Kd.R_types HO721.out BK722.out (by decide)) (fun _ hk => hk.2) (.int .i64 t718)) (fun _ hk => hk.2) (.slice Ao26 t719.length co26)) (fun _ h_ => h_.1))) hb); have n4_ := Aside0.mk (blk_below (g := gb714) (o := .cells #[.int .i64 t710, .slice Ao19 t711.length co19] 29 (0, 0)) (by (with_reducible repeat (first | refine blk_drewN ?_ _ | refine blk_drew ?_ | refine blk_alloc ?_ _)); refine blk_far ?_ NB714_722.out _; (with_reducible repeat (first | refine blk_drewN ?_ _ | refine blk_drew ?_ | refine blk_alloc ?_ _)); refine blk_far ?_ NB714_722.out _; (with_reducible repeat (first | refine blk_drewN ?_ _ | refine blk_drew ?_ | refine blk_alloc ?_ _)); exact BK714.out) hb); have n5_ := Aside0.mk (blk_below (g := gb722) (o := .cells #[.int .i64 t718, .slice Ao26 t719.length co26] 29 (0, 0)) (by (with_reducible repeat (first | refine blk_drewN ?_ _ | refine blk_drew ?_ | refine blk_alloc ?_ _)); refine blk_put (cs := #[.int .i64 t718, .slice none 0 0]) ?_ 1 _ rfl; (with_reducible repeat (first | refine blk_drewN ?_ _ | refine blk_drew ?_ | refine blk_alloc ?_ _)); refine blk_put (cs := #[.int .i64 0, .slice none 0 0]) ?_ 0 _ rfl; (with_reducible repeat (first | refine blk_drewN ?_ _ | refine blk_drew ?_ | refine blk_alloc ?_ _)); exact BK722.out) hb); have n6_ := Aside0.mk (below_step (by repeat (first | (with_reducible first | exact HB.out | apply below_alloc | apply pw_below_drewN | apply below_drew1 | refine below_set ?_ GE714.out | refine below_set ?_ GE722.out) | exact HB.out)) hb); clear HO709; clear HO713; clear HO717; clear HO721; clear BK714; clear BK722; clear HB; have HO709 := n0_; have HO713 := n1_; have HO717 := n2_; have HO721 := n3_; have BK714 := n4_; have BK722 := n5_; have HB := n6_; clear n0_ n1_ n2_ n3_ n4_ n5_ n6_; (try clear hb); (try clear hb2); (try clear hk); (try clear hi)) | ((with_reducible refine gate_callee (f := 16) rfl ?_); refine goesL_ (some 26) rfl rfl Try.func16 (by kernel_rfl) rfl #[.slice A0 l0.length c0] rfl (by (try simp only [List.map_toArray, List.map_cons, List.map_nil]); first | done | rfl | (simp only [List.length_drop, List.length_take]; rfl)) ?_; (with_reducible refine (laws_toByteS.calls k _ _ l0 t724 _ ?side1 ?side2 A9.out).mono ?_); (case side1 => repeat (first | exact (Kd.C_below HR0.out HB.out) | (with_reducible refine Kd.C_alloc ?_ _) | (with_reducible refine Kd.C_drewN ?_ _) | (with_reducible refine Kd.C_drew ?_))); (case side2 => exact HC0.out); rintro e w29 ⟨v725, rfl, ho0, hb⟩; refine ⟨_, rfl, ?_⟩; have n0_ := Aside0.mk (Kd.R_elder' (by (with_reducible repeat (first | apply Kd.R_alloc | apply Kd.R_drewN | apply Kd.R_drew)); exact HO709.out) (Kd.R_base ho0) hb); have n1_ := Aside0.mk (Kd.R_elder' (by (with_reducible repeat (first | apply Kd.R_alloc | apply Kd.R_drewN | apply Kd.R_drew)); exact HO713.out) (Kd.R_base ho0) hb); have n2_ := Aside0.mk (Kd.R_elder' (by (with_reducible repeat (first | apply Kd.R_alloc | apply Kd.R_drewN | apply Kd.R_drew)); exact HO717.out) (Kd.R_base ho0) hb); have n3_ := Aside0.mk (Kd.R_elder' (by (with_reducible repeat (first | apply Kd.R_alloc | apply Kd.R_drewN | apply Kd.R_drew)); exact HO721.out) (Kd.R_base ho0) hb); have n4_ := Aside0.mk (Kd.R_lower (Kd.R_new' (Kd.R_new' (Kd.R_new' (Kd.R_new' ho0 (Kd.R_lt (by (with_reducible repeat (first | apply Kd.R_alloc | apply Kd.R_drewN | apply Kd.R_drew)); exact HO709.out))) (Kd.R_lt (by (with_reducible repeat (first | apply Kd.R_alloc | apply Kd.R_drewN | apply Kd.R_drew)); exact HO713.out))) (Kd.R_lt (by (with_reducible repeat (first | apply Kd.R_alloc | apply Kd.R_drewN | apply Kd.R_drew)); exact HO717.out))) (Kd.R_lt (by (with_reducible repeat (first | apply Kd.R_alloc | apply Kd.R_drewN | apply Kd.R_drew)); exact HO721.out))) (below_size (by repeat (first | (with_reducible first | exact HB.out | apply below_alloc | apply pw_below_drewN | apply below_drew1 | refine below_set ?_ GE714.out | refine below_set ?_ GE722.out) | exact HB.out)))); have n5_ := Aside0.mk (blk_below (g := gb714) (o := .cells #[.int .i64 t710, .slice Ao19 t711.length co19] 29 (0, 0)) (by (with_reducible repeat (first | refine blk_drewN ?_ _ | refine blk_drew ?_ | refine blk_alloc ?_ _)); exact BK714.out) hb); have n6_ := Aside0.mk (blk_below (g := gb722) (o := .cells #[.int .i64 t718, .slice Ao26 t719.length co26] 29 (0, 0)) (by (with_reducible repeat (first | refine blk_drewN ?_ _ | refine blk_drew ?_ | refine blk_alloc ?_ _)); exact BK722.out) hb); have n7_ := Aside0.mk (below_step (by repeat (first | (with_reducible first | exact HB.out | apply below_alloc | apply pw_below_drewN | apply below_drew1 | refine below_set ?_ GE714.out | refine below_set ?_ GE722.out) | exact HB.out)) hb); clear HO709; clear HO713; clear HO717; clear HO721; clear BK714; clear BK722; clear HB; have HO709 := n0_; have HO713 := n1_; have HO717 := n2_; have HO721 := n3_; have HO726 := n4_; have BK714 := n5_; have BK722 := n6_; have HB := n7_; clear n0_ n1_ n2_ n3_ n4_ n5_ n6_ n7_; (try clear hb); (try clear hb2); (try clear hk); (try clear hi); (try clear ho0); obtain ⟨Ao30, co30, eo30⟩ := Kd.R_slice HO726.out; subst eo30) | ((with_reducible refine gate_callee (f := 19) rfl ?_); refine goesL_ (some 27) rfl rfl Try.func19 (by kernel_rfl) rfl #[.slice Ao21 t715.length co21, .slice Ao30 t724.length co30] rfl (by (try simp only [List.map_toArray, List.map_cons, List.map_nil]); first | done | rfl | (simp only [List.length_drop, List.length_take]; rfl)) ?_; (with_reducible refine (laws_eqByteS.calls k _ _ t715 _ _ t724 true _ ?side1 ?side2 ?side3 ?side4 A10.out).mono ?_); (case side1 => repeat (first | exact (Kd.R_reads' HO717.out).2.2 | (with_reducible refine Kd.C_alloc ?_ _) | (with_reducible refine Kd.C_drewN ?_ _) | (with_reducible refine Kd.C_drew ?_))); (case side2 => exact (Kd.R_reads' HO717.out).2.1); (case side3 => repeat (first | exact (Kd.R_reads' HO726.out).2.2 | (with_reducible refine Kd.C_alloc ?_ _) | (with_reducible refine Kd.C_drewN ?_ _) | (with_reducible refine Kd.C_drew ?_))); (case side4 => exact (Kd.R_reads' HO726.out).2.1); rintro e w' ⟨rfl, ⟨nd, rfl⟩⟩; refine ⟨_, rfl, ?_⟩) | ((with_reducible refine gate_callee (f := 20) rfl ?_); refine goesL_ (some 31) rfl rfl Try.func20 (by kernel_rfl) rfl #[.slice Ao21 t715.length co21, .int .i64 1] rfl (by (try simp only [List.map_toArray, List.map_cons, List.map_nil]); first | done | rfl | (simp only [List.length_drop, List.length_take]; rfl)) ?_; (with_reducible refine (laws_markByteS.calls k (fun k_ => some k_ = (.slice Ao21 t715.length co21 : Value).ownBlock) (.slice Ao21 t715.length co21) t715 1 t728 t729 w _ ?side1 ?side2 A12.out).mono ?_); (case side1 => repeat (first | (with_reducible first | exact HB.out | apply below_alloc | apply pw_below_drewN | apply below_drew1 | refine below_set ?_ GE714.out | refine below_set ?_ GE722.out) | exact HB.out)); (case side2 => exact Kd.R_tight rfl HO717.out); rintro e w31 ⟨rfl, hy0, hb, hkp⟩; refine ⟨_, rfl, ?_⟩; have n0_ := Aside0.mk (Kd.R_mono (ok' := fun k_ => some k_ ≠ (.slice Ao19 t711.length co19 : Value).ownBlock ∧ some k_ ≠ (.slice Ao21 t715.length co21 : Value).ownBlock ∧ some k_ ≠ (.slice Ao26 t719.length co26 : Value).ownBlock ∧ some k_ ≠ (.slice Ao30 t724.length co30 : Value).ownBlock) (Kd.R_keptB (HO709.out) hkp (fun k_ hk_ hs_ => (hk_.1.1.2) hs_)) (fun k_ hk_ => ⟨hk_.1.1.1.1.2, hk_.1.1.1.2, hk_.1.1.2, hk_.1.2⟩)); have n1_ := Aside0.mk (Kd.R_mono (ok' := fun k_ => some k_ ≠ (.slice Ao15 t707.length co15 : Value).ownBlock ∧ some k_ ≠ (.slice Ao21 t715.length co21 : Value).ownBlock ∧ some k_ ≠ (.slice Ao26 t719.length co26 : Value).ownBlock ∧ some k_ ≠ (.slice Ao30 t724.length co30 : Value).ownBlock) (Kd.R_keptB (HO713.out) hkp (fun k_ hk_ hs_ => (hk_.1.1.2) hs_)) (fun k_ hk_ => ⟨hk_.1.1.1.1.2, hk_.1.1.1.2, hk_.1.1.2, hk_.1.2⟩)); have n2_ := Aside0.mk (blk_kept (by (with_reducible repeat (first | refine blk_drewN ?_ _ | refine blk_drew ?_ | refine blk_alloc ?_ _)); exact BK714.out) hkp (fun hs_ => (fun e_ => (Kd.R_ne HO717.out BK714.out (by decide)) e_) hs_)); have n3_ := Aside0.mk (Kd.R_reok rfl hy0 (fun k_ e_ => HO717.out.1 k_ e_)); have n4_ := Aside0.mk (Kd.R_mono (ok' := fun k_ => some k_ ≠ (.slice Ao15 t707.length co15 : Value).ownBlock ∧ some k_ ≠ (.slice Ao19 t711.length co19 : Value).ownBlock ∧ some k_ ≠ (.slice Ao21 t715.length co21 : Value).ownBlock ∧ some k_ ≠ (.slice Ao30 t724.length co30 : Value).ownBlock) (Kd.R_keptB (HO721.out) hkp (fun k_ hk_ hs_ => (hk_.1.2) hs_)) (fun k_ hk_ => ⟨hk_.1.1.1.1.2, hk_.1.1.1.2, hk_.1.1.2, hk_.1.2⟩)); have n5_ := Aside0.mk (blk_kept (by (with_reducible repeat (first | refine blk_drewN ?_ _ | refine blk_drew ?_ | refine blk_alloc ?_ _)); exact BK722.out) hkp (fun hs_ => (fun e_ => (Kd.R_ne HO717.out BK722.out (by decide)) e_) hs_)); have n6_ := Aside0.mk (Kd.R_mono (ok' := fun k_ => some k_ ≠ (.slice Ao15 t707.length co15 : Value).ownBlock ∧ some k_ ≠ (.slice Ao19 t711.length co19 : Value).ownBlock ∧ some k_ ≠ (.slice Ao21 t715.length co21 : Value).ownBlock ∧ some k_ ≠ (.slice Ao26 t719.length co26 : Value).ownBlock) (Kd.R_keptB (HO726.out) hkp (fun k_ hk_ hs_ => (hk_.1.2) hs_)) (fun k_ hk_ => ⟨hk_.1.1.1.1.2, hk_.1.1.1.2, hk_.1.1.2, hk_.1.2⟩)); have n7_ := Aside0.mk (hb); clear HO709; clear HO713; clear BK714; clear HO717; clear HO721; clear BK722; clear HO726; clear HB; have HO709 := n0_; have HO713 := n1_; have BK714 := n2_; have HO717 := n3_; have HO721 := n4_; have BK722 := n5_; have HO726 := n6_; have HB := n7_; clear n0_ n1_ n2_ n3_ n4_ n5_ n6_ n7_; (try clear hb); (try clear hkp); (try clear hy0)))
    (try simp only [Act.put, lA_, lZ_, lS_])
    go_cut [39] (fun v39 wc => ∃ (kq : Nat) (x39_12 : Bool), v39 = .bool x39_12 ∧ Aside0 (laws_FnExactTtlDown.j0 kq l0 x39_12 t710 t711 t718 t719 = some true) ∧ Aside0 (kq ≤ k) ∧ Aside0 (Kd.R (Kd.int .u8) 5 wc w.heap.size (fun k_ => some k_ ≠ ((.slice Ao26 t719.length co26) : Value).ownBlock) (.slice Ao19 t711.length co19) t711) ∧ Aside0 (Kd.R (Kd.int .u8) 5 wc w.heap.size (fun k_ => some k_ ≠ ((.slice Ao19 t711.length co19) : Value).ownBlock) (.slice Ao26 t719.length co26) t719) ∧ Aside0 (wc.heap[gb714]? = some (.cells #[.int .i64 t710, (.slice Ao19 t711.length co19)] 29 (0, 0))) ∧ Aside0 (wc.heap[gb722]? = some (.cells #[.int .i64 t718, (.slice Ao26 t719.length co26)] 29 (0, 0))) ∧ Aside0 (Below w.heap.size w wc))
    case first =>
     have H := HC13.out
     clear HC13
     by_cases c32 : t728 < 0
     ·rw [if_pos c32] at H
      have c32b0 : decide (t728 < 0) = true := decide_eq_true c32
      clear c32
      (first | rw [c32b0] | (simp only [i64_w, i32_w]; rw [c32b0]) | skip)
      have H' := Aside0.mk H
      clear H
      go_wp2
      go_meet
      case rel => exact ⟨_, (true), (by first | rfl | (simp; done) | (simp [*]; done)), H', ⟨by first | omega | exact Nat.le_refl _⟩, ⟨by (with_reducible repeat (first | apply Kd.R_alloc | apply Kd.R_drewN | apply Kd.R_drew)); exact Kd.R_mono HO713.out (fun _ hk => hk.2.2.1)⟩, ⟨by (with_reducible repeat (first | apply Kd.R_alloc | apply Kd.R_drewN | apply Kd.R_drew)); exact Kd.R_mono HO721.out (fun _ hk => hk.2.1)⟩, ⟨by (with_reducible repeat (first | refine blk_drewN ?_ _ | refine blk_drew ?_ | refine blk_alloc ?_ _)); exact BK714.out⟩, ⟨by (with_reducible repeat (first | refine blk_drewN ?_ _ | refine blk_drew ?_ | refine blk_alloc ?_ _)); exact BK722.out⟩, ⟨by repeat (first | (with_reducible first | exact HB.out | apply below_alloc | apply pw_below_drewN | apply below_drew1 | refine below_set ?_ GE714.out | refine below_set ?_ GE722.out) | exact HB.out)⟩⟩
     ·rw [if_neg c32] at H
      have c32b0 : decide (t728 < 0) = false := decide_eq_false c32
      clear c32
      (first | rw [c32b0] | (simp only [i64_w, i32_w]; rw [c32b0]) | skip)
      replace H := Option.bind_eq_some_iff.mp H
      obtain ⟨t730, A330, H⟩ := H
      try dsimp only at H
      have A33 := Aside0.mk A330
      clear A330
      have H' := Aside0.mk H
      clear H
      have hnb34 := NB722_714.out
      have hnc34 := NB714_722.out
      have hcz35_0 : w31.cell? ⟨gb722, 0, none⟩ = some (.int .i64 t718) := (blk_cell BK722.out 0).trans rfl
      have hcz35_1 : w31.cell? ⟨gb722, 1, none⟩ = some (.slice Ao26 t719.length co26) := (blk_cell BK722.out 1).trans rfl
      have hfz35_0 := blk_frozen BK722.out 0
      have hfz35_1 := blk_frozen BK722.out 1
      have hcz36_0 : w31.cell? ⟨gb714, 0, none⟩ = some (.int .i64 t710) := (blk_cell BK714.out 0).trans rfl
      have hcz36_1 : w31.cell? ⟨gb714, 1, none⟩ = some (.slice Ao19 t711.length co19) := (blk_cell BK714.out 1).trans rfl
      have hfz36_0 := blk_frozen BK714.out 0
      have hfz36_1 := blk_frozen BK714.out 1
      go_wp2_with (first | (go_at_call 25; (with_reducible refine (laws_eqBytesResult.calls k t718 _ _ t719 t710 _ _ t711 t730 _ ?side1 ?side2 ?side3 ?side4 A33.out).mono ?_); (case side1 => repeat (first | exact (Kd.R_reads' HO721.out).2.2 | (with_reducible refine Kd.C_alloc ?_ _) | (with_reducible refine Kd.C_drewN ?_ _) | (with_reducible refine Kd.C_drew ?_))); (case side2 => exact (Kd.R_reads' HO721.out).2.1); (case side3 => repeat (first | exact (Kd.R_reads' HO713.out).2.2 | (with_reducible refine Kd.C_alloc ?_ _) | (with_reducible refine Kd.C_drewN ?_ _) | (with_reducible refine Kd.C_drew ?_))); (case side4 => exact (Kd.R_reads' HO713.out).2.1); rintro e w37 ⟨rfl, hb⟩; have n0_ := Aside0.mk (Kd.R_below (by (with_reducible repeat (first | apply Kd.R_alloc | apply Kd.R_drewN | apply Kd.R_drew)); exact HO709.out) hb); have n1_ := Aside0.mk (Kd.R_below (by (with_reducible repeat (first | apply Kd.R_alloc | apply Kd.R_drewN | apply Kd.R_drew)); exact HO713.out) hb); have n2_ := Aside0.mk (Kd.R_below (by (with_reducible repeat (first | apply Kd.R_alloc | apply Kd.R_drewN | apply Kd.R_drew)); exact HO717.out) hb); have n3_ := Aside0.mk (Kd.R_below (by (with_reducible repeat (first | apply Kd.R_alloc | apply Kd.R_drewN | apply Kd.R_drew)); exact HO721.out) hb); have n4_ := Aside0.mk (Kd.R_below (by (with_reducible repeat (first | apply Kd.R_alloc | apply Kd.R_drewN | apply Kd.R_drew)); exact HO726.out) hb); have n5_ := Aside0.mk (blk_below (g := gb714) (o := .cells #[.int .i64 t710, .slice Ao19 t711.length co19] 29 (0, 0)) (by (with_reducible repeat (first | refine blk_drewN ?_ _ | refine blk_drew ?_ | refine blk_alloc ?_ _)); exact BK714.out) hb); have n6_ := Aside0.mk (blk_below (g := gb722) (o := .cells #[.int .i64 t718, .slice Ao26 t719.length co26] 29 (0, 0)) (by (with_reducible repeat (first | refine blk_drewN ?_ _ | refine blk_drew ?_ | refine blk_alloc ?_ _)); exact BK722.out) hb); have n7_ := Aside0.mk (below_step (by repeat (first | (with_reducible first | exact HB.out | apply below_alloc | apply pw_below_drewN | apply below_drew1 | refine below_set ?_ GE714.out | refine below_set ?_ GE722.out) | exact HB.out)) hb); clear HO709; clear HO713; clear HO717; clear HO721; clear HO726; clear BK714; clear BK722; clear HB; have HO709 := n0_; have HO713 := n1_; have HO717 := n2_; have HO721 := n3_; have HO726 := n4_; have BK714 := n5_; have BK722 := n6_; have HB := n7_; clear n0_ n1_ n2_ n3_ n4_ n5_ n6_ n7_; (try clear hb); (try clear hb2); (try clear hk); (try clear hi)))
      go_meet
      case rel => exact ⟨_, (!t730), (by first | rfl | (simp; done) | (simp [*]; done)), H', ⟨by first | omega | exact Nat.le_refl _⟩, ⟨by (with_reducible repeat (first | apply Kd.R_alloc | apply Kd.R_drewN | apply Kd.R_drew)); exact Kd.R_mono HO713.out (fun _ hk => hk.2.2.1)⟩, ⟨by (with_reducible repeat (first | apply Kd.R_alloc | apply Kd.R_drewN | apply Kd.R_drew)); exact Kd.R_mono HO721.out (fun _ hk => hk.2.1)⟩, ⟨by (with_reducible repeat (first | refine blk_drewN ?_ _ | refine blk_drew ?_ | refine blk_alloc ?_ _)); exact BK714.out⟩, ⟨by (with_reducible repeat (first | refine blk_drewN ?_ _ | refine blk_drew ?_ | refine blk_alloc ?_ _)); exact BK722.out⟩, ⟨by repeat (first | (with_reducible first | exact HB.out | apply below_alloc | apply pw_below_drewN | apply below_drew1 | refine below_set ?_ GE714.out | refine below_set ?_ GE722.out) | exact HB.out)⟩⟩
    case rest =>
     clear HC13
     try clear c1
     try clear c2
     try clear c2b0
     try clear c2b1
     try clear p2
     try clear c3
     try clear c5
     try clear c8
     try clear c11
     try clear c16
     try clear c19
     try clear c20
     try clear c23
     try clear c24
     try clear c25
     try clear c32
     try clear c32b0
     try clear c34
     try clear hcz18_0
     try clear hcz18_1
     try clear hcz25_0
     try clear hcz25_1
     try clear hcz27_0
     try clear hcz27_1
     try clear hcz35_0
     try clear hcz35_1
     try clear hcz36_0
     try clear hcz36_1
     try clear hfz18_0
     try clear hfz18_1
     try clear hfz25_0
     try clear hfz25_1
     try clear hfz27_0
     try clear hfz27_1
     try clear hfz35_0
     try clear hfz35_1
     try clear hfz36_0
     try clear hfz36_1
     obtain ⟨kq, x39_12, rfl, HA, HJ12, HO_715001, HO_723001, BK714, BK722, HB⟩ := hcut
     cases kq with
     | zero => exact absurd HA.out (by simp [laws_FnExactTtlDown.j0])
     | succ kj12 =>
      have H := HA.out
      clear HA
      simp only [laws_FnExactTtlDown.j0] at H
      by_cases c38 : x39_12 = true
      ·subst c38
       rw [if_pos rfl] at H
       exact absurd (Option.some.inj H) (by decide)
      ·replace c38 := Bool.eq_false_iff.mpr c38
       subst c38
       rw [if_neg (show ¬ (false = true) by decide)] at H
       replace H := Option.bind_eq_some_iff.mp H
       obtain ⟨⟨t731, t732⟩, A390, H⟩ := H
       try dsimp only at H
       have A39 := Aside0.mk A390
       clear A390
       replace H := Option.bind_eq_some_iff.mp H
       obtain ⟨t733, A400, H⟩ := H
       try dsimp only at H
       have A40 := Aside0.mk A400
       clear A400
       by_cases c41 : t733 < 0
       ·rw [if_pos c41] at H
        have c41b0 : decide (t733 < 0) = true := decide_eq_true c41
        clear c41
        exact absurd (Option.some.inj H) (by decide)
       ·rw [if_neg c41] at H
        have c41b0 : decide (t733 < 0) = false := decide_eq_false c41
        clear c41
        by_cases c42 : t733 = t731
        ·rw [if_pos c42] at H
         have c42b0 : (t733 == t731) = true := beq_iff_eq.mpr c42
         have c42b1 : (t733 != t731) = false := bne_eq_false_iff_eq.mpr c42
         clear c42
         replace H := Option.bind_eq_some_iff.mp H
         obtain ⟨t734, A430, H⟩ := H
         try dsimp only at H
         have A43 := Aside0.mk A430
         clear A430
         replace H := Option.bind_eq_some_iff.mp H
         obtain ⟨⟨t737, t738⟩, A440, H⟩ := H
         try dsimp only at H
         have A44 := Aside0.mk A440
         clear A440
         replace H := Option.bind_eq_some_iff.mp H
         obtain ⟨t742, A450, H⟩ := H
         try dsimp only at H
         have A45 := Aside0.mk A450
         clear A450
         by_cases c46 : t742 = true
         ·subst c46
          rw [if_pos rfl] at H
          replace H := Option.bind_eq_some_iff.mp H
          obtain ⟨t743, A470, H⟩ := H
          try dsimp only at H
          have A47 := Aside0.mk A470
          clear A470
          by_cases c48 : t743 < 0
          ·rw [if_pos c48] at H
           have c48b0 : decide (t743 < 0) = true := decide_eq_true c48
           clear c48
           exact absurd (Option.some.inj H) (by decide)
          ·rw [if_neg c48] at H
           have c48b0 : decide (t743 < 0) = false := decide_eq_false c48
           clear c48
           by_cases c49 : t743 = t731
           ·rw [if_pos c49] at H
            have c49b0 : (t743 == t731) = true := beq_iff_eq.mpr c49
            have c49b1 : (t743 != t731) = false := bne_eq_false_iff_eq.mpr c49
            clear c49
            clear H
            have hnb50 := NB722_714.out
            have hnc50 := NB714_722.out
            have hcz51_0 : wc.cell? ⟨gb722, 0, none⟩ = some (.int .i64 t718) := (blk_cell BK722.out 0).trans rfl
            have hcz51_1 : wc.cell? ⟨gb722, 1, none⟩ = some (.slice Ao26 t719.length co26) := (blk_cell BK722.out 1).trans rfl
            have hfz51_0 := blk_frozen BK722.out 0
            have hfz51_1 := blk_frozen BK722.out 1
            go_wp2_with (first | ((with_reducible refine gate_callee (f := 26) rfl ?_); refine goesL_ (some 42) rfl rfl Try.func26 (by kernel_rfl) rfl #[.agg #[.int .i64 t718, .slice Ao26 t719.length co26], .int .i64 1] rfl (by (try simp only [List.map_toArray, List.map_cons, List.map_nil]); first | done | rfl | (simp only [List.length_drop, List.length_take]; rfl)) ?_; (with_reducible refine (laws_markBytesResult.calls kj12 t718 (fun k_ => some k_ = (.slice Ao26 t719.length co26 : Value).ownBlock) (.slice Ao26 t719.length co26) t719 1 t731 t732 w _ ?side1 ?side2 A39.out).mono ?_); (case side1 => repeat (first | (with_reducible first | exact HB.out | apply below_alloc | apply pw_below_drewN | apply below_drew1 | refine below_set ?_ GE714.out | refine below_set ?_ GE722.out) | exact HB.out)); (case side2 => exact Kd.R_tight rfl HO_723001.out); rintro e w52 ⟨rfl, hy0, hb, hkp⟩; refine ⟨_, rfl, ?_⟩; have n0_ := Aside0.mk (Kd.R_mono (ok' := fun k_ => some k_ ≠ (.slice Ao26 t719.length co26 : Value).ownBlock) (Kd.R_keptB (HO_715001.out) hkp (fun k_ hk_ hs_ => (hk_) hs_)) (fun k_ hk_ => hk_.1)); have n1_ := Aside0.mk (Kd.R_reok rfl hy0 (fun k_ e_ => HO_723001.out.1 k_ e_)); have n2_ := Aside0.mk (blk_kept (by (with_reducible repeat (first | refine blk_drewN ?_ _ | refine blk_drew ?_ | refine blk_alloc ?_ _)); exact BK714.out) hkp (fun hs_ => (fun e_ => (Kd.R_ne HO_723001.out BK714.out (by decide)) e_) hs_)); have n3_ := Aside0.mk (blk_kept (by (with_reducible repeat (first | refine blk_drewN ?_ _ | refine blk_drew ?_ | refine blk_alloc ?_ _)); exact BK722.out) hkp (fun hs_ => (fun e_ => (Kd.R_ne HO_723001.out BK722.out (by decide)) e_) hs_)); have n4_ := Aside0.mk (hb); clear HO_715001; clear HO_723001; clear BK714; clear BK722; clear HB; have HO_715001 := n0_; have HO_723001 := n1_; have BK714 := n2_; have BK722 := n3_; have HB := n4_; clear n0_ n1_ n2_ n3_ n4_; (try clear hb); (try clear hkp); (try clear hy0); have hcz53_0 : w52.cell? ⟨gb722, 0, none⟩ = some (.int .i64 t718) := (blk_cell BK722.out 0).trans rfl; have hcz53_1 : w52.cell? ⟨gb722, 1, none⟩ = some (.slice Ao26 t719.length co26) := (blk_cell BK722.out 1).trans rfl; have hfz53_0 := blk_frozen BK722.out 0; have hfz53_1 := blk_frozen BK722.out 1) | ((with_reducible refine gate_callee (f := 27) rfl ?_); refine goesL_ (some 45) rfl rfl Try.func27 (by kernel_rfl) rfl #[.agg #[.int .i64 t718, .slice Ao26 t732.length co26], .int .i64 1] rfl (by (try simp only [List.map_toArray, List.map_cons, List.map_nil]); first | done | (rw [show t732.length = t719.length from (Kd.R_reads' HO_723001.out).1.symm] <;> rfl) | rfl | (simp only [List.length_drop, List.length_take]; rfl)) ?_; (with_reducible refine (laws_heldBytesResult.calls kj12 t718 _ _ t732 1 t733 _ ?side1 ?side2 A40.out).mono ?_); (case side1 => repeat (first | exact (Kd.R_reads' HO_723001.out).2.2 | (with_reducible refine Kd.C_alloc ?_ _) | (with_reducible refine Kd.C_drewN ?_ _) | (with_reducible refine Kd.C_drew ?_))); (case side2 => rw [show t732.length = t719.length from (Kd.R_reads' HO_723001.out).1.symm]; exact (Kd.R_reads' HO_723001.out).2.1); rintro e w54 ⟨rfl, hb⟩; refine ⟨_, rfl, ?_⟩; have n0_ := Aside0.mk (Kd.R_below (by (with_reducible repeat (first | apply Kd.R_alloc | apply Kd.R_drewN | apply Kd.R_drew)); exact HO_715001.out) hb); have n1_ := Aside0.mk (Kd.R_below (by (with_reducible repeat (first | apply Kd.R_alloc | apply Kd.R_drewN | apply Kd.R_drew)); exact HO_723001.out) hb); have n2_ := Aside0.mk (blk_below (g := gb714) (o := .cells #[.int .i64 t710, .slice Ao19 t711.length co19] 29 (0, 0)) (by (with_reducible repeat (first | refine blk_drewN ?_ _ | refine blk_drew ?_ | refine blk_alloc ?_ _)); exact BK714.out) hb); have n3_ := Aside0.mk (blk_below (g := gb722) (o := .cells #[.int .i64 t718, .slice Ao26 t719.length co26] 29 (0, 0)) (by (with_reducible repeat (first | refine blk_drewN ?_ _ | refine blk_drew ?_ | refine blk_alloc ?_ _)); exact BK722.out) hb); have n4_ := Aside0.mk (below_step (by repeat (first | (with_reducible first | exact HB.out | apply below_alloc | apply pw_below_drewN | apply below_drew1 | refine below_set ?_ GE714.out | refine below_set ?_ GE722.out) | exact HB.out)) hb); clear HO_715001; clear HO_723001; clear BK714; clear BK722; clear HB; have HO_715001 := n0_; have HO_723001 := n1_; have BK714 := n2_; have BK722 := n3_; have HB := n4_; clear n0_ n1_ n2_ n3_ n4_; (try clear hb); (try clear hb2); (try clear hk); (try clear hi)) | ((with_reducible refine gate_callee (f := 16) rfl ?_); refine goesL_ (some 52) rfl rfl Try.func16 (by kernel_rfl) rfl #[.slice A0 l0.length c0] rfl (by (try simp only [List.map_toArray, List.map_cons, List.map_nil]); first | done | rfl | (simp only [List.length_drop, List.length_take]; rfl)) ?_; (with_reducible refine (laws_toByteS.calls kj12 _ _ l0 t734 _ ?side1 ?side2 A43.out).mono ?_); (case side1 => repeat (first | exact (Kd.C_below HR0.out HB.out) | (with_reducible refine Kd.C_alloc ?_ _) | (with_reducible refine Kd.C_drewN ?_ _) | (with_reducible refine Kd.C_drew ?_))); (case side2 => exact HC0.out); rintro e w55 ⟨v735, rfl, ho0, hb⟩; refine ⟨_, rfl, ?_⟩; have n0_ := Aside0.mk (Kd.R_elder' (by (with_reducible repeat (first | apply Kd.R_alloc | apply Kd.R_drewN | apply Kd.R_drew)); exact HO_715001.out) (Kd.R_base ho0) hb); have n1_ := Aside0.mk (Kd.R_elder' (by (with_reducible repeat (first | apply Kd.R_alloc | apply Kd.R_drewN | apply Kd.R_drew)); exact HO_723001.out) (Kd.R_base ho0) hb); have n2_ := Aside0.mk (Kd.R_lower (Kd.R_new' (Kd.R_new' ho0 (Kd.R_lt (by (with_reducible repeat (first | apply Kd.R_alloc | apply Kd.R_drewN | apply Kd.R_drew)); exact HO_715001.out))) (Kd.R_lt (by (with_reducible repeat (first | apply Kd.R_alloc | apply Kd.R_drewN | apply Kd.R_drew)); exact HO_723001.out))) (below_size (by repeat (first | (with_reducible first | exact HB.out | apply below_alloc | apply pw_below_drewN | apply below_drew1 | refine below_set ?_ GE714.out | refine below_set ?_ GE722.out) | exact HB.out)))); have n3_ := Aside0.mk (blk_below (g := gb714) (o := .cells #[.int .i64 t710, .slice Ao19 t711.length co19] 29 (0, 0)) (by (with_reducible repeat (first | refine blk_drewN ?_ _ | refine blk_drew ?_ | refine blk_alloc ?_ _)); exact BK714.out) hb); have n4_ := Aside0.mk (blk_below (g := gb722) (o := .cells #[.int .i64 t718, .slice Ao26 t719.length co26] 29 (0, 0)) (by (with_reducible repeat (first | refine blk_drewN ?_ _ | refine blk_drew ?_ | refine blk_alloc ?_ _)); exact BK722.out) hb); have n5_ := Aside0.mk (below_step (by repeat (first | (with_reducible first | exact HB.out | apply below_alloc | apply pw_below_drewN | apply below_drew1 | refine below_set ?_ GE714.out | refine below_set ?_ GE722.out) | exact HB.out)) hb); clear HO_715001; clear HO_723001; clear BK714; clear BK722; clear HB; have HO_715001 := n0_; have HO_723001 := n1_; have HO736 := n2_; have BK714 := n3_; have BK722 := n4_; have HB := n5_; clear n0_ n1_ n2_ n3_ n4_ n5_; (try clear hb); (try clear hb2); (try clear hk); (try clear hi); (try clear ho0); obtain ⟨Ao56, co56, eo56⟩ := Kd.R_slice HO736.out; subst eo56) | ((with_reducible refine gate_callee (f := 24) rfl ?_); refine goesL_ (some 53) rfl rfl Try.func24 (by kernel_rfl) rfl #[.slice Ao56 t734.length co56] rfl (by (try simp only [List.map_toArray, List.map_cons, List.map_nil]); first | done | rfl | (simp only [List.length_drop, List.length_take]; rfl)) ?_; (with_reducible refine (impl_TtlDown.calls kj12 _ _ t734 t737 t738 _ ?side1 ?side2 A44.out).mono ?_); (case side1 => repeat (first | exact (Kd.R_reads' HO736.out).2.2 | (with_reducible refine Kd.C_alloc ?_ _) | (with_reducible refine Kd.C_drewN ?_ _) | (with_reducible refine Kd.C_drew ?_))); (case side2 => exact (Kd.R_reads' HO736.out).2.1); rintro e w57 ⟨v739, rfl, ho0, hb⟩; refine ⟨_, rfl, ?_⟩; have n0_ := Aside0.mk (Kd.R_elder' (by (with_reducible repeat (first | apply Kd.R_alloc | apply Kd.R_drewN | apply Kd.R_drew)); exact HO_715001.out) (Kd.R_base ho0) hb); have n1_ := Aside0.mk (Kd.R_elder' (by (with_reducible repeat (first | apply Kd.R_alloc | apply Kd.R_drewN | apply Kd.R_drew)); exact HO_723001.out) (Kd.R_base ho0) hb); have n2_ := Aside0.mk (Kd.R_elder' (by (with_reducible repeat (first | apply Kd.R_alloc | apply Kd.R_drewN | apply Kd.R_drew)); exact HO736.out) (Kd.R_base ho0) hb); have n3_ := Aside0.mk (Kd.R_lower (Kd.R_new' (Kd.R_new' (Kd.R_new' ho0 (Kd.R_lt (by (with_reducible repeat (first | apply Kd.R_alloc | apply Kd.R_drewN | apply Kd.R_drew)); exact HO_715001.out))) (Kd.R_lt (by (with_reducible repeat (first | apply Kd.R_alloc | apply Kd.R_drewN | apply Kd.R_drew)); exact HO_723001.out))) (Kd.R_lt (by (with_reducible repeat (first | apply Kd.R_alloc | apply Kd.R_drewN | apply Kd.R_drew)); exact HO736.out))) (below_size (by repeat (first | (with_reducible first | exact HB.out | apply below_alloc | apply pw_below_drewN | apply below_drew1 | refine below_set ?_ GE714.out | refine below_set ?_ GE722.out) | exact HB.out)))); have n4_ := Aside0.mk (blk_below (g := gb714) (o := .cells #[.int .i64 t710, .slice Ao19 t711.length co19] 29 (0, 0)) (by (with_reducible repeat (first | refine blk_drewN ?_ _ | refine blk_drew ?_ | refine blk_alloc ?_ _)); exact BK714.out) hb); have n5_ := Aside0.mk (blk_below (g := gb722) (o := .cells #[.int .i64 t718, .slice Ao26 t719.length co26] 29 (0, 0)) (by (with_reducible repeat (first | refine blk_drewN ?_ _ | refine blk_drew ?_ | refine blk_alloc ?_ _)); exact BK722.out) hb); have n6_ := Aside0.mk (below_step (by repeat (first | (with_reducible first | exact HB.out | apply below_alloc | apply pw_below_drewN | apply below_drew1 | refine below_set ?_ GE714.out | refine below_set ?_ GE722.out) | exact HB.out)) hb); clear HO_715001; clear HO_723001; clear HO736; clear BK714; clear BK722; clear HB; have HO_715001 := n0_; have HO_723001 := n1_; have HO736 := n2_; have HO740 := n3_; have BK714 := n4_; have BK722 := n5_; have HB := n6_; clear n0_ n1_ n2_ n3_ n4_ n5_ n6_; (try clear hb); (try clear hb2); (try clear hk); (try clear hi); (try clear ho0)) | ((with_reducible refine gate_dst (N := 9) rfl ?_); refine box_event ?hg (N := 9) ?hd (cs := #[.int .i64 0, .slice none 0 0]) (t := 29) ?hr ?_; (case hd => rfl); (case hg => rfl); (case hr => first | (go_simp; done) | (go_simp; rfl)); intro gb741 hg w58 hbox hb; have n0_ := Aside0.mk (Kd.R_below (by (with_reducible repeat (first | apply Kd.R_alloc | apply Kd.R_drewN | apply Kd.R_drew)); exact HO_715001.out) hb); have n1_ := Aside0.mk (Kd.R_below (by (with_reducible repeat (first | apply Kd.R_alloc | apply Kd.R_drewN | apply Kd.R_drew)); exact HO_723001.out) hb); have n2_ := Aside0.mk (Kd.R_below (by (with_reducible repeat (first | apply Kd.R_alloc | apply Kd.R_drewN | apply Kd.R_drew)); exact HO736.out) hb); have n3_ := Aside0.mk (Kd.R_below (by (with_reducible repeat (first | apply Kd.R_alloc | apply Kd.R_drewN | apply Kd.R_drew)); exact HO740.out) hb); have n4_ := Aside0.mk (blk_below (g := gb714) (o := .cells #[.int .i64 t710, .slice Ao19 t711.length co19] 29 (0, 0)) (by (with_reducible repeat (first | refine blk_drewN ?_ _ | refine blk_drew ?_ | refine blk_alloc ?_ _)); exact BK714.out) hb); have n5_ := Aside0.mk (blk_below (g := gb722) (o := .cells #[.int .i64 t718, .slice Ao26 t719.length co26] 29 (0, 0)) (by (with_reducible repeat (first | refine blk_drewN ?_ _ | refine blk_drew ?_ | refine blk_alloc ?_ _)); exact BK722.out) hb); have n6_ := Aside0.mk (below_step (by repeat (first | (with_reducible first | exact HB.out | apply below_alloc | apply pw_below_drewN | apply below_drew1 | refine below_set ?_ GE714.out | refine below_set ?_ GE722.out) | exact HB.out)) hb); have n7_ := Aside0.mk (hbox); have n8_ := Aside0.mk ((by rw [hg]; exact (below_size (by repeat (first | (with_reducible first | exact HB.out | apply below_alloc | apply pw_below_drewN | apply below_drew1 | refine below_set ?_ GE714.out | refine below_set ?_ GE722.out) | exact HB.out))) : w.heap.size ≤ gb741)); have n9_ := Aside0.mk ((by rw [hg]; exact (below_size (by repeat (first | (with_reducible first | exact HB.out | apply below_alloc | apply pw_below_drewN | apply below_drew1 | refine below_set ?_ GE714.out | refine below_set ?_ GE722.out) | exact HB.out))) : w.heap.size ≤ gb741)); have n10_ := Aside0.mk ((by rw [hg]; exact Nat.ne_of_lt (blk_lt (g := gb714) (o := .cells #[.int .i64 t710, .slice Ao19 t711.length co19] 29 (0, 0)) (by (with_reducible repeat (first | refine blk_drewN ?_ _ | refine blk_drew ?_ | refine blk_alloc ?_ _)); exact BK714.out)) : gb714 ≠ gb741)); have n11_ := Aside0.mk ((by rw [hg]; exact Nat.ne_of_gt (blk_lt (g := gb714) (o := .cells #[.int .i64 t710, .slice Ao19 t711.length co19] 29 (0, 0)) (by (with_reducible repeat (first | refine blk_drewN ?_ _ | refine blk_drew ?_ | refine blk_alloc ?_ _)); exact BK714.out)) : gb741 ≠ gb714)); have n12_ := Aside0.mk ((by rw [hg]; exact Nat.ne_of_lt (blk_lt (g := gb722) (o := .cells #[.int .i64 t718, .slice Ao26 t719.length co26] 29 (0, 0)) (by (with_reducible repeat (first | refine blk_drewN ?_ _ | refine blk_drew ?_ | refine blk_alloc ?_ _)); exact BK722.out)) : gb722 ≠ gb741)); have n13_ := Aside0.mk ((by rw [hg]; exact Nat.ne_of_gt (blk_lt (g := gb722) (o := .cells #[.int .i64 t718, .slice Ao26 t719.length co26] 29 (0, 0)) (by (with_reducible repeat (first | refine blk_drewN ?_ _ | refine blk_drew ?_ | refine blk_alloc ?_ _)); exact BK722.out)) : gb741 ≠ gb722)); clear HO_715001; clear HO_723001; clear HO736; clear HO740; clear BK714; clear BK722; clear HB; have HO_715001 := n0_; have HO_723001 := n1_; have HO736 := n2_; have HO740 := n3_; have BK714 := n4_; have BK722 := n5_; have HB := n6_; have BK741 := n7_; have GW741 := n8_; have GE741 := n9_; have NB714_741 := n10_; have NB741_714 := n11_; have NB722_741 := n12_; have NB741_722 := n13_; clear n0_ n1_ n2_ n3_ n4_ n5_ n6_ n7_ n8_ n9_ n10_ n11_ n12_ n13_; clear hb hbox hg; have hnb59 := NB741_714.out; have hnc59 := NB714_741.out; have hnb60 := NB741_722.out; have hnc60 := NB722_741.out; have hcz61_0 : w58.cell? ⟨gb741, 0, none⟩ = some (.int .i64 0) := (blk_cell BK741.out 0).trans rfl; have hcz61_1 : w58.cell? ⟨gb741, 1, none⟩ = some (.slice none 0 0) := (blk_cell BK741.out 1).trans rfl; have hfz61_0 := blk_frozen BK741.out 0; have hfz61_1 := blk_frozen BK741.out 1; obtain ⟨Ao62, co62, eo62⟩ := Kd.R_slice HO740.out; subst eo62; have hcz63_0 : w58.cell? ⟨gb714, 0, none⟩ = some (.int .i64 t710) := (blk_cell BK714.out 0).trans rfl; have hcz63_1 : w58.cell? ⟨gb714, 1, none⟩ = some (.slice Ao19 t711.length co19) := (blk_cell BK714.out 1).trans rfl; have hfz63_0 := blk_frozen BK714.out 0; have hfz63_1 := blk_frozen BK714.out 1) | ((with_reducible refine gate_callee (f := 25) rfl ?_); refine goesL_ (some 56) rfl rfl Try.func25 (by kernel_rfl) rfl #[.agg #[.int .i64 t737, .slice Ao62 t738.length co62], .agg #[.int .i64 t710, .slice Ao19 t711.length co19]] rfl (by (try simp only [List.map_toArray, List.map_cons, List.map_nil]); first | done | rfl | (simp only [List.length_drop, List.length_take]; rfl)) ?_; (with_reducible refine (laws_eqBytesResult.calls kj12 t737 _ _ t738 t710 _ _ t711 true _ ?side1 ?side2 ?side3 ?side4 A45.out).mono ?_); (case side1 => refine (Kd.R_reads' (e := 5) (base := w.heap.size) (ok := fun k_ => (((True ∧ some k_ ≠ (.slice Ao19 t711.length co19 : Value).ownBlock) ∧ some k_ ≠ (.slice Ao26 t719.length co26 : Value).ownBlock) ∧ some k_ ≠ (.slice Ao56 t734.length co56 : Value).ownBlock)) (n := t738.length) (c := co62) ?_).2.2; exact (by (with_reducible repeat (first | apply Kd.R_alloc | apply Kd.R_drewN | apply Kd.R_drew)); exact (Kd.R_mono (Kd.R_far (p := ⟨gb741, 1, none⟩) (Kd.R_far (p := ⟨gb741, 0, none⟩) (Kd.R_types HO740.out BK741.out (by decide)) (fun _ hk => hk.2) (.int .i64 t737)) (fun _ hk => hk.2) (.slice Ao62 t738.length co62)) (fun _ h_ => h_.1)))); (case side2 => exact (Kd.R_reads' HO740.out).2.1); (case side3 => refine (Kd.R_reads' (e := 5) (base := w.heap.size) (ok := fun k_ => ((some k_ ≠ (.slice Ao26 t719.length co26 : Value).ownBlock ∧ some k_ ≠ (.slice Ao56 t734.length co56 : Value).ownBlock) ∧ some k_ ≠ (.slice Ao62 t738.length co62 : Value).ownBlock)) (n := t711.length) (c := co19) ?_).2.2; exact (by (with_reducible repeat (first | apply Kd.R_alloc | apply Kd.R_drewN | apply Kd.R_drew)); exact (Kd.R_mono (Kd.R_far (p := ⟨gb741, 1, none⟩) (Kd.R_far (p := ⟨gb741, 0, none⟩) (Kd.R_types HO_715001.out BK741.out (by decide)) (fun _ hk => hk.2) (.int .i64 t737)) (fun _ hk => hk.2) (.slice Ao62 t738.length co62)) (fun _ h_ => h_.1)))); (case side4 => exact (Kd.R_reads' HO_715001.out).2.1); rintro e w64 ⟨rfl, hb⟩; refine ⟨_, rfl, ?_⟩; have n0_ := Aside0.mk (Kd.R_below (by (with_reducible repeat (first | apply Kd.R_alloc | apply Kd.R_drewN | apply Kd.R_drew)); exact (Kd.R_mono (Kd.R_far (p := ⟨gb741, 1, none⟩) (Kd.R_far (p := ⟨gb741, 0, none⟩) (Kd.R_types HO_715001.out BK741.out (by decide)) (fun _ hk => hk.2) (.int .i64 t737)) (fun _ hk => hk.2) (.slice Ao62 t738.length co62)) (fun _ h_ => h_.1))) hb); have n1_ := Aside0.mk (Kd.R_below (by (with_reducible repeat (first | apply Kd.R_alloc | apply Kd.R_drewN | apply Kd.R_drew)); exact (Kd.R_mono (Kd.R_far (p := ⟨gb741, 1, none⟩) (Kd.R_far (p := ⟨gb741, 0, none⟩) (Kd.R_types HO_723001.out BK741.out (by decide)) (fun _ hk => hk.2) (.int .i64 t737)) (fun _ hk => hk.2) (.slice Ao62 t738.length co62)) (fun _ h_ => h_.1))) hb); have n2_ := Aside0.mk (Kd.R_below (by (with_reducible repeat (first | apply Kd.R_alloc | apply Kd.R_drewN | apply Kd.R_drew)); exact (Kd.R_mono (Kd.R_far (p := ⟨gb741, 1, none⟩) (Kd.R_far (p := ⟨gb741, 0, none⟩) (Kd.R_types HO736.out BK741.out (by decide)) (fun _ hk => hk.2) (.int .i64 t737)) (fun _ hk => hk.2) (.slice Ao62 t738.length co62)) (fun _ h_ => h_.1))) hb); have n3_ := Aside0.mk (Kd.R_below (by (with_reducible repeat (first | apply Kd.R_alloc | apply Kd.R_drewN | apply Kd.R_drew)); exact (Kd.R_mono (Kd.R_far (p := ⟨gb741, 1, none⟩) (Kd.R_far (p := ⟨gb741, 0, none⟩) (Kd.R_types HO740.out BK741.out (by decide)) (fun _ hk => hk.2) (.int .i64 t737)) (fun _ hk => hk.2) (.slice Ao62 t738.length co62)) (fun _ h_ => h_.1))) hb); have n4_ := Aside0.mk (blk_below (g := gb714) (o := .cells #[.int .i64 t710, .slice Ao19 t711.length co19] 29 (0, 0)) (by (with_reducible repeat (first | refine blk_drewN ?_ _ | refine blk_drew ?_ | refine blk_alloc ?_ _)); refine blk_far ?_ NB714_741.out _; (with_reducible repeat (first | refine blk_drewN ?_ _ | refine blk_drew ?_ | refine blk_alloc ?_ _)); refine blk_far ?_ NB714_741.out _; (with_reducible repeat (first | refine blk_drewN ?_ _ | refine blk_drew ?_ | refine blk_alloc ?_ _)); exact BK714.out) hb); have n5_ := Aside0.mk (blk_below (g := gb722) (o := .cells #[.int .i64 t718, .slice Ao26 t719.length co26] 29 (0, 0)) (by (with_reducible repeat (first | refine blk_drewN ?_ _ | refine blk_drew ?_ | refine blk_alloc ?_ _)); refine blk_far ?_ NB722_741.out _; (with_reducible repeat (first | refine blk_drewN ?_ _ | refine blk_drew ?_ | refine blk_alloc ?_ _)); refine blk_far ?_ NB722_741.out _; (with_reducible repeat (first | refine blk_drewN ?_ _ | refine blk_drew ?_ | refine blk_alloc ?_ _)); exact BK722.out) hb); have n6_ := Aside0.mk (blk_below (g := gb741) (o := .cells #[.int .i64 t737, .slice Ao62 t738.length co62] 29 (0, 0)) (by (with_reducible repeat (first | refine blk_drewN ?_ _ | refine blk_drew ?_ | refine blk_alloc ?_ _)); refine blk_put (cs := #[.int .i64 t737, .slice none 0 0]) ?_ 1 _ rfl; (with_reducible repeat (first | refine blk_drewN ?_ _ | refine blk_drew ?_ | refine blk_alloc ?_ _)); refine blk_put (cs := #[.int .i64 0, .slice none 0 0]) ?_ 0 _ rfl; (with_reducible repeat (first | refine blk_drewN ?_ _ | refine blk_drew ?_ | refine blk_alloc ?_ _)); exact BK741.out) hb); have n7_ := Aside0.mk (below_step (by repeat (first | (with_reducible first | exact HB.out | apply below_alloc | apply pw_below_drewN | apply below_drew1 | refine below_set ?_ GE714.out | refine below_set ?_ GE722.out | refine below_set ?_ GE741.out) | exact HB.out)) hb); clear HO_715001; clear HO_723001; clear HO736; clear HO740; clear BK714; clear BK722; clear BK741; clear HB; have HO_715001 := n0_; have HO_723001 := n1_; have HO736 := n2_; have HO740 := n3_; have BK714 := n4_; have BK722 := n5_; have BK741 := n6_; have HB := n7_; clear n0_ n1_ n2_ n3_ n4_ n5_ n6_ n7_; (try clear hb); (try clear hb2); (try clear hk); (try clear hi); have hcz65_0 : w64.cell? ⟨gb722, 0, none⟩ = some (.int .i64 t718) := (blk_cell BK722.out 0).trans rfl; have hcz65_1 : w64.cell? ⟨gb722, 1, none⟩ = some (.slice Ao26 t719.length co26) := (blk_cell BK722.out 1).trans rfl; have hfz65_0 := blk_frozen BK722.out 0; have hfz65_1 := blk_frozen BK722.out 1) | ((with_reducible refine gate_callee (f := 27) rfl ?_); refine goesL_ (some 60) rfl rfl Try.func27 (by kernel_rfl) rfl #[.agg #[.int .i64 t718, .slice Ao26 t732.length co26], .int .i64 1] rfl (by (try simp only [List.map_toArray, List.map_cons, List.map_nil]); first | done | (rw [show t732.length = t719.length from (Kd.R_reads' HO_723001.out).1.symm] <;> rfl) | rfl | (simp only [List.length_drop, List.length_take]; rfl)) ?_; (with_reducible refine (laws_heldBytesResult.calls kj12 t718 _ _ t732 1 t743 _ ?side1 ?side2 A47.out).mono ?_); (case side1 => repeat (first | exact (Kd.R_reads' HO_723001.out).2.2 | (with_reducible refine Kd.C_alloc ?_ _) | (with_reducible refine Kd.C_drewN ?_ _) | (with_reducible refine Kd.C_drew ?_))); (case side2 => rw [show t732.length = t719.length from (Kd.R_reads' HO_723001.out).1.symm]; exact (Kd.R_reads' HO_723001.out).2.1); rintro e w66 ⟨rfl, hb⟩; refine ⟨_, rfl, ?_⟩; have n0_ := Aside0.mk (Kd.R_below (by (with_reducible repeat (first | apply Kd.R_alloc | apply Kd.R_drewN | apply Kd.R_drew)); exact HO_715001.out) hb); have n1_ := Aside0.mk (Kd.R_below (by (with_reducible repeat (first | apply Kd.R_alloc | apply Kd.R_drewN | apply Kd.R_drew)); exact HO_723001.out) hb); have n2_ := Aside0.mk (Kd.R_below (by (with_reducible repeat (first | apply Kd.R_alloc | apply Kd.R_drewN | apply Kd.R_drew)); exact HO736.out) hb); have n3_ := Aside0.mk (Kd.R_below (by (with_reducible repeat (first | apply Kd.R_alloc | apply Kd.R_drewN | apply Kd.R_drew)); exact HO740.out) hb); have n4_ := Aside0.mk (blk_below (g := gb714) (o := .cells #[.int .i64 t710, .slice Ao19 t711.length co19] 29 (0, 0)) (by (with_reducible repeat (first | refine blk_drewN ?_ _ | refine blk_drew ?_ | refine blk_alloc ?_ _)); exact BK714.out) hb); have n5_ := Aside0.mk (blk_below (g := gb722) (o := .cells #[.int .i64 t718, .slice Ao26 t719.length co26] 29 (0, 0)) (by (with_reducible repeat (first | refine blk_drewN ?_ _ | refine blk_drew ?_ | refine blk_alloc ?_ _)); exact BK722.out) hb); have n6_ := Aside0.mk (blk_below (g := gb741) (o := .cells #[.int .i64 t737, .slice Ao62 t738.length co62] 29 (0, 0)) (by (with_reducible repeat (first | refine blk_drewN ?_ _ | refine blk_drew ?_ | refine blk_alloc ?_ _)); exact BK741.out) hb); have n7_ := Aside0.mk (below_step (by repeat (first | (with_reducible first | exact HB.out | apply below_alloc | apply pw_below_drewN | apply below_drew1 | refine below_set ?_ GE714.out | refine below_set ?_ GE722.out | refine below_set ?_ GE741.out) | exact HB.out)) hb); clear HO_715001; clear HO_723001; clear HO736; clear HO740; clear BK714; clear BK722; clear BK741; clear HB; have HO_715001 := n0_; have HO_723001 := n1_; have HO736 := n2_; have HO740 := n3_; have BK714 := n4_; have BK722 := n5_; have BK741 := n6_; have HB := n7_; clear n0_ n1_ n2_ n3_ n4_ n5_ n6_ n7_; (try clear hb); (try clear hb2); (try clear hk); (try clear hi)))
            go_ret
            exact ⟨by first | rfl | (rw [hr_.out]; first | done | rfl) | (simp [errW_none, errW_some] <;> rfl) | (simp [*, errW_none, errW_some] <;> rfl), by repeat (first | (with_reducible first | exact HB.out | apply below_alloc | apply pw_below_drewN | apply below_drew1 | refine below_set ?_ GE714.out | refine below_set ?_ GE722.out | refine below_set ?_ GE741.out) | exact HB.out)⟩
           ·rw [if_neg c49] at H
            have c49b0 : (t743 == t731) = false := beq_eq_false_iff_ne.mpr c49
            have c49b1 : (t743 != t731) = true := bne_iff_ne.mpr c49
            exact absurd (Option.some.inj H) (by decide)
         ·replace c46 := Bool.eq_false_iff.mpr c46
          subst c46
          rw [if_neg (show ¬ (false = true) by decide)] at H
          exact absurd (Option.some.inj H) (by decide)
        ·rw [if_neg c42] at H
         have c42b0 : (t733 == t731) = false := beq_eq_false_iff_ne.mpr c42
         have c42b1 : (t733 != t731) = true := bne_iff_ne.mpr c42
         exact absurd (Option.some.inj H) (by decide)
   ·replace c11 := Bool.eq_false_iff.mpr c11
    subst c11
    rw [if_neg (show ¬ (false = true) by decide)] at H
    exact absurd (Option.some.inj H) (by decide)
  ·replace c8 := Bool.eq_false_iff.mpr c8
   subst c8
   rw [if_neg (show ¬ (false = true) by decide)] at H
   exact absurd (Option.some.inj H) (by decide)
end Go.Proofs.Ytidejdfbapjfiaa.G
