/- Part 4 of the proof of FnExactMoveTerm: what the functions on its road do, and the plain laws. -/
import Derived.Test.YtpagejjjfpkmcaaCFnExactMoveTerm3
import Derived.Maps.OwnOps
import Derived.DeepKeys4
import Derived.Maps.Views
namespace Go.Proofs.Ytpagejjjfpkmcaa.G
open Go.RowKit Go.Proofs.YtpagejjjfpkmcaaW.PrintWords Go.Proofs.YtpagejjjfpkmcaaW.PrintLast Go.Proofs.YtpagejjjfpkmcaaW.PrintMore
attribute [local go_sem] max2_int min2_int max_two min_two max_three min_three max_four min_four   -- for this text's walks alone
set_option linter.unusedVariables false
set_option linter.unusedSimpArgs false
theorem impl_in_eq (a b c : Int) : impl_in.f a b c = some (decide (b ≤ a ∧ a ≤ c)) := by
  unfold impl_in.f; split
  · congr 1; simp; omega
  · congr 1; simp; omega
set_option maxHeartbeats 4000000 in
set_option maxRecDepth 100000 in
theorem impl_isPlace.callsF (A0 : Option Addr) (n c0 : Nat) (x : Int) (hn : n ≤ 9223372036854775807) (w : World) :
    Calls Try.prog 19 #[.slice A0 n c0, .int .i64 x] w fun e w' => e = .returned (.bool (decide (0 ≤ x ∧ x ≤ (n : Int) - 1))) ∧ Below w.heap.size w w' := by
  have HI := Aside0.mk (impl_in_eq x 0 ((n : Int) - 1))
  obtain ⟨r, hr⟩ : ∃ r, r = decide (0 ≤ x ∧ x ≤ (n : Int) - 1) := ⟨_, rfl⟩
  rw [← hr] at HI ⊢
  clear hr
  have e1 : wrap64 ((n : Int) - 1) = (n : Int) - 1 := by unfold wrap64; omega
  go_enter Try.func19, Try.ntmps19
  go_wp2_with (go_at_call 37; refine (impl_in.calls _ _ _ _ _ HI.out).mono ?_; rintro e w' ⟨rfl, ⟨nd, rfl⟩⟩)
  go_ret
  exact ⟨rfl, lN_ (Below.refl _ _) _⟩
set_option maxHeartbeats 4000000 in
set_option maxRecDepth 100000 in
theorem impl_fault_1.calls (A0 : Option Addr) (n c0 B : Nat) (x : Int) (hn : n ≤ 9223372036854775807) (W : World) (hc : W.cell? ⟨B, 0, none⟩ = some (.slice A0 n c0)) :
    Calls Try.prog 44 (#[.int .i64 x] ++ #[.pointer (some ⟨B, 0, none⟩)]) W fun e w' => e = .returned (.bool (!decide (0 ≤ x ∧ x ≤ (n : Int) - 1))) ∧ Below W.heap.size W w' := by
  have hC := fun W' => impl_isPlace.callsF A0 n c0 x hn W'
  generalize decide (0 ≤ x ∧ x ≤ (n : Int) - 1) = r at hC ⊢
  go_enter Try.func44, Try.ntmps44
  go_wp2_with (go_at_call 19; refine (hC _).mono ?_; rintro e w' ⟨rfl, hb⟩)
  go_ret
  exact ⟨rfl, hb⟩
set_option maxHeartbeats 4000000 in
set_option maxRecDepth 100000 in
theorem impl_fault_2.calls (A0 : Option Addr) (l : List (S37)) (c0 B : Nat) (x : Int) (W : World) (hc : W.cell? ⟨B, 0, none⟩ = some (.slice A0 l.length c0)) (hr : Kd.C k37 W A0 l.length l) (h0 : 0 ≤ x) (h1 : x < (l.length : Int)) :
    Calls Try.prog 45 (#[.int .i64 x] ++ #[.pointer (some ⟨B, 0, none⟩)]) W fun e w' => e = .returned (.bool ((rd_T37 l x).f0 != 2)) ∧ Below W.heap.size W w' := by
  obtain ⟨ad, e, hx0, _⟩ := at_T37 hr x h0 h1
  clear hr
  subst e
  generalize (rd_T37 l x).f0 = y at hx0 ⊢
  obtain ⟨i, rfl⟩ := Int.eq_ofNat_of_zero_le h0
  rw [Int.toNat_natCast] at hx0
  have hlt : i < l.length := by omega
  go_enter Try.func45, Try.ntmps45
  go_wp2
  go_ret
  exact ⟨rfl, Below.refl _ _⟩
theorem fault_in (l1 : List S37) (ps : List Int) (hp : ps.any (fun x => !decide (0 ≤ x ∧ x ≤ (l1.length : Int) - 1)) = false) : ∀ x ∈ ps, 0 ≤ x ∧ x < (l1.length : Int) := by
  intro x hx
  have := List.any_eq_false.1 hp x hx
  simp at this
  omega
set_option maxHeartbeats 4000000 in
set_option maxRecDepth 100000 in
theorem fault_text (a0_0 a0_1 a0_2 a0_3 : Int) (A1 : Option Addr) (c1 : Nat) (l1 : List S37) (w : World) (hr1 : Kd.C k37 w A1 l1.length l1) (hl : l1.length ≤ 9223372036854775807) (hop : ¬ (1 ≤ a0_0 ∧ a0_0 ≤ 7)) :
    Calls Try.prog 36 #[.agg #[.int .i64 a0_0, .int .i64 a0_1, .int .i64 a0_2, .int .i64 a0_3], .slice A1 l1.length c1] w fun e w' => e = .returned (.int .i64 5) ∧ Below w.heap.size w w' := by
  have hmf : ∀ (fn : Fn) (first cap : Array Value) (w : World), (Instr.makeFunc fn first cap).run Try.prog w = .ok (.func fn first cap) w := fun _ _ _ _ => rfl
  have HB := Aside0.mk (Below.refl w.heap.size w)
  have HR := Aside0.mk hr1
  have HL := Aside0.mk hl
  clear hr1 hl
  have HI := Aside0.mk (show impl_in.f a0_0 1 7 = some false by rw [impl_in_eq, decide_eq_false hop])
  clear hop
  go_enter Try.func36, Try.ntmps36
  go_wp2_with (first
    | ((with_reducible refine gate_dst (N := 2) rfl ?_); refine box_event ?hg (N := 2) ?hd (cs := #[.int .i64 a0_0, .int .i64 a0_1, .int .i64 a0_2, .int .i64 a0_3]) (t := 37) ?hr ?_; (case hd => rfl); (case hg => rfl); (case hr => first | (go_simp; done) | (go_simp; rfl)); intro g2 hg w2 hbox hb; have n0_ := Aside0.mk (lP_ HB.out hb); have n1_ := Aside0.mk hbox; clear HB; have HB := n0_; have BK2 := n1_; clear n0_ n1_ hb hbox hg)
    | ((with_reducible refine gate_dst (N := 3) rfl ?_); refine box_event ?hg (N := 3) ?hd (cs := #[.slice A1 l1.length c1]) (t := 24) ?hr ?_; (case hd => rfl); (case hg => rfl); (case hr => first | (go_simp; done) | (go_simp; rfl)); intro g3 hg w3 hbox hb; have n0_ := Aside0.mk (lP_ HB.out hb); have n1_ := Aside0.mk (bB_ BK2.out hb); have n2_ := Aside0.mk hbox; clear HB BK2; have HB := n0_; have BK2 := n1_; have BK3 := n2_; clear n0_ n1_ n2_ hb hbox hg; have q0_ : w3.cell? ⟨g2, 0, none⟩ = some (.int .i64 a0_0) := (blk_cell BK2.out 0).trans rfl; have q1_ : w3.cell? ⟨g2, 1, none⟩ = some (.int .i64 a0_1) := (blk_cell BK2.out 1).trans rfl; have q2_ : w3.cell? ⟨g2, 2, none⟩ = some (.int .i64 a0_2) := (blk_cell BK2.out 2).trans rfl; have q3_ : w3.cell? ⟨g2, 3, none⟩ = some (.int .i64 a0_3) := (blk_cell BK2.out 3).trans rfl)
    | (go_at_call 37; with_reducible refine (impl_in.calls a0_0 1 7 _ _ HI.out).mono ?_; rintro e w4 ⟨rfl, hd⟩; have hb := hd.below; clear hd; have n0_ := Aside0.mk (lP_ HB.out hb); have n1_ := Aside0.mk (bB_ BK2.out hb); have n2_ := Aside0.mk (bB_ BK3.out hb); clear HB BK2 BK3 hb; have HB := n0_; have BK2 := n1_; have BK3 := n2_; clear n0_ n1_ n2_ q0_ q1_ q2_ q3_; have q0_ : w4.cell? ⟨g2, 0, none⟩ = some (.int .i64 a0_0) := (blk_cell BK2.out 0).trans rfl; have q1_ : w4.cell? ⟨g2, 1, none⟩ = some (.int .i64 a0_1) := (blk_cell BK2.out 1).trans rfl; have q2_ : w4.cell? ⟨g2, 2, none⟩ = some (.int .i64 a0_2) := (blk_cell BK2.out 2).trans rfl; have q3_ : w4.cell? ⟨g2, 3, none⟩ = some (.int .i64 a0_3) := (blk_cell BK2.out 3).trans rfl))
  go_ret
  exact ⟨rfl, HB.out⟩
set_option maxHeartbeats 4000000 in
set_option maxRecDepth 100000 in
theorem fault_n_a (a0_0 a0_1 a0_2 a0_3 : Int) (A1 : Option Addr) (c1 : Nat) (l1 : List S37) (w : World) (hr1 : Kd.C k37 w A1 l1.length l1) (hl : l1.length ≤ 9223372036854775807) (hI : impl_in.f a0_0 1 7 = some true) (hN : impl_namesOf.f 1 a0_0 = some (false, false, true)) (h : ¬ a0_1 = 0) :
    Calls Try.prog 36 #[.agg #[.int .i64 a0_0, .int .i64 a0_1, .int .i64 a0_2, .int .i64 a0_3], .slice A1 l1.length c1] w fun e w' => e = .returned (.int .i64 1) ∧ Below w.heap.size w w' := by
  have hmf : ∀ (fn : Fn) (first cap : Array Value) (w : World), (Instr.makeFunc fn first cap).run Try.prog w = .ok (.func fn first cap) w := fun _ _ _ _ => rfl
  have HB := Aside0.mk (Below.refl w.heap.size w)
  have HR := Aside0.mk hr1
  have HL := Aside0.mk hl
  clear hr1 hl
  have h0 : (a0_1 == 0) = false := by simpa using h
  have h1 : (a0_1 != 0) = true := by simpa using h
  have h2 : decide (a0_1 = 0) = false := decide_eq_false h
  clear h
  have HI := Aside0.mk hI
  have HN := Aside0.mk hN
  clear hI hN
  go_enter Try.func36, Try.ntmps36
  go_wp2_with (first
    | ((with_reducible refine gate_dst (N := 2) rfl ?_); refine box_event ?hg (N := 2) ?hd (cs := #[.int .i64 a0_0, .int .i64 a0_1, .int .i64 a0_2, .int .i64 a0_3]) (t := 37) ?hr ?_; (case hd => rfl); (case hg => rfl); (case hr => first | (go_simp; done) | (go_simp; rfl)); intro g2 hg w2 hbox hb; have n0_ := Aside0.mk (lP_ HB.out hb); have n1_ := Aside0.mk hbox; clear HB; have HB := n0_; have BK2 := n1_; clear n0_ n1_ hb hbox hg)
    | ((with_reducible refine gate_dst (N := 3) rfl ?_); refine box_event ?hg (N := 3) ?hd (cs := #[.slice A1 l1.length c1]) (t := 24) ?hr ?_; (case hd => rfl); (case hg => rfl); (case hr => first | (go_simp; done) | (go_simp; rfl)); intro g3 hg w3 hbox hb; have n0_ := Aside0.mk (lP_ HB.out hb); have n1_ := Aside0.mk (bB_ BK2.out hb); have n2_ := Aside0.mk hbox; clear HB BK2; have HB := n0_; have BK2 := n1_; have BK3 := n2_; clear n0_ n1_ n2_ hb hbox hg; have q0_ : w3.cell? ⟨g2, 0, none⟩ = some (.int .i64 a0_0) := (blk_cell BK2.out 0).trans rfl; have q1_ : w3.cell? ⟨g2, 1, none⟩ = some (.int .i64 a0_1) := (blk_cell BK2.out 1).trans rfl; have q2_ : w3.cell? ⟨g2, 2, none⟩ = some (.int .i64 a0_2) := (blk_cell BK2.out 2).trans rfl; have q3_ : w3.cell? ⟨g2, 3, none⟩ = some (.int .i64 a0_3) := (blk_cell BK2.out 3).trans rfl)
    | (go_at_call 37; with_reducible refine (impl_in.calls a0_0 1 7 _ _ HI.out).mono ?_; rintro e w4 ⟨rfl, hd⟩; have hb := hd.below; clear hd; have n0_ := Aside0.mk (lP_ HB.out hb); have n1_ := Aside0.mk (bB_ BK2.out hb); have n2_ := Aside0.mk (bB_ BK3.out hb); clear HB BK2 BK3 hb; have HB := n0_; have BK2 := n1_; have BK3 := n2_; clear n0_ n1_ n2_ q0_ q1_ q2_ q3_; have q0_ : w4.cell? ⟨g2, 0, none⟩ = some (.int .i64 a0_0) := (blk_cell BK2.out 0).trans rfl; have q1_ : w4.cell? ⟨g2, 1, none⟩ = some (.int .i64 a0_1) := (blk_cell BK2.out 1).trans rfl; have q2_ : w4.cell? ⟨g2, 2, none⟩ = some (.int .i64 a0_2) := (blk_cell BK2.out 2).trans rfl; have q3_ : w4.cell? ⟨g2, 3, none⟩ = some (.int .i64 a0_3) := (blk_cell BK2.out 3).trans rfl)
    | (go_at_call 22; with_reducible refine (impl_namesOf.calls 1 a0_0 false false true _ HN.out).mono ?_; rintro e w5 ⟨rfl, hb⟩; have n0_ := Aside0.mk (lP_ HB.out hb); have n1_ := Aside0.mk (bB_ BK2.out hb); have n2_ := Aside0.mk (bB_ BK3.out hb); clear HB BK2 BK3 hb; have HB := n0_; have BK2 := n1_; have BK3 := n2_; clear n0_ n1_ n2_ q0_ q1_ q2_ q3_)
    | ((with_reducible refine gate_dst (N := 5) rfl ?_); refine box_event ?hg (N := 5) ?hd (cs := #[.bool false, .bool false, .bool false]) (t := 47) ?hr ?_; (case hd => rfl); (case hg => rfl); (case hr => first | (go_simp; done) | (go_simp; rfl)); intro g5 hg w6 hbox hb; have n0_ := Aside0.mk (lP_ HB.out hb); have n1_ := Aside0.mk (bB_ BK2.out hb); have n2_ := Aside0.mk (bB_ BK3.out hb); have n3_ := Aside0.mk hbox; have n4_ := Aside0.mk (show w.heap.size ≤ g5 by rw [hg]; exact below_size HB.out); have n5_ := Aside0.mk (show g2 ≠ g5 by rw [hg]; exact Nat.ne_of_lt (blk_lt BK2.out)); have n6_ := Aside0.mk (show g3 ≠ g5 by rw [hg]; exact Nat.ne_of_lt (blk_lt BK3.out)); clear HB BK2 BK3; have HB := n0_; have BK2 := n1_; have BK3 := n2_; have BK5 := n3_; have GE5 := n4_; have NB25 := n5_; have NB35 := n6_; clear n0_ n1_ n2_ n3_ n4_ n5_ n6_ hb hbox hg; have hnb_ := NB25.out; have hnc_ := NB25.out.symm; have q0_ : w6.cell? ⟨g2, 0, none⟩ = some (.int .i64 a0_0) := (blk_cell BK2.out 0).trans rfl; have q1_ : w6.cell? ⟨g2, 1, none⟩ = some (.int .i64 a0_1) := (blk_cell BK2.out 1).trans rfl; have q2_ : w6.cell? ⟨g2, 2, none⟩ = some (.int .i64 a0_2) := (blk_cell BK2.out 2).trans rfl; have q3_ : w6.cell? ⟨g2, 3, none⟩ = some (.int .i64 a0_3) := (blk_cell BK2.out 3).trans rfl; have p0_ : w6.cell? ⟨g5, 0, none⟩ = some (.bool false) := (blk_cell BK5.out 0).trans rfl; have p1_ : w6.cell? ⟨g5, 1, none⟩ = some (.bool false) := (blk_cell BK5.out 1).trans rfl; have p2_ : w6.cell? ⟨g5, 2, none⟩ = some (.bool false) := (blk_cell BK5.out 2).trans rfl; have f0_ := blk_frozen BK5.out 0; have f1_ := blk_frozen BK5.out 1; have f2_ := blk_frozen BK5.out 2))
  go_ret
  exact ⟨rfl, (by repeat (first | exact HB.out | refine lS1_ ?_ GE5.out))⟩
set_option maxHeartbeats 4000000 in
set_option maxRecDepth 100000 in
theorem fault_n_b (a0_0 a0_2 a0_3 : Int) (A1 : Option Addr) (c1 : Nat) (l1 : List S37) (w : World) (hr1 : Kd.C k37 w A1 l1.length l1) (hl : l1.length ≤ 9223372036854775807) (hI : impl_in.f a0_0 1 7 = some true) (hN : impl_namesOf.f 1 a0_0 = some (false, false, true)) (h : ¬ a0_2 = 0) :
    Calls Try.prog 36 #[.agg #[.int .i64 a0_0, .int .i64 0, .int .i64 a0_2, .int .i64 a0_3], .slice A1 l1.length c1] w fun e w' => e = .returned (.int .i64 1) ∧ Below w.heap.size w w' := by
  have hmf : ∀ (fn : Fn) (first cap : Array Value) (w : World), (Instr.makeFunc fn first cap).run Try.prog w = .ok (.func fn first cap) w := fun _ _ _ _ => rfl
  have HB := Aside0.mk (Below.refl w.heap.size w)
  have HR := Aside0.mk hr1
  have HL := Aside0.mk hl
  clear hr1 hl
  have h0 : (a0_2 == 0) = false := by simpa using h
  have h1 : (a0_2 != 0) = true := by simpa using h
  have h2 : decide (a0_2 = 0) = false := decide_eq_false h
  clear h
  have HI := Aside0.mk hI
  have HN := Aside0.mk hN
  clear hI hN
  go_enter Try.func36, Try.ntmps36
  go_wp2_with (first
    | ((with_reducible refine gate_dst (N := 2) rfl ?_); refine box_event ?hg (N := 2) ?hd (cs := #[.int .i64 a0_0, .int .i64 0, .int .i64 a0_2, .int .i64 a0_3]) (t := 37) ?hr ?_; (case hd => rfl); (case hg => rfl); (case hr => first | (go_simp; done) | (go_simp; rfl)); intro g2 hg w2 hbox hb; have n0_ := Aside0.mk (lP_ HB.out hb); have n1_ := Aside0.mk hbox; clear HB; have HB := n0_; have BK2 := n1_; clear n0_ n1_ hb hbox hg)
    | ((with_reducible refine gate_dst (N := 3) rfl ?_); refine box_event ?hg (N := 3) ?hd (cs := #[.slice A1 l1.length c1]) (t := 24) ?hr ?_; (case hd => rfl); (case hg => rfl); (case hr => first | (go_simp; done) | (go_simp; rfl)); intro g3 hg w3 hbox hb; have n0_ := Aside0.mk (lP_ HB.out hb); have n1_ := Aside0.mk (bB_ BK2.out hb); have n2_ := Aside0.mk hbox; clear HB BK2; have HB := n0_; have BK2 := n1_; have BK3 := n2_; clear n0_ n1_ n2_ hb hbox hg; have q0_ : w3.cell? ⟨g2, 0, none⟩ = some (.int .i64 a0_0) := (blk_cell BK2.out 0).trans rfl; have q1_ : w3.cell? ⟨g2, 1, none⟩ = some (.int .i64 0) := (blk_cell BK2.out 1).trans rfl; have q2_ : w3.cell? ⟨g2, 2, none⟩ = some (.int .i64 a0_2) := (blk_cell BK2.out 2).trans rfl; have q3_ : w3.cell? ⟨g2, 3, none⟩ = some (.int .i64 a0_3) := (blk_cell BK2.out 3).trans rfl)
    | (go_at_call 37; with_reducible refine (impl_in.calls a0_0 1 7 _ _ HI.out).mono ?_; rintro e w4 ⟨rfl, hd⟩; have hb := hd.below; clear hd; have n0_ := Aside0.mk (lP_ HB.out hb); have n1_ := Aside0.mk (bB_ BK2.out hb); have n2_ := Aside0.mk (bB_ BK3.out hb); clear HB BK2 BK3 hb; have HB := n0_; have BK2 := n1_; have BK3 := n2_; clear n0_ n1_ n2_ q0_ q1_ q2_ q3_; have q0_ : w4.cell? ⟨g2, 0, none⟩ = some (.int .i64 a0_0) := (blk_cell BK2.out 0).trans rfl; have q1_ : w4.cell? ⟨g2, 1, none⟩ = some (.int .i64 0) := (blk_cell BK2.out 1).trans rfl; have q2_ : w4.cell? ⟨g2, 2, none⟩ = some (.int .i64 a0_2) := (blk_cell BK2.out 2).trans rfl; have q3_ : w4.cell? ⟨g2, 3, none⟩ = some (.int .i64 a0_3) := (blk_cell BK2.out 3).trans rfl)
    | (go_at_call 22; with_reducible refine (impl_namesOf.calls 1 a0_0 false false true _ HN.out).mono ?_; rintro e w5 ⟨rfl, hb⟩; have n0_ := Aside0.mk (lP_ HB.out hb); have n1_ := Aside0.mk (bB_ BK2.out hb); have n2_ := Aside0.mk (bB_ BK3.out hb); clear HB BK2 BK3 hb; have HB := n0_; have BK2 := n1_; have BK3 := n2_; clear n0_ n1_ n2_ q0_ q1_ q2_ q3_)
    | ((with_reducible refine gate_dst (N := 5) rfl ?_); refine box_event ?hg (N := 5) ?hd (cs := #[.bool false, .bool false, .bool false]) (t := 47) ?hr ?_; (case hd => rfl); (case hg => rfl); (case hr => first | (go_simp; done) | (go_simp; rfl)); intro g5 hg w6 hbox hb; have n0_ := Aside0.mk (lP_ HB.out hb); have n1_ := Aside0.mk (bB_ BK2.out hb); have n2_ := Aside0.mk (bB_ BK3.out hb); have n3_ := Aside0.mk hbox; have n4_ := Aside0.mk (show w.heap.size ≤ g5 by rw [hg]; exact below_size HB.out); have n5_ := Aside0.mk (show g2 ≠ g5 by rw [hg]; exact Nat.ne_of_lt (blk_lt BK2.out)); have n6_ := Aside0.mk (show g3 ≠ g5 by rw [hg]; exact Nat.ne_of_lt (blk_lt BK3.out)); clear HB BK2 BK3; have HB := n0_; have BK2 := n1_; have BK3 := n2_; have BK5 := n3_; have GE5 := n4_; have NB25 := n5_; have NB35 := n6_; clear n0_ n1_ n2_ n3_ n4_ n5_ n6_ hb hbox hg; have hnb_ := NB25.out; have hnc_ := NB25.out.symm; have q0_ : w6.cell? ⟨g2, 0, none⟩ = some (.int .i64 a0_0) := (blk_cell BK2.out 0).trans rfl; have q1_ : w6.cell? ⟨g2, 1, none⟩ = some (.int .i64 0) := (blk_cell BK2.out 1).trans rfl; have q2_ : w6.cell? ⟨g2, 2, none⟩ = some (.int .i64 a0_2) := (blk_cell BK2.out 2).trans rfl; have q3_ : w6.cell? ⟨g2, 3, none⟩ = some (.int .i64 a0_3) := (blk_cell BK2.out 3).trans rfl; have p0_ : w6.cell? ⟨g5, 0, none⟩ = some (.bool false) := (blk_cell BK5.out 0).trans rfl; have p1_ : w6.cell? ⟨g5, 1, none⟩ = some (.bool false) := (blk_cell BK5.out 1).trans rfl; have p2_ : w6.cell? ⟨g5, 2, none⟩ = some (.bool false) := (blk_cell BK5.out 2).trans rfl; have f0_ := blk_frozen BK5.out 0; have f1_ := blk_frozen BK5.out 1; have f2_ := blk_frozen BK5.out 2))
  go_ret
  exact ⟨rfl, (by repeat (first | exact HB.out | refine lS1_ ?_ GE5.out))⟩
set_option maxHeartbeats 4000000 in
set_option maxRecDepth 100000 in
theorem fault_n_n (a0_0 a0_3 : Int) (A1 : Option Addr) (c1 : Nat) (l1 : List S37) (w : World) (hr1 : Kd.C k37 w A1 l1.length l1) (hl : l1.length ≤ 9223372036854775807) (hI : impl_in.f a0_0 1 7 = some true) (hN : impl_namesOf.f 1 a0_0 = some (false, false, true)) (h : ¬ (0 ≤ a0_3 ∧ a0_3 ≤ 9999)) :
    Calls Try.prog 36 #[.agg #[.int .i64 a0_0, .int .i64 0, .int .i64 0, .int .i64 a0_3], .slice A1 l1.length c1] w fun e w' => e = .returned (.int .i64 3) ∧ Below w.heap.size w w' := by
  have hmf : ∀ (fn : Fn) (first cap : Array Value) (w : World), (Instr.makeFunc fn first cap).run Try.prog w = .ok (.func fn first cap) w := fun _ _ _ _ => rfl
  have HB := Aside0.mk (Below.refl w.heap.size w)
  have HR := Aside0.mk hr1
  have HL := Aside0.mk hl
  clear hr1 hl
  have HI := Aside0.mk hI
  have HN := Aside0.mk hN
  clear hI hN
  have HI2 := Aside0.mk (show impl_in.f a0_3 0 9999 = some false by rw [impl_in_eq]; rw [decide_eq_false h])
  clear h
  go_enter Try.func36, Try.ntmps36
  go_wp2_with (first
    | ((with_reducible refine gate_dst (N := 2) rfl ?_); refine box_event ?hg (N := 2) ?hd (cs := #[.int .i64 a0_0, .int .i64 0, .int .i64 0, .int .i64 a0_3]) (t := 37) ?hr ?_; (case hd => rfl); (case hg => rfl); (case hr => first | (go_simp; done) | (go_simp; rfl)); intro g2 hg w2 hbox hb; have n0_ := Aside0.mk (lP_ HB.out hb); have n1_ := Aside0.mk hbox; clear HB; have HB := n0_; have a0 := n1_; clear n0_ n1_ hb hbox hg)
    | ((with_reducible refine gate_dst (N := 3) rfl ?_); refine box_event ?hg (N := 3) ?hd (cs := #[.slice A1 l1.length c1]) (t := 24) ?hr ?_; (case hd => rfl); (case hg => rfl); (case hr => first | (go_simp; done) | (go_simp; rfl)); intro g3 hg w3 hbox hb; have n0_ := Aside0.mk (lP_ HB.out hb); have n1_ := Aside0.mk (bB_ a0.out hb); have n2_ := Aside0.mk hbox; clear HB a0; have HB := n0_; have a0 := n1_; have a1 := n2_; clear n0_ n1_ n2_ hb hbox hg; have q0_ : w3.cell? ⟨g2, 0, none⟩ = some (.int .i64 a0_0) := (blk_cell a0.out 0).trans rfl; have q1_ : w3.cell? ⟨g2, 1, none⟩ = some (.int .i64 0) := (blk_cell a0.out 1).trans rfl; have q2_ : w3.cell? ⟨g2, 2, none⟩ = some (.int .i64 0) := (blk_cell a0.out 2).trans rfl; have q3_ : w3.cell? ⟨g2, 3, none⟩ = some (.int .i64 a0_3) := (blk_cell a0.out 3).trans rfl)
    | (go_at_call 37; with_reducible refine (impl_in.calls a0_0 1 7 _ _ HI.out).mono ?_; rintro e w4 ⟨rfl, hd⟩; have hb := hd.below; clear hd; have n0_ := Aside0.mk (lP_ HB.out hb); have n1_ := Aside0.mk (bB_ a0.out hb); have n2_ := Aside0.mk (bB_ a1.out hb); clear HB a0 a1 hb; have HB := n0_; have a0 := n1_; have a1 := n2_; clear n0_ n1_ n2_ q0_ q1_ q2_ q3_; have q0_ : w4.cell? ⟨g2, 0, none⟩ = some (.int .i64 a0_0) := (blk_cell a0.out 0).trans rfl; have q1_ : w4.cell? ⟨g2, 1, none⟩ = some (.int .i64 0) := (blk_cell a0.out 1).trans rfl; have q2_ : w4.cell? ⟨g2, 2, none⟩ = some (.int .i64 0) := (blk_cell a0.out 2).trans rfl; have q3_ : w4.cell? ⟨g2, 3, none⟩ = some (.int .i64 a0_3) := (blk_cell a0.out 3).trans rfl)
    | (go_at_call 22; with_reducible refine (impl_namesOf.calls 1 a0_0 false false true _ HN.out).mono ?_; rintro e w5 ⟨rfl, hb⟩; have n0_ := Aside0.mk (lP_ HB.out hb); have n1_ := Aside0.mk (bB_ a0.out hb); have n2_ := Aside0.mk (bB_ a1.out hb); clear HB a0 a1 hb; have HB := n0_; have a0 := n1_; have a1 := n2_; clear n0_ n1_ n2_ q0_ q1_ q2_ q3_)
    | ((with_reducible refine gate_dst (N := 5) rfl ?_); refine box_event ?hg (N := 5) ?hd (cs := #[.bool false, .bool false, .bool false]) (t := 47) ?hr ?_; (case hd => rfl); (case hg => rfl); (case hr => first | (go_simp; done) | (go_simp; rfl)); intro g5 hg w6 hbox hb; have n0_ := Aside0.mk (lP_ HB.out hb); have n1_ := Aside0.mk (bB_ a0.out hb); have n2_ := Aside0.mk (bB_ a1.out hb); have n3_ := Aside0.mk hbox; have n4_ := Aside0.mk (show w.heap.size ≤ g5 by rw [hg]; exact below_size HB.out); have n5_ := Aside0.mk (show g2 ≠ g5 by rw [hg]; exact Nat.ne_of_lt (blk_lt a0.out)); have n6_ := Aside0.mk (show g3 ≠ g5 by rw [hg]; exact Nat.ne_of_lt (blk_lt a1.out)); clear HB a0 a1; have HB := n0_; have a0 := n1_; have a1 := n2_; have a2 := n3_; have a3 := n4_; have NB25 := n5_; have NB35 := n6_; clear n0_ n1_ n2_ n3_ n4_ n5_ n6_ hb hbox hg; have hnb_ := NB25.out; have hnc_ := NB25.out.symm; have q0_ : w6.cell? ⟨g2, 0, none⟩ = some (.int .i64 a0_0) := (blk_cell a0.out 0).trans rfl; have q1_ : w6.cell? ⟨g2, 1, none⟩ = some (.int .i64 0) := (blk_cell a0.out 1).trans rfl; have q2_ : w6.cell? ⟨g2, 2, none⟩ = some (.int .i64 0) := (blk_cell a0.out 2).trans rfl; have q3_ : w6.cell? ⟨g2, 3, none⟩ = some (.int .i64 a0_3) := (blk_cell a0.out 3).trans rfl; have p0_ : w6.cell? ⟨g5, 0, none⟩ = some (.bool false) := (blk_cell a2.out 0).trans rfl; have p1_ : w6.cell? ⟨g5, 1, none⟩ = some (.bool false) := (blk_cell a2.out 1).trans rfl; have p2_ : w6.cell? ⟨g5, 2, none⟩ = some (.bool false) := (blk_cell a2.out 2).trans rfl; have f0_ := blk_frozen a2.out 0; have f1_ := blk_frozen a2.out 1; have f2_ := blk_frozen a2.out 2)
    | (go_at_call 37; with_reducible refine (impl_in.calls a0_3 0 9999 _ _ HI2.out).mono ?_; rintro e w7 ⟨rfl, hd⟩; have hb := hd.below; clear hd; have n0_ := Aside0.mk (lP_ (by repeat (first | exact HB.out | refine lS1_ ?_ a3.out)) hb); have n1_ := Aside0.mk (bB_ (o := .cells #[.int .i64 a0_0, .int .i64 0, .int .i64 0, .int .i64 a0_3] 37 (0, 0)) (by repeat (first | exact a0.out | refine bF_ ?_ NB25.out _)) hb); have n2_ := Aside0.mk (bB_ (o := .cells #[.slice A1 l1.length c1] 24 (0, 0)) (by repeat (first | exact a1.out | refine bF_ ?_ NB35.out _)) hb); clear HB a0 a1 hb; have HB := n0_; have a0 := n1_; have a1 := n2_; clear n0_ n1_ n2_; (try clear q0_ q1_ q2_ q3_); have q0_ : w7.cell? ⟨g2, 0, none⟩ = some (.int .i64 a0_0) := (blk_cell a0.out 0).trans rfl; have q1_ : w7.cell? ⟨g2, 1, none⟩ = some (.int .i64 0) := (blk_cell a0.out 1).trans rfl; have q2_ : w7.cell? ⟨g2, 2, none⟩ = some (.int .i64 0) := (blk_cell a0.out 2).trans rfl; have q3_ : w7.cell? ⟨g2, 3, none⟩ = some (.int .i64 a0_3) := (blk_cell a0.out 3).trans rfl))
  go_ret
  exact ⟨rfl, (by repeat (first | exact HB.out | refine lS1_ ?_ a3.out))⟩
set_option maxHeartbeats 4000000 in
set_option maxRecDepth 100000 in
theorem fault_n_ok (a0_0 a0_3 : Int) (A1 : Option Addr) (c1 : Nat) (l1 : List S37) (w : World) (hr1 : Kd.C k37 w A1 l1.length l1) (hl : l1.length ≤ 9223372036854775807) (hI : impl_in.f a0_0 1 7 = some true) (hN : impl_namesOf.f 1 a0_0 = some (false, false, true)) (h6 : ¬ a0_0 = 6) (h7 : ¬ a0_0 = 7) (hP : impl_Term_parts.f 1 a0_0 0 0 a0_3 = some ([] : List Int)) (h : 0 ≤ a0_3 ∧ a0_3 ≤ 9999) :
    Calls Try.prog 36 #[.agg #[.int .i64 a0_0, .int .i64 0, .int .i64 0, .int .i64 a0_3], .slice A1 l1.length c1] w fun e w' => e = .returned (.int .i64 0) ∧ Below w.heap.size w w' := by
  have hmf : ∀ (fn : Fn) (first cap : Array Value) (w : World), (Instr.makeFunc fn first cap).run Try.prog w = .ok (.func fn first cap) w := fun _ _ _ _ => rfl
  have HB := Aside0.mk (Below.refl w.heap.size w)
  have HR := Aside0.mk hr1
  have HL := Aside0.mk hl
  clear hr1 hl
  have HI := Aside0.mk hI
  have HN := Aside0.mk hN
  clear hI hN
  have h60 : (a0_0 == 6) = false := by simpa using h6
  have h61 : (a0_0 != 6) = true := by simpa using h6
  have h62 : decide (a0_0 = 6) = false := decide_eq_false h6
  have h70 : (a0_0 == 7) = false := by simpa using h7
  have h71 : (a0_0 != 7) = true := by simpa using h7
  have h72 : decide (a0_0 = 7) = false := decide_eq_false h7
  clear h6 h7
  have HI2 := Aside0.mk (show impl_in.f a0_3 0 9999 = some true by rw [impl_in_eq]; rw [decide_eq_true h])
  clear h
  have HP := Aside0.mk hP
  clear hP
  have HANY := Aside0.mk (show ([] : List Int).any (fun x => !decide (0 ≤ x ∧ x ≤ (l1.length : Int) - 1)) = false from rfl)
  go_enter Try.func36, Try.ntmps36
  go_wp2_with (first
    | ((with_reducible refine gate_dst (N := 2) rfl ?_); refine box_event ?hg (N := 2) ?hd (cs := #[.int .i64 a0_0, .int .i64 0, .int .i64 0, .int .i64 a0_3]) (t := 37) ?hr ?_; (case hd => rfl); (case hg => rfl); (case hr => first | (go_simp; done) | (go_simp; rfl)); intro g2 hg w2 hbox hb; have n0_ := Aside0.mk (lP_ HB.out hb); have n1_ := Aside0.mk hbox; clear HB; have HB := n0_; have a0 := n1_; clear n0_ n1_ hb hbox hg)
    | ((with_reducible refine gate_dst (N := 3) rfl ?_); refine box_event ?hg (N := 3) ?hd (cs := #[.slice A1 l1.length c1]) (t := 24) ?hr ?_; (case hd => rfl); (case hg => rfl); (case hr => first | (go_simp; done) | (go_simp; rfl)); intro g3 hg w3 hbox hb; have n0_ := Aside0.mk (lP_ HB.out hb); have n1_ := Aside0.mk (bB_ a0.out hb); have n2_ := Aside0.mk hbox; clear HB a0; have HB := n0_; have a0 := n1_; have a1 := n2_; clear n0_ n1_ n2_ hb hbox hg; have q0_ : w3.cell? ⟨g2, 0, none⟩ = some (.int .i64 a0_0) := (blk_cell a0.out 0).trans rfl; have q1_ : w3.cell? ⟨g2, 1, none⟩ = some (.int .i64 0) := (blk_cell a0.out 1).trans rfl; have q2_ : w3.cell? ⟨g2, 2, none⟩ = some (.int .i64 0) := (blk_cell a0.out 2).trans rfl; have q3_ : w3.cell? ⟨g2, 3, none⟩ = some (.int .i64 a0_3) := (blk_cell a0.out 3).trans rfl)
    | (go_at_call 37; with_reducible refine (impl_in.calls a0_0 1 7 _ _ HI.out).mono ?_; rintro e w4 ⟨rfl, hd⟩; have hb := hd.below; clear hd; have n0_ := Aside0.mk (lP_ HB.out hb); have n1_ := Aside0.mk (bB_ a0.out hb); have n2_ := Aside0.mk (bB_ a1.out hb); clear HB a0 a1 hb; have HB := n0_; have a0 := n1_; have a1 := n2_; clear n0_ n1_ n2_ q0_ q1_ q2_ q3_; have q0_ : w4.cell? ⟨g2, 0, none⟩ = some (.int .i64 a0_0) := (blk_cell a0.out 0).trans rfl; have q1_ : w4.cell? ⟨g2, 1, none⟩ = some (.int .i64 0) := (blk_cell a0.out 1).trans rfl; have q2_ : w4.cell? ⟨g2, 2, none⟩ = some (.int .i64 0) := (blk_cell a0.out 2).trans rfl; have q3_ : w4.cell? ⟨g2, 3, none⟩ = some (.int .i64 a0_3) := (blk_cell a0.out 3).trans rfl)
    | (go_at_call 22; with_reducible refine (impl_namesOf.calls 1 a0_0 false false true _ HN.out).mono ?_; rintro e w5 ⟨rfl, hb⟩; have n0_ := Aside0.mk (lP_ HB.out hb); have n1_ := Aside0.mk (bB_ a0.out hb); have n2_ := Aside0.mk (bB_ a1.out hb); clear HB a0 a1 hb; have HB := n0_; have a0 := n1_; have a1 := n2_; clear n0_ n1_ n2_ q0_ q1_ q2_ q3_)
    | ((with_reducible refine gate_dst (N := 5) rfl ?_); refine box_event ?hg (N := 5) ?hd (cs := #[.bool false, .bool false, .bool false]) (t := 47) ?hr ?_; (case hd => rfl); (case hg => rfl); (case hr => first | (go_simp; done) | (go_simp; rfl)); intro g5 hg w6 hbox hb; have n0_ := Aside0.mk (lP_ HB.out hb); have n1_ := Aside0.mk (bB_ a0.out hb); have n2_ := Aside0.mk (bB_ a1.out hb); have n3_ := Aside0.mk hbox; have n4_ := Aside0.mk (show w.heap.size ≤ g5 by rw [hg]; exact below_size HB.out); have n5_ := Aside0.mk (show g2 ≠ g5 by rw [hg]; exact Nat.ne_of_lt (blk_lt a0.out)); have n6_ := Aside0.mk (show g3 ≠ g5 by rw [hg]; exact Nat.ne_of_lt (blk_lt a1.out)); clear HB a0 a1; have HB := n0_; have a0 := n1_; have a1 := n2_; have a2 := n3_; have a3 := n4_; have NB25 := n5_; have NB35 := n6_; clear n0_ n1_ n2_ n3_ n4_ n5_ n6_ hb hbox hg; have hnb_ := NB25.out; have hnc_ := NB25.out.symm; have q0_ : w6.cell? ⟨g2, 0, none⟩ = some (.int .i64 a0_0) := (blk_cell a0.out 0).trans rfl; have q1_ : w6.cell? ⟨g2, 1, none⟩ = some (.int .i64 0) := (blk_cell a0.out 1).trans rfl; have q2_ : w6.cell? ⟨g2, 2, none⟩ = some (.int .i64 0) := (blk_cell a0.out 2).trans rfl; have q3_ : w6.cell? ⟨g2, 3, none⟩ = some (.int .i64 a0_3) := (blk_cell a0.out 3).trans rfl; have p0_ : w6.cell? ⟨g5, 0, none⟩ = some (.bool false) := (blk_cell a2.out 0).trans rfl; have p1_ : w6.cell? ⟨g5, 1, none⟩ = some (.bool false) := (blk_cell a2.out 1).trans rfl; have p2_ : w6.cell? ⟨g5, 2, none⟩ = some (.bool false) := (blk_cell a2.out 2).trans rfl; have f0_ := blk_frozen a2.out 0; have f1_ := blk_frozen a2.out 1; have f2_ := blk_frozen a2.out 2)
    | (go_at_call 37; with_reducible refine (impl_in.calls a0_3 0 9999 _ _ HI2.out).mono ?_; rintro e w7 ⟨rfl, hd⟩; have hb := hd.below; clear hd; have n0_ := Aside0.mk (lP_ (by repeat (first | exact HB.out | refine lS1_ ?_ a3.out)) hb); have n1_ := Aside0.mk (bB_ (o := .cells #[.int .i64 a0_0, .int .i64 0, .int .i64 0, .int .i64 a0_3] 37 (0, 0)) (by repeat (first | exact a0.out | refine bF_ ?_ NB25.out _)) hb); have n2_ := Aside0.mk (bB_ (o := .cells #[.slice A1 l1.length c1] 24 (0, 0)) (by repeat (first | exact a1.out | refine bF_ ?_ NB35.out _)) hb); clear HB a0 a1 hb; have HB := n0_; have a0 := n1_; have a1 := n2_; clear n0_ n1_ n2_; (try clear q0_ q1_ q2_ q3_); have q0_ : w7.cell? ⟨g2, 0, none⟩ = some (.int .i64 a0_0) := (blk_cell a0.out 0).trans rfl; have q1_ : w7.cell? ⟨g2, 1, none⟩ = some (.int .i64 0) := (blk_cell a0.out 1).trans rfl; have q2_ : w7.cell? ⟨g2, 2, none⟩ = some (.int .i64 0) := (blk_cell a0.out 2).trans rfl; have q3_ : w7.cell? ⟨g2, 3, none⟩ = some (.int .i64 a0_3) := (blk_cell a0.out 3).trans rfl)
    | (go_at_call 39; (try clear HO); with_reducible refine (impl_Term_parts.calls 1 a0_0 0 0 a0_3 _ _ HP.out).mono ?_; rintro e w8 ⟨v8, rfl, ho, hb⟩; have HO := Aside0.mk ho; clear ho; obtain ⟨Ao, co, eo⟩ := Kd.R_slice HO.out; subst eo; have n0_ := Aside0.mk (lP_ (by repeat (first | exact HB.out | refine lS1_ ?_ a3.out)) hb); have n1_ := Aside0.mk (bB_ (o := .cells #[.int .i64 a0_0, .int .i64 0, .int .i64 0, .int .i64 a0_3] 37 (0, 0)) (by repeat (first | exact a0.out | refine bF_ ?_ NB25.out _)) hb); have n2_ := Aside0.mk (bB_ (o := .cells #[.slice A1 l1.length c1] 24 (0, 0)) (by repeat (first | exact a1.out | refine bF_ ?_ NB35.out _)) hb); clear HB a0 a1 hb; have HB := n0_; have a0 := n1_; have a1 := n2_; clear n0_ n1_ n2_; (try clear q0_ q1_ q2_ q3_); have q0_ : w8.cell? ⟨g2, 0, none⟩ = some (.int .i64 a0_0) := (blk_cell a0.out 0).trans rfl; have q1_ : w8.cell? ⟨g2, 1, none⟩ = some (.int .i64 0) := (blk_cell a0.out 1).trans rfl; have q2_ : w8.cell? ⟨g2, 2, none⟩ = some (.int .i64 0) := (blk_cell a0.out 2).trans rfl; have q3_ : w8.cell? ⟨g2, 3, none⟩ = some (.int .i64 a0_3) := (blk_cell a0.out 3).trans rfl)
    | (go_at_call 43; refine (slices_ContainsFunc_int64_int64.calls 44 #[.pointer (some ⟨g3, 0, none⟩)] (fun x => !decide (0 ≤ x ∧ x ≤ (l1.length : Int) - 1)) Ao co _ _ (enters_of Try.func44 (by kernel_rfl) rfl) (fun W x _ hB => (impl_fault_1.calls A1 l1.length c1 g3 x HL.out W ((hB.cell (p := ⟨g3, 0, none⟩) (blk_lt a1.out)).trans ((blk_cell a1.out 0).trans rfl))).mono (fun _ _ h => ⟨h.1, lP_ hB h.2⟩)) (Kd.R_reads' HO.out).2.2 (by simp)).mono ?_; rintro e w9 ⟨he, hb⟩; rw [HANY.out] at he; subst he; have n0_ := Aside0.mk (lP_ (by repeat (first | exact HB.out | refine lS1_ ?_ a3.out)) hb); have n1_ := Aside0.mk (bB_ (o := .cells #[.int .i64 a0_0, .int .i64 0, .int .i64 0, .int .i64 a0_3] 37 (0, 0)) (by repeat (first | exact a0.out | refine bF_ ?_ NB25.out _)) hb); have n2_ := Aside0.mk (bB_ (o := .cells #[.slice A1 l1.length c1] 24 (0, 0)) (by repeat (first | exact a1.out | refine bF_ ?_ NB35.out _)) hb); clear HB a0 a1 hb; have HB := n0_; have a0 := n1_; have a1 := n2_; clear n0_ n1_ n2_; (try clear q0_ q1_ q2_ q3_); have q0_ : w9.cell? ⟨g2, 0, none⟩ = some (.int .i64 a0_0) := (blk_cell a0.out 0).trans rfl; have q1_ : w9.cell? ⟨g2, 1, none⟩ = some (.int .i64 0) := (blk_cell a0.out 1).trans rfl; have q2_ : w9.cell? ⟨g2, 2, none⟩ = some (.int .i64 0) := (blk_cell a0.out 2).trans rfl; have q3_ : w9.cell? ⟨g2, 3, none⟩ = some (.int .i64 a0_3) := (blk_cell a0.out 3).trans rfl))
  go_ret
  exact ⟨rfl, (by repeat (first | exact HB.out | refine lS1_ ?_ a3.out))⟩
set_option maxHeartbeats 4000000 in
set_option maxRecDepth 100000 in
theorem fault_p_f (a0_0 a0_1 a0_2 a0_3 : Int) (A1 : Option Addr) (c1 : Nat) (l1 : List S37) (w : World) (hr1 : Kd.C k37 w A1 l1.length l1) (hl : l1.length ≤ 9223372036854775807) (hI : impl_in.f a0_0 1 7 = some true) (hN : impl_namesOf.f 1 a0_0 = some (true, true, false)) (h : ¬ a0_3 = 0) :
    Calls Try.prog 36 #[.agg #[.int .i64 a0_0, .int .i64 a0_1, .int .i64 a0_2, .int .i64 a0_3], .slice A1 l1.length c1] w fun e w' => e = .returned (.int .i64 1) ∧ Below w.heap.size w w' := by
  have hmf : ∀ (fn : Fn) (first cap : Array Value) (w : World), (Instr.makeFunc fn first cap).run Try.prog w = .ok (.func fn first cap) w := fun _ _ _ _ => rfl
  have HB := Aside0.mk (Below.refl w.heap.size w)
  have HR := Aside0.mk hr1
  have HL := Aside0.mk hl
  clear hr1 hl
  have h0 : (a0_3 == 0) = false := by simpa using h
  have h1 : (a0_3 != 0) = true := by simpa using h
  have h2 : decide (a0_3 = 0) = false := decide_eq_false h
  clear h
  have HI := Aside0.mk hI
  have HN := Aside0.mk hN
  clear hI hN
  go_enter Try.func36, Try.ntmps36
  go_wp2_with (first
    | ((with_reducible refine gate_dst (N := 2) rfl ?_); refine box_event ?hg (N := 2) ?hd (cs := #[.int .i64 a0_0, .int .i64 a0_1, .int .i64 a0_2, .int .i64 a0_3]) (t := 37) ?hr ?_; (case hd => rfl); (case hg => rfl); (case hr => first | (go_simp; done) | (go_simp; rfl)); intro g2 hg w2 hbox hb; have n0_ := Aside0.mk (lP_ HB.out hb); have n1_ := Aside0.mk hbox; clear HB; have HB := n0_; have BK2 := n1_; clear n0_ n1_ hb hbox hg)
    | ((with_reducible refine gate_dst (N := 3) rfl ?_); refine box_event ?hg (N := 3) ?hd (cs := #[.slice A1 l1.length c1]) (t := 24) ?hr ?_; (case hd => rfl); (case hg => rfl); (case hr => first | (go_simp; done) | (go_simp; rfl)); intro g3 hg w3 hbox hb; have n0_ := Aside0.mk (lP_ HB.out hb); have n1_ := Aside0.mk (bB_ BK2.out hb); have n2_ := Aside0.mk hbox; clear HB BK2; have HB := n0_; have BK2 := n1_; have BK3 := n2_; clear n0_ n1_ n2_ hb hbox hg; have q0_ : w3.cell? ⟨g2, 0, none⟩ = some (.int .i64 a0_0) := (blk_cell BK2.out 0).trans rfl; have q1_ : w3.cell? ⟨g2, 1, none⟩ = some (.int .i64 a0_1) := (blk_cell BK2.out 1).trans rfl; have q2_ : w3.cell? ⟨g2, 2, none⟩ = some (.int .i64 a0_2) := (blk_cell BK2.out 2).trans rfl; have q3_ : w3.cell? ⟨g2, 3, none⟩ = some (.int .i64 a0_3) := (blk_cell BK2.out 3).trans rfl)
    | (go_at_call 37; with_reducible refine (impl_in.calls a0_0 1 7 _ _ HI.out).mono ?_; rintro e w4 ⟨rfl, hd⟩; have hb := hd.below; clear hd; have n0_ := Aside0.mk (lP_ HB.out hb); have n1_ := Aside0.mk (bB_ BK2.out hb); have n2_ := Aside0.mk (bB_ BK3.out hb); clear HB BK2 BK3 hb; have HB := n0_; have BK2 := n1_; have BK3 := n2_; clear n0_ n1_ n2_ q0_ q1_ q2_ q3_; have q0_ : w4.cell? ⟨g2, 0, none⟩ = some (.int .i64 a0_0) := (blk_cell BK2.out 0).trans rfl; have q1_ : w4.cell? ⟨g2, 1, none⟩ = some (.int .i64 a0_1) := (blk_cell BK2.out 1).trans rfl; have q2_ : w4.cell? ⟨g2, 2, none⟩ = some (.int .i64 a0_2) := (blk_cell BK2.out 2).trans rfl; have q3_ : w4.cell? ⟨g2, 3, none⟩ = some (.int .i64 a0_3) := (blk_cell BK2.out 3).trans rfl)
    | (go_at_call 22; with_reducible refine (impl_namesOf.calls 1 a0_0 true true false _ HN.out).mono ?_; rintro e w5 ⟨rfl, hb⟩; have n0_ := Aside0.mk (lP_ HB.out hb); have n1_ := Aside0.mk (bB_ BK2.out hb); have n2_ := Aside0.mk (bB_ BK3.out hb); clear HB BK2 BK3 hb; have HB := n0_; have BK2 := n1_; have BK3 := n2_; clear n0_ n1_ n2_ q0_ q1_ q2_ q3_)
    | ((with_reducible refine gate_dst (N := 5) rfl ?_); refine box_event ?hg (N := 5) ?hd (cs := #[.bool false, .bool false, .bool false]) (t := 47) ?hr ?_; (case hd => rfl); (case hg => rfl); (case hr => first | (go_simp; done) | (go_simp; rfl)); intro g5 hg w6 hbox hb; have n0_ := Aside0.mk (lP_ HB.out hb); have n1_ := Aside0.mk (bB_ BK2.out hb); have n2_ := Aside0.mk (bB_ BK3.out hb); have n3_ := Aside0.mk hbox; have n4_ := Aside0.mk (show w.heap.size ≤ g5 by rw [hg]; exact below_size HB.out); have n5_ := Aside0.mk (show g2 ≠ g5 by rw [hg]; exact Nat.ne_of_lt (blk_lt BK2.out)); have n6_ := Aside0.mk (show g3 ≠ g5 by rw [hg]; exact Nat.ne_of_lt (blk_lt BK3.out)); clear HB BK2 BK3; have HB := n0_; have BK2 := n1_; have BK3 := n2_; have BK5 := n3_; have GE5 := n4_; have NB25 := n5_; have NB35 := n6_; clear n0_ n1_ n2_ n3_ n4_ n5_ n6_ hb hbox hg; have hnb_ := NB25.out; have hnc_ := NB25.out.symm; have q0_ : w6.cell? ⟨g2, 0, none⟩ = some (.int .i64 a0_0) := (blk_cell BK2.out 0).trans rfl; have q1_ : w6.cell? ⟨g2, 1, none⟩ = some (.int .i64 a0_1) := (blk_cell BK2.out 1).trans rfl; have q2_ : w6.cell? ⟨g2, 2, none⟩ = some (.int .i64 a0_2) := (blk_cell BK2.out 2).trans rfl; have q3_ : w6.cell? ⟨g2, 3, none⟩ = some (.int .i64 a0_3) := (blk_cell BK2.out 3).trans rfl; have p0_ : w6.cell? ⟨g5, 0, none⟩ = some (.bool false) := (blk_cell BK5.out 0).trans rfl; have p1_ : w6.cell? ⟨g5, 1, none⟩ = some (.bool false) := (blk_cell BK5.out 1).trans rfl; have p2_ : w6.cell? ⟨g5, 2, none⟩ = some (.bool false) := (blk_cell BK5.out 2).trans rfl; have f0_ := blk_frozen BK5.out 0; have f1_ := blk_frozen BK5.out 1; have f2_ := blk_frozen BK5.out 2))
  go_ret
  exact ⟨rfl, (by repeat (first | exact HB.out | refine lS1_ ?_ GE5.out))⟩
set_option maxHeartbeats 4000000 in
set_option maxRecDepth 100000 in
theorem fault_p_p (a0_0 a0_1 a0_2 : Int) (A1 : Option Addr) (c1 : Nat) (l1 : List S37) (w : World) (hr1 : Kd.C k37 w A1 l1.length l1) (hl : l1.length ≤ 9223372036854775807) (hI : impl_in.f a0_0 1 7 = some true) (hN : impl_namesOf.f 1 a0_0 = some (true, true, false)) (hP : impl_Term_parts.f 1 a0_0 a0_1 a0_2 0 = some ([a0_1, a0_2] : List Int)) (hp : ([a0_1, a0_2] : List Int).any (fun x => !decide (0 ≤ x ∧ x ≤ (l1.length : Int) - 1)) = true) :
    Calls Try.prog 36 #[.agg #[.int .i64 a0_0, .int .i64 a0_1, .int .i64 a0_2, .int .i64 0], .slice A1 l1.length c1] w fun e w' => e = .returned (.int .i64 3) ∧ Below w.heap.size w w' := by
  have hmf : ∀ (fn : Fn) (first cap : Array Value) (w : World), (Instr.makeFunc fn first cap).run Try.prog w = .ok (.func fn first cap) w := fun _ _ _ _ => rfl
  have HB := Aside0.mk (Below.refl w.heap.size w)
  have HR := Aside0.mk hr1
  have HL := Aside0.mk hl
  clear hr1 hl
  have HI := Aside0.mk hI
  have HN := Aside0.mk hN
  clear hI hN
  have HI2 := Aside0.mk (show impl_in.f 0 0 9999 = some true by rw [impl_in_eq]; rfl)
  have HP := Aside0.mk hP
  clear hP
  have HANY := Aside0.mk hp
  clear hp
  go_enter Try.func36, Try.ntmps36
  go_wp2_with (first
    | ((with_reducible refine gate_dst (N := 2) rfl ?_); refine box_event ?hg (N := 2) ?hd (cs := #[.int .i64 a0_0, .int .i64 a0_1, .int .i64 a0_2, .int .i64 0]) (t := 37) ?hr ?_; (case hd => rfl); (case hg => rfl); (case hr => first | (go_simp; done) | (go_simp; rfl)); intro g2 hg w2 hbox hb; have n0_ := Aside0.mk (lP_ HB.out hb); have n1_ := Aside0.mk hbox; clear HB; have HB := n0_; have a0 := n1_; clear n0_ n1_ hb hbox hg)
    | ((with_reducible refine gate_dst (N := 3) rfl ?_); refine box_event ?hg (N := 3) ?hd (cs := #[.slice A1 l1.length c1]) (t := 24) ?hr ?_; (case hd => rfl); (case hg => rfl); (case hr => first | (go_simp; done) | (go_simp; rfl)); intro g3 hg w3 hbox hb; have n0_ := Aside0.mk (lP_ HB.out hb); have n1_ := Aside0.mk (bB_ a0.out hb); have n2_ := Aside0.mk hbox; clear HB a0; have HB := n0_; have a0 := n1_; have a1 := n2_; clear n0_ n1_ n2_ hb hbox hg; have q0_ : w3.cell? ⟨g2, 0, none⟩ = some (.int .i64 a0_0) := (blk_cell a0.out 0).trans rfl; have q1_ : w3.cell? ⟨g2, 1, none⟩ = some (.int .i64 a0_1) := (blk_cell a0.out 1).trans rfl; have q2_ : w3.cell? ⟨g2, 2, none⟩ = some (.int .i64 a0_2) := (blk_cell a0.out 2).trans rfl; have q3_ : w3.cell? ⟨g2, 3, none⟩ = some (.int .i64 0) := (blk_cell a0.out 3).trans rfl)
    | (go_at_call 37; with_reducible refine (impl_in.calls a0_0 1 7 _ _ HI.out).mono ?_; rintro e w4 ⟨rfl, hd⟩; have hb := hd.below; clear hd; have n0_ := Aside0.mk (lP_ HB.out hb); have n1_ := Aside0.mk (bB_ a0.out hb); have n2_ := Aside0.mk (bB_ a1.out hb); clear HB a0 a1 hb; have HB := n0_; have a0 := n1_; have a1 := n2_; clear n0_ n1_ n2_ q0_ q1_ q2_ q3_; have q0_ : w4.cell? ⟨g2, 0, none⟩ = some (.int .i64 a0_0) := (blk_cell a0.out 0).trans rfl; have q1_ : w4.cell? ⟨g2, 1, none⟩ = some (.int .i64 a0_1) := (blk_cell a0.out 1).trans rfl; have q2_ : w4.cell? ⟨g2, 2, none⟩ = some (.int .i64 a0_2) := (blk_cell a0.out 2).trans rfl; have q3_ : w4.cell? ⟨g2, 3, none⟩ = some (.int .i64 0) := (blk_cell a0.out 3).trans rfl)
    | (go_at_call 22; with_reducible refine (impl_namesOf.calls 1 a0_0 true true false _ HN.out).mono ?_; rintro e w5 ⟨rfl, hb⟩; have n0_ := Aside0.mk (lP_ HB.out hb); have n1_ := Aside0.mk (bB_ a0.out hb); have n2_ := Aside0.mk (bB_ a1.out hb); clear HB a0 a1 hb; have HB := n0_; have a0 := n1_; have a1 := n2_; clear n0_ n1_ n2_ q0_ q1_ q2_ q3_)
    | ((with_reducible refine gate_dst (N := 5) rfl ?_); refine box_event ?hg (N := 5) ?hd (cs := #[.bool false, .bool false, .bool false]) (t := 47) ?hr ?_; (case hd => rfl); (case hg => rfl); (case hr => first | (go_simp; done) | (go_simp; rfl)); intro g5 hg w6 hbox hb; have n0_ := Aside0.mk (lP_ HB.out hb); have n1_ := Aside0.mk (bB_ a0.out hb); have n2_ := Aside0.mk (bB_ a1.out hb); have n3_ := Aside0.mk hbox; have n4_ := Aside0.mk (show w.heap.size ≤ g5 by rw [hg]; exact below_size HB.out); have n5_ := Aside0.mk (show g2 ≠ g5 by rw [hg]; exact Nat.ne_of_lt (blk_lt a0.out)); have n6_ := Aside0.mk (show g3 ≠ g5 by rw [hg]; exact Nat.ne_of_lt (blk_lt a1.out)); clear HB a0 a1; have HB := n0_; have a0 := n1_; have a1 := n2_; have a2 := n3_; have a3 := n4_; have NB25 := n5_; have NB35 := n6_; clear n0_ n1_ n2_ n3_ n4_ n5_ n6_ hb hbox hg; have hnb_ := NB25.out; have hnc_ := NB25.out.symm; have q0_ : w6.cell? ⟨g2, 0, none⟩ = some (.int .i64 a0_0) := (blk_cell a0.out 0).trans rfl; have q1_ : w6.cell? ⟨g2, 1, none⟩ = some (.int .i64 a0_1) := (blk_cell a0.out 1).trans rfl; have q2_ : w6.cell? ⟨g2, 2, none⟩ = some (.int .i64 a0_2) := (blk_cell a0.out 2).trans rfl; have q3_ : w6.cell? ⟨g2, 3, none⟩ = some (.int .i64 0) := (blk_cell a0.out 3).trans rfl; have p0_ : w6.cell? ⟨g5, 0, none⟩ = some (.bool false) := (blk_cell a2.out 0).trans rfl; have p1_ : w6.cell? ⟨g5, 1, none⟩ = some (.bool false) := (blk_cell a2.out 1).trans rfl; have p2_ : w6.cell? ⟨g5, 2, none⟩ = some (.bool false) := (blk_cell a2.out 2).trans rfl; have f0_ := blk_frozen a2.out 0; have f1_ := blk_frozen a2.out 1; have f2_ := blk_frozen a2.out 2)
    | (go_at_call 37; with_reducible refine (impl_in.calls 0 0 9999 _ _ HI2.out).mono ?_; rintro e w7 ⟨rfl, hd⟩; have hb := hd.below; clear hd; have n0_ := Aside0.mk (lP_ (by repeat (first | exact HB.out | refine lS1_ ?_ a3.out)) hb); have n1_ := Aside0.mk (bB_ (o := .cells #[.int .i64 a0_0, .int .i64 a0_1, .int .i64 a0_2, .int .i64 0] 37 (0, 0)) (by repeat (first | exact a0.out | refine bF_ ?_ NB25.out _)) hb); have n2_ := Aside0.mk (bB_ (o := .cells #[.slice A1 l1.length c1] 24 (0, 0)) (by repeat (first | exact a1.out | refine bF_ ?_ NB35.out _)) hb); clear HB a0 a1 hb; have HB := n0_; have a0 := n1_; have a1 := n2_; clear n0_ n1_ n2_; (try clear q0_ q1_ q2_ q3_); have q0_ : w7.cell? ⟨g2, 0, none⟩ = some (.int .i64 a0_0) := (blk_cell a0.out 0).trans rfl; have q1_ : w7.cell? ⟨g2, 1, none⟩ = some (.int .i64 a0_1) := (blk_cell a0.out 1).trans rfl; have q2_ : w7.cell? ⟨g2, 2, none⟩ = some (.int .i64 a0_2) := (blk_cell a0.out 2).trans rfl; have q3_ : w7.cell? ⟨g2, 3, none⟩ = some (.int .i64 0) := (blk_cell a0.out 3).trans rfl)
    | (go_at_call 39; (try clear HO); with_reducible refine (impl_Term_parts.calls 1 a0_0 a0_1 a0_2 0 _ _ HP.out).mono ?_; rintro e w8 ⟨v8, rfl, ho, hb⟩; have HO := Aside0.mk ho; clear ho; obtain ⟨Ao, co, eo⟩ := Kd.R_slice HO.out; subst eo; have n0_ := Aside0.mk (lP_ (by repeat (first | exact HB.out | refine lS1_ ?_ a3.out)) hb); have n1_ := Aside0.mk (bB_ (o := .cells #[.int .i64 a0_0, .int .i64 a0_1, .int .i64 a0_2, .int .i64 0] 37 (0, 0)) (by repeat (first | exact a0.out | refine bF_ ?_ NB25.out _)) hb); have n2_ := Aside0.mk (bB_ (o := .cells #[.slice A1 l1.length c1] 24 (0, 0)) (by repeat (first | exact a1.out | refine bF_ ?_ NB35.out _)) hb); clear HB a0 a1 hb; have HB := n0_; have a0 := n1_; have a1 := n2_; clear n0_ n1_ n2_; (try clear q0_ q1_ q2_ q3_); have q0_ : w8.cell? ⟨g2, 0, none⟩ = some (.int .i64 a0_0) := (blk_cell a0.out 0).trans rfl; have q1_ : w8.cell? ⟨g2, 1, none⟩ = some (.int .i64 a0_1) := (blk_cell a0.out 1).trans rfl; have q2_ : w8.cell? ⟨g2, 2, none⟩ = some (.int .i64 a0_2) := (blk_cell a0.out 2).trans rfl; have q3_ : w8.cell? ⟨g2, 3, none⟩ = some (.int .i64 0) := (blk_cell a0.out 3).trans rfl)
    | (go_at_call 43; refine (slices_ContainsFunc_int64_int64.calls 44 #[.pointer (some ⟨g3, 0, none⟩)] (fun x => !decide (0 ≤ x ∧ x ≤ (l1.length : Int) - 1)) Ao co _ _ (enters_of Try.func44 (by kernel_rfl) rfl) (fun W x _ hB => (impl_fault_1.calls A1 l1.length c1 g3 x HL.out W ((hB.cell (p := ⟨g3, 0, none⟩) (blk_lt a1.out)).trans ((blk_cell a1.out 0).trans rfl))).mono (fun _ _ h => ⟨h.1, lP_ hB h.2⟩)) (Kd.R_reads' HO.out).2.2 (by simp)).mono ?_; rintro e w9 ⟨he, hb⟩; rw [HANY.out] at he; subst he; have n0_ := Aside0.mk (lP_ (by repeat (first | exact HB.out | refine lS1_ ?_ a3.out)) hb); have n1_ := Aside0.mk (bB_ (o := .cells #[.int .i64 a0_0, .int .i64 a0_1, .int .i64 a0_2, .int .i64 0] 37 (0, 0)) (by repeat (first | exact a0.out | refine bF_ ?_ NB25.out _)) hb); have n2_ := Aside0.mk (bB_ (o := .cells #[.slice A1 l1.length c1] 24 (0, 0)) (by repeat (first | exact a1.out | refine bF_ ?_ NB35.out _)) hb); clear HB a0 a1 hb; have HB := n0_; have a0 := n1_; have a1 := n2_; clear n0_ n1_ n2_; (try clear q0_ q1_ q2_ q3_); have q0_ : w9.cell? ⟨g2, 0, none⟩ = some (.int .i64 a0_0) := (blk_cell a0.out 0).trans rfl; have q1_ : w9.cell? ⟨g2, 1, none⟩ = some (.int .i64 a0_1) := (blk_cell a0.out 1).trans rfl; have q2_ : w9.cell? ⟨g2, 2, none⟩ = some (.int .i64 a0_2) := (blk_cell a0.out 2).trans rfl; have q3_ : w9.cell? ⟨g2, 3, none⟩ = some (.int .i64 0) := (blk_cell a0.out 3).trans rfl))
  go_ret
  exact ⟨rfl, (by repeat (first | exact HB.out | refine lS1_ ?_ a3.out))⟩
set_option maxHeartbeats 4000000 in
set_option maxRecDepth 100000 in
theorem fault_p_ok (a0_0 a0_1 a0_2 : Int) (A1 : Option Addr) (c1 : Nat) (l1 : List S37) (w : World) (hr1 : Kd.C k37 w A1 l1.length l1) (hl : l1.length ≤ 9223372036854775807) (hI : impl_in.f a0_0 1 7 = some true) (hN : impl_namesOf.f 1 a0_0 = some (true, true, false)) (hP : impl_Term_parts.f 1 a0_0 a0_1 a0_2 0 = some ([a0_1, a0_2] : List Int)) (h6 : ¬ a0_0 = 6) (h7 : ¬ a0_0 = 7) (hp : ([a0_1, a0_2] : List Int).any (fun x => !decide (0 ≤ x ∧ x ≤ (l1.length : Int) - 1)) = false) :
    Calls Try.prog 36 #[.agg #[.int .i64 a0_0, .int .i64 a0_1, .int .i64 a0_2, .int .i64 0], .slice A1 l1.length c1] w fun e w' => e = .returned (.int .i64 0) ∧ Below w.heap.size w w' := by
  have hmf : ∀ (fn : Fn) (first cap : Array Value) (w : World), (Instr.makeFunc fn first cap).run Try.prog w = .ok (.func fn first cap) w := fun _ _ _ _ => rfl
  have HB := Aside0.mk (Below.refl w.heap.size w)
  have HR := Aside0.mk hr1
  have HL := Aside0.mk hl
  clear hr1 hl
  have HI := Aside0.mk hI
  have HN := Aside0.mk hN
  clear hI hN
  have HI2 := Aside0.mk (show impl_in.f 0 0 9999 = some true by rw [impl_in_eq]; rfl)
  have HP := Aside0.mk hP
  clear hP
  have h60 : (a0_0 == 6) = false := by simpa using h6
  have h61 : (a0_0 != 6) = true := by simpa using h6
  have h62 : decide (a0_0 = 6) = false := decide_eq_false h6
  have h70 : (a0_0 == 7) = false := by simpa using h7
  have h71 : (a0_0 != 7) = true := by simpa using h7
  have h72 : decide (a0_0 = 7) = false := decide_eq_false h7
  clear h6 h7
  have HANY := Aside0.mk hp
  clear hp
  go_enter Try.func36, Try.ntmps36
  go_wp2_with (first
    | ((with_reducible refine gate_dst (N := 2) rfl ?_); refine box_event ?hg (N := 2) ?hd (cs := #[.int .i64 a0_0, .int .i64 a0_1, .int .i64 a0_2, .int .i64 0]) (t := 37) ?hr ?_; (case hd => rfl); (case hg => rfl); (case hr => first | (go_simp; done) | (go_simp; rfl)); intro g2 hg w2 hbox hb; have n0_ := Aside0.mk (lP_ HB.out hb); have n1_ := Aside0.mk hbox; clear HB; have HB := n0_; have a0 := n1_; clear n0_ n1_ hb hbox hg)
    | ((with_reducible refine gate_dst (N := 3) rfl ?_); refine box_event ?hg (N := 3) ?hd (cs := #[.slice A1 l1.length c1]) (t := 24) ?hr ?_; (case hd => rfl); (case hg => rfl); (case hr => first | (go_simp; done) | (go_simp; rfl)); intro g3 hg w3 hbox hb; have n0_ := Aside0.mk (lP_ HB.out hb); have n1_ := Aside0.mk (bB_ a0.out hb); have n2_ := Aside0.mk hbox; clear HB a0; have HB := n0_; have a0 := n1_; have a1 := n2_; clear n0_ n1_ n2_ hb hbox hg; have q0_ : w3.cell? ⟨g2, 0, none⟩ = some (.int .i64 a0_0) := (blk_cell a0.out 0).trans rfl; have q1_ : w3.cell? ⟨g2, 1, none⟩ = some (.int .i64 a0_1) := (blk_cell a0.out 1).trans rfl; have q2_ : w3.cell? ⟨g2, 2, none⟩ = some (.int .i64 a0_2) := (blk_cell a0.out 2).trans rfl; have q3_ : w3.cell? ⟨g2, 3, none⟩ = some (.int .i64 0) := (blk_cell a0.out 3).trans rfl)
    | (go_at_call 37; with_reducible refine (impl_in.calls a0_0 1 7 _ _ HI.out).mono ?_; rintro e w4 ⟨rfl, hd⟩; have hb := hd.below; clear hd; have n0_ := Aside0.mk (lP_ HB.out hb); have n1_ := Aside0.mk (bB_ a0.out hb); have n2_ := Aside0.mk (bB_ a1.out hb); clear HB a0 a1 hb; have HB := n0_; have a0 := n1_; have a1 := n2_; clear n0_ n1_ n2_ q0_ q1_ q2_ q3_; have q0_ : w4.cell? ⟨g2, 0, none⟩ = some (.int .i64 a0_0) := (blk_cell a0.out 0).trans rfl; have q1_ : w4.cell? ⟨g2, 1, none⟩ = some (.int .i64 a0_1) := (blk_cell a0.out 1).trans rfl; have q2_ : w4.cell? ⟨g2, 2, none⟩ = some (.int .i64 a0_2) := (blk_cell a0.out 2).trans rfl; have q3_ : w4.cell? ⟨g2, 3, none⟩ = some (.int .i64 0) := (blk_cell a0.out 3).trans rfl)
    | (go_at_call 22; with_reducible refine (impl_namesOf.calls 1 a0_0 true true false _ HN.out).mono ?_; rintro e w5 ⟨rfl, hb⟩; have n0_ := Aside0.mk (lP_ HB.out hb); have n1_ := Aside0.mk (bB_ a0.out hb); have n2_ := Aside0.mk (bB_ a1.out hb); clear HB a0 a1 hb; have HB := n0_; have a0 := n1_; have a1 := n2_; clear n0_ n1_ n2_ q0_ q1_ q2_ q3_)
    | ((with_reducible refine gate_dst (N := 5) rfl ?_); refine box_event ?hg (N := 5) ?hd (cs := #[.bool false, .bool false, .bool false]) (t := 47) ?hr ?_; (case hd => rfl); (case hg => rfl); (case hr => first | (go_simp; done) | (go_simp; rfl)); intro g5 hg w6 hbox hb; have n0_ := Aside0.mk (lP_ HB.out hb); have n1_ := Aside0.mk (bB_ a0.out hb); have n2_ := Aside0.mk (bB_ a1.out hb); have n3_ := Aside0.mk hbox; have n4_ := Aside0.mk (show w.heap.size ≤ g5 by rw [hg]; exact below_size HB.out); have n5_ := Aside0.mk (show g2 ≠ g5 by rw [hg]; exact Nat.ne_of_lt (blk_lt a0.out)); have n6_ := Aside0.mk (show g3 ≠ g5 by rw [hg]; exact Nat.ne_of_lt (blk_lt a1.out)); clear HB a0 a1; have HB := n0_; have a0 := n1_; have a1 := n2_; have a2 := n3_; have a3 := n4_; have NB25 := n5_; have NB35 := n6_; clear n0_ n1_ n2_ n3_ n4_ n5_ n6_ hb hbox hg; have hnb_ := NB25.out; have hnc_ := NB25.out.symm; have q0_ : w6.cell? ⟨g2, 0, none⟩ = some (.int .i64 a0_0) := (blk_cell a0.out 0).trans rfl; have q1_ : w6.cell? ⟨g2, 1, none⟩ = some (.int .i64 a0_1) := (blk_cell a0.out 1).trans rfl; have q2_ : w6.cell? ⟨g2, 2, none⟩ = some (.int .i64 a0_2) := (blk_cell a0.out 2).trans rfl; have q3_ : w6.cell? ⟨g2, 3, none⟩ = some (.int .i64 0) := (blk_cell a0.out 3).trans rfl; have p0_ : w6.cell? ⟨g5, 0, none⟩ = some (.bool false) := (blk_cell a2.out 0).trans rfl; have p1_ : w6.cell? ⟨g5, 1, none⟩ = some (.bool false) := (blk_cell a2.out 1).trans rfl; have p2_ : w6.cell? ⟨g5, 2, none⟩ = some (.bool false) := (blk_cell a2.out 2).trans rfl; have f0_ := blk_frozen a2.out 0; have f1_ := blk_frozen a2.out 1; have f2_ := blk_frozen a2.out 2)
    | (go_at_call 37; with_reducible refine (impl_in.calls 0 0 9999 _ _ HI2.out).mono ?_; rintro e w7 ⟨rfl, hd⟩; have hb := hd.below; clear hd; have n0_ := Aside0.mk (lP_ (by repeat (first | exact HB.out | refine lS1_ ?_ a3.out)) hb); have n1_ := Aside0.mk (bB_ (o := .cells #[.int .i64 a0_0, .int .i64 a0_1, .int .i64 a0_2, .int .i64 0] 37 (0, 0)) (by repeat (first | exact a0.out | refine bF_ ?_ NB25.out _)) hb); have n2_ := Aside0.mk (bB_ (o := .cells #[.slice A1 l1.length c1] 24 (0, 0)) (by repeat (first | exact a1.out | refine bF_ ?_ NB35.out _)) hb); clear HB a0 a1 hb; have HB := n0_; have a0 := n1_; have a1 := n2_; clear n0_ n1_ n2_; (try clear q0_ q1_ q2_ q3_); have q0_ : w7.cell? ⟨g2, 0, none⟩ = some (.int .i64 a0_0) := (blk_cell a0.out 0).trans rfl; have q1_ : w7.cell? ⟨g2, 1, none⟩ = some (.int .i64 a0_1) := (blk_cell a0.out 1).trans rfl; have q2_ : w7.cell? ⟨g2, 2, none⟩ = some (.int .i64 a0_2) := (blk_cell a0.out 2).trans rfl; have q3_ : w7.cell? ⟨g2, 3, none⟩ = some (.int .i64 0) := (blk_cell a0.out 3).trans rfl)
    | (go_at_call 39; (try clear HO); with_reducible refine (impl_Term_parts.calls 1 a0_0 a0_1 a0_2 0 _ _ HP.out).mono ?_; rintro e w8 ⟨v8, rfl, ho, hb⟩; have HO := Aside0.mk ho; clear ho; obtain ⟨Ao, co, eo⟩ := Kd.R_slice HO.out; subst eo; have n0_ := Aside0.mk (lP_ (by repeat (first | exact HB.out | refine lS1_ ?_ a3.out)) hb); have n1_ := Aside0.mk (bB_ (o := .cells #[.int .i64 a0_0, .int .i64 a0_1, .int .i64 a0_2, .int .i64 0] 37 (0, 0)) (by repeat (first | exact a0.out | refine bF_ ?_ NB25.out _)) hb); have n2_ := Aside0.mk (bB_ (o := .cells #[.slice A1 l1.length c1] 24 (0, 0)) (by repeat (first | exact a1.out | refine bF_ ?_ NB35.out _)) hb); clear HB a0 a1 hb; have HB := n0_; have a0 := n1_; have a1 := n2_; clear n0_ n1_ n2_; (try clear q0_ q1_ q2_ q3_); have q0_ : w8.cell? ⟨g2, 0, none⟩ = some (.int .i64 a0_0) := (blk_cell a0.out 0).trans rfl; have q1_ : w8.cell? ⟨g2, 1, none⟩ = some (.int .i64 a0_1) := (blk_cell a0.out 1).trans rfl; have q2_ : w8.cell? ⟨g2, 2, none⟩ = some (.int .i64 a0_2) := (blk_cell a0.out 2).trans rfl; have q3_ : w8.cell? ⟨g2, 3, none⟩ = some (.int .i64 0) := (blk_cell a0.out 3).trans rfl)
    | (go_at_call 43; refine (slices_ContainsFunc_int64_int64.calls 44 #[.pointer (some ⟨g3, 0, none⟩)] (fun x => !decide (0 ≤ x ∧ x ≤ (l1.length : Int) - 1)) Ao co _ _ (enters_of Try.func44 (by kernel_rfl) rfl) (fun W x _ hB => (impl_fault_1.calls A1 l1.length c1 g3 x HL.out W ((hB.cell (p := ⟨g3, 0, none⟩) (blk_lt a1.out)).trans ((blk_cell a1.out 0).trans rfl))).mono (fun _ _ h => ⟨h.1, lP_ hB h.2⟩)) (Kd.R_reads' HO.out).2.2 (by simp)).mono ?_; rintro e w9 ⟨he, hb⟩; rw [HANY.out] at he; subst he; have n0_ := Aside0.mk (lP_ (by repeat (first | exact HB.out | refine lS1_ ?_ a3.out)) hb); have n1_ := Aside0.mk (bB_ (o := .cells #[.int .i64 a0_0, .int .i64 a0_1, .int .i64 a0_2, .int .i64 0] 37 (0, 0)) (by repeat (first | exact a0.out | refine bF_ ?_ NB25.out _)) hb); have n2_ := Aside0.mk (bB_ (o := .cells #[.slice A1 l1.length c1] 24 (0, 0)) (by repeat (first | exact a1.out | refine bF_ ?_ NB35.out _)) hb); clear HB a0 a1 hb; have HB := n0_; have a0 := n1_; have a1 := n2_; clear n0_ n1_ n2_; (try clear q0_ q1_ q2_ q3_); have q0_ : w9.cell? ⟨g2, 0, none⟩ = some (.int .i64 a0_0) := (blk_cell a0.out 0).trans rfl; have q1_ : w9.cell? ⟨g2, 1, none⟩ = some (.int .i64 a0_1) := (blk_cell a0.out 1).trans rfl; have q2_ : w9.cell? ⟨g2, 2, none⟩ = some (.int .i64 a0_2) := (blk_cell a0.out 2).trans rfl; have q3_ : w9.cell? ⟨g2, 3, none⟩ = some (.int .i64 0) := (blk_cell a0.out 3).trans rfl))
  go_ret
  exact ⟨rfl, (by repeat (first | exact HB.out | refine lS1_ ?_ a3.out))⟩
set_option maxHeartbeats 4000000 in
set_option maxRecDepth 100000 in
theorem fault_7_r (a0_1 a0_2 : Int) (A1 : Option Addr) (c1 : Nat) (l1 : List S37) (w : World) (hr1 : Kd.C k37 w A1 l1.length l1) (hl : l1.length ≤ 9223372036854775807) (hp : ([a0_1, a0_2] : List Int).any (fun x => !decide (0 ≤ x ∧ x ≤ (l1.length : Int) - 1)) = false) (hq : ([a0_1, a0_2] : List Int).any (fun x => (rd_T37 l1 x).f0 != 2) = true) :
    Calls Try.prog 36 #[.agg #[.int .i64 7, .int .i64 a0_1, .int .i64 a0_2, .int .i64 0], .slice A1 l1.length c1] w fun e w' => e = .returned (.int .i64 1) ∧ Below w.heap.size w w' := by
  have hmf : ∀ (fn : Fn) (first cap : Array Value) (w : World), (Instr.makeFunc fn first cap).run Try.prog w = .ok (.func fn first cap) w := fun _ _ _ _ => rfl
  have HB := Aside0.mk (Below.refl w.heap.size w)
  have HR := Aside0.mk hr1
  have HL := Aside0.mk hl
  clear hr1 hl
  have HI := Aside0.mk (show impl_in.f 7 1 7 = some true by rw [impl_in_eq]; rfl)
  have HN := Aside0.mk (show impl_namesOf.f 1 7 = some (true, true, false) by simp [impl_namesOf.f, impl_namesOf.j0])
  have HI2 := Aside0.mk (show impl_in.f 0 0 9999 = some true by rw [impl_in_eq]; rfl)
  have HP := Aside0.mk (show impl_Term_parts.f 1 7 a0_1 a0_2 0 = some ([a0_1, a0_2] : List Int) by simp [impl_Term_parts.f, impl_namesOf.f, impl_namesOf.j0])
  have HANY := Aside0.mk hp
  have HIN := Aside0.mk (fault_in l1 [a0_1, a0_2] hp)
  clear hp
  have HANY2 := Aside0.mk hq
  clear hq
  go_enter Try.func36, Try.ntmps36
  go_wp2_with (first
    | ((with_reducible refine gate_dst (N := 2) rfl ?_); refine box_event ?hg (N := 2) ?hd (cs := #[.int .i64 7, .int .i64 a0_1, .int .i64 a0_2, .int .i64 0]) (t := 37) ?hr ?_; (case hd => rfl); (case hg => rfl); (case hr => first | (go_simp; done) | (go_simp; rfl)); intro g2 hg w2 hbox hb; have n0_ := Aside0.mk (lP_ HB.out hb); have n1_ := Aside0.mk hbox; clear HB; have HB := n0_; have a0 := n1_; clear n0_ n1_ hb hbox hg)
    | ((with_reducible refine gate_dst (N := 3) rfl ?_); refine box_event ?hg (N := 3) ?hd (cs := #[.slice A1 l1.length c1]) (t := 24) ?hr ?_; (case hd => rfl); (case hg => rfl); (case hr => first | (go_simp; done) | (go_simp; rfl)); intro g3 hg w3 hbox hb; have n0_ := Aside0.mk (lP_ HB.out hb); have n1_ := Aside0.mk (bB_ a0.out hb); have n2_ := Aside0.mk hbox; clear HB a0; have HB := n0_; have a0 := n1_; have a1 := n2_; clear n0_ n1_ n2_ hb hbox hg; have q0_ : w3.cell? ⟨g2, 0, none⟩ = some (.int .i64 7) := (blk_cell a0.out 0).trans rfl; have q1_ : w3.cell? ⟨g2, 1, none⟩ = some (.int .i64 a0_1) := (blk_cell a0.out 1).trans rfl; have q2_ : w3.cell? ⟨g2, 2, none⟩ = some (.int .i64 a0_2) := (blk_cell a0.out 2).trans rfl; have q3_ : w3.cell? ⟨g2, 3, none⟩ = some (.int .i64 0) := (blk_cell a0.out 3).trans rfl)
    | (go_at_call 37; with_reducible refine (impl_in.calls 7 1 7 _ _ HI.out).mono ?_; rintro e w4 ⟨rfl, hd⟩; have hb := hd.below; clear hd; have n0_ := Aside0.mk (lP_ HB.out hb); have n1_ := Aside0.mk (bB_ a0.out hb); have n2_ := Aside0.mk (bB_ a1.out hb); clear HB a0 a1 hb; have HB := n0_; have a0 := n1_; have a1 := n2_; clear n0_ n1_ n2_ q0_ q1_ q2_ q3_; have q0_ : w4.cell? ⟨g2, 0, none⟩ = some (.int .i64 7) := (blk_cell a0.out 0).trans rfl; have q1_ : w4.cell? ⟨g2, 1, none⟩ = some (.int .i64 a0_1) := (blk_cell a0.out 1).trans rfl; have q2_ : w4.cell? ⟨g2, 2, none⟩ = some (.int .i64 a0_2) := (blk_cell a0.out 2).trans rfl; have q3_ : w4.cell? ⟨g2, 3, none⟩ = some (.int .i64 0) := (blk_cell a0.out 3).trans rfl)
    | (go_at_call 22; with_reducible refine (impl_namesOf.calls 1 7 true true false _ HN.out).mono ?_; rintro e w5 ⟨rfl, hb⟩; have n0_ := Aside0.mk (lP_ HB.out hb); have n1_ := Aside0.mk (bB_ a0.out hb); have n2_ := Aside0.mk (bB_ a1.out hb); clear HB a0 a1 hb; have HB := n0_; have a0 := n1_; have a1 := n2_; clear n0_ n1_ n2_ q0_ q1_ q2_ q3_)
    | ((with_reducible refine gate_dst (N := 5) rfl ?_); refine box_event ?hg (N := 5) ?hd (cs := #[.bool false, .bool false, .bool false]) (t := 47) ?hr ?_; (case hd => rfl); (case hg => rfl); (case hr => first | (go_simp; done) | (go_simp; rfl)); intro g5 hg w6 hbox hb; have n0_ := Aside0.mk (lP_ HB.out hb); have n1_ := Aside0.mk (bB_ a0.out hb); have n2_ := Aside0.mk (bB_ a1.out hb); have n3_ := Aside0.mk hbox; have n4_ := Aside0.mk (show w.heap.size ≤ g5 by rw [hg]; exact below_size HB.out); have n5_ := Aside0.mk (show g2 ≠ g5 by rw [hg]; exact Nat.ne_of_lt (blk_lt a0.out)); have n6_ := Aside0.mk (show g3 ≠ g5 by rw [hg]; exact Nat.ne_of_lt (blk_lt a1.out)); clear HB a0 a1; have HB := n0_; have a0 := n1_; have a1 := n2_; have a2 := n3_; have a3 := n4_; have NB25 := n5_; have NB35 := n6_; clear n0_ n1_ n2_ n3_ n4_ n5_ n6_ hb hbox hg; have hnb_ := NB25.out; have hnc_ := NB25.out.symm; have q0_ : w6.cell? ⟨g2, 0, none⟩ = some (.int .i64 7) := (blk_cell a0.out 0).trans rfl; have q1_ : w6.cell? ⟨g2, 1, none⟩ = some (.int .i64 a0_1) := (blk_cell a0.out 1).trans rfl; have q2_ : w6.cell? ⟨g2, 2, none⟩ = some (.int .i64 a0_2) := (blk_cell a0.out 2).trans rfl; have q3_ : w6.cell? ⟨g2, 3, none⟩ = some (.int .i64 0) := (blk_cell a0.out 3).trans rfl; have p0_ : w6.cell? ⟨g5, 0, none⟩ = some (.bool false) := (blk_cell a2.out 0).trans rfl; have p1_ : w6.cell? ⟨g5, 1, none⟩ = some (.bool false) := (blk_cell a2.out 1).trans rfl; have p2_ : w6.cell? ⟨g5, 2, none⟩ = some (.bool false) := (blk_cell a2.out 2).trans rfl; have f0_ := blk_frozen a2.out 0; have f1_ := blk_frozen a2.out 1; have f2_ := blk_frozen a2.out 2)
    | (go_at_call 37; with_reducible refine (impl_in.calls 0 0 9999 _ _ HI2.out).mono ?_; rintro e w7 ⟨rfl, hd⟩; have hb := hd.below; clear hd; have n0_ := Aside0.mk (lP_ (by repeat (first | exact HB.out | refine lS1_ ?_ a3.out)) hb); have n1_ := Aside0.mk (bB_ (o := .cells #[.int .i64 7, .int .i64 a0_1, .int .i64 a0_2, .int .i64 0] 37 (0, 0)) (by repeat (first | exact a0.out | refine bF_ ?_ NB25.out _)) hb); have n2_ := Aside0.mk (bB_ (o := .cells #[.slice A1 l1.length c1] 24 (0, 0)) (by repeat (first | exact a1.out | refine bF_ ?_ NB35.out _)) hb); clear HB a0 a1 hb; have HB := n0_; have a0 := n1_; have a1 := n2_; clear n0_ n1_ n2_; (try clear q0_ q1_ q2_ q3_); have q0_ : w7.cell? ⟨g2, 0, none⟩ = some (.int .i64 7) := (blk_cell a0.out 0).trans rfl; have q1_ : w7.cell? ⟨g2, 1, none⟩ = some (.int .i64 a0_1) := (blk_cell a0.out 1).trans rfl; have q2_ : w7.cell? ⟨g2, 2, none⟩ = some (.int .i64 a0_2) := (blk_cell a0.out 2).trans rfl; have q3_ : w7.cell? ⟨g2, 3, none⟩ = some (.int .i64 0) := (blk_cell a0.out 3).trans rfl)
    | (go_at_call 39; (try clear HO); with_reducible refine (impl_Term_parts.calls 1 7 a0_1 a0_2 0 _ _ HP.out).mono ?_; rintro e w8 ⟨v8, rfl, ho, hb⟩; have HO := Aside0.mk ho; clear ho; obtain ⟨Ao, co, eo⟩ := Kd.R_slice HO.out; subst eo; have n0_ := Aside0.mk (lP_ (by repeat (first | exact HB.out | refine lS1_ ?_ a3.out)) hb); have n1_ := Aside0.mk (bB_ (o := .cells #[.int .i64 7, .int .i64 a0_1, .int .i64 a0_2, .int .i64 0] 37 (0, 0)) (by repeat (first | exact a0.out | refine bF_ ?_ NB25.out _)) hb); have n2_ := Aside0.mk (bB_ (o := .cells #[.slice A1 l1.length c1] 24 (0, 0)) (by repeat (first | exact a1.out | refine bF_ ?_ NB35.out _)) hb); clear HB a0 a1 hb; have HB := n0_; have a0 := n1_; have a1 := n2_; clear n0_ n1_ n2_; (try clear q0_ q1_ q2_ q3_); have q0_ : w8.cell? ⟨g2, 0, none⟩ = some (.int .i64 7) := (blk_cell a0.out 0).trans rfl; have q1_ : w8.cell? ⟨g2, 1, none⟩ = some (.int .i64 a0_1) := (blk_cell a0.out 1).trans rfl; have q2_ : w8.cell? ⟨g2, 2, none⟩ = some (.int .i64 a0_2) := (blk_cell a0.out 2).trans rfl; have q3_ : w8.cell? ⟨g2, 3, none⟩ = some (.int .i64 0) := (blk_cell a0.out 3).trans rfl)
    | (go_at_call 43; refine (slices_ContainsFunc_int64_int64.calls 44 #[.pointer (some ⟨g3, 0, none⟩)] (fun x => !decide (0 ≤ x ∧ x ≤ (l1.length : Int) - 1)) Ao co _ _ (enters_of Try.func44 (by kernel_rfl) rfl) (fun W x _ hB => (impl_fault_1.calls A1 l1.length c1 g3 x HL.out W ((hB.cell (p := ⟨g3, 0, none⟩) (blk_lt a1.out)).trans ((blk_cell a1.out 0).trans rfl))).mono (fun _ _ h => ⟨h.1, lP_ hB h.2⟩)) (Kd.R_reads' HO.out).2.2 (by simp)).mono ?_; rintro e w9 ⟨he, hb⟩; rw [HANY.out] at he; subst he; have n0_ := Aside0.mk (lP_ (by repeat (first | exact HB.out | refine lS1_ ?_ a3.out)) hb); have n1_ := Aside0.mk (bB_ (o := .cells #[.int .i64 7, .int .i64 a0_1, .int .i64 a0_2, .int .i64 0] 37 (0, 0)) (by repeat (first | exact a0.out | refine bF_ ?_ NB25.out _)) hb); have n2_ := Aside0.mk (bB_ (o := .cells #[.slice A1 l1.length c1] 24 (0, 0)) (by repeat (first | exact a1.out | refine bF_ ?_ NB35.out _)) hb); clear HB a0 a1 hb; have HB := n0_; have a0 := n1_; have a1 := n2_; clear n0_ n1_ n2_; (try clear q0_ q1_ q2_ q3_); have q0_ : w9.cell? ⟨g2, 0, none⟩ = some (.int .i64 7) := (blk_cell a0.out 0).trans rfl; have q1_ : w9.cell? ⟨g2, 1, none⟩ = some (.int .i64 a0_1) := (blk_cell a0.out 1).trans rfl; have q2_ : w9.cell? ⟨g2, 2, none⟩ = some (.int .i64 a0_2) := (blk_cell a0.out 2).trans rfl; have q3_ : w9.cell? ⟨g2, 3, none⟩ = some (.int .i64 0) := (blk_cell a0.out 3).trans rfl)
    | (go_at_call 43; refine (slices_ContainsFunc_int64_int64.calls 45 #[.pointer (some ⟨g3, 0, none⟩)] (fun x => (rd_T37 l1 x).f0 != 2) Ao co _ _ (enters_of Try.func45 (by kernel_rfl) rfl) (fun W x hx hB => (impl_fault_2.calls A1 l1 c1 g3 x W ((hB.cell (p := ⟨g3, 0, none⟩) (blk_lt a1.out)).trans ((blk_cell a1.out 0).trans rfl)) (Kd.C_below HR.out (lP_ HB.out hB)) (HIN.out x hx).1 (HIN.out x hx).2).mono (fun _ _ h => ⟨h.1, lP_ hB h.2⟩)) (Kd.R_reads' HO.out).2.2 (by simp)).mono ?_; rintro e w10 ⟨he, hb⟩; rw [HANY2.out] at he; subst he; have n0_ := Aside0.mk (lP_ (by repeat (first | exact HB.out | refine lS1_ ?_ a3.out)) hb); have n1_ := Aside0.mk (bB_ (o := .cells #[.int .i64 7, .int .i64 a0_1, .int .i64 a0_2, .int .i64 0] 37 (0, 0)) (by repeat (first | exact a0.out | refine bF_ ?_ NB25.out _)) hb); have n2_ := Aside0.mk (bB_ (o := .cells #[.slice A1 l1.length c1] 24 (0, 0)) (by repeat (first | exact a1.out | refine bF_ ?_ NB35.out _)) hb); clear HB a0 a1 hb; have HB := n0_; have a0 := n1_; have a1 := n2_; clear n0_ n1_ n2_; (try clear q0_ q1_ q2_ q3_); have q0_ : w10.cell? ⟨g2, 0, none⟩ = some (.int .i64 7) := (blk_cell a0.out 0).trans rfl; have q1_ : w10.cell? ⟨g2, 1, none⟩ = some (.int .i64 a0_1) := (blk_cell a0.out 1).trans rfl; have q2_ : w10.cell? ⟨g2, 2, none⟩ = some (.int .i64 a0_2) := (blk_cell a0.out 2).trans rfl; have q3_ : w10.cell? ⟨g2, 3, none⟩ = some (.int .i64 0) := (blk_cell a0.out 3).trans rfl))
  go_ret
  exact ⟨rfl, (by repeat (first | exact HB.out | refine lS1_ ?_ a3.out))⟩
set_option maxHeartbeats 4000000 in
set_option maxRecDepth 100000 in
theorem fault_7_g (a0_1 a0_2 : Int) (A1 : Option Addr) (c1 : Nat) (l1 : List S37) (w : World) (hr1 : Kd.C k37 w A1 l1.length l1) (hl : l1.length ≤ 9223372036854775807) (hp : ([a0_1, a0_2] : List Int).any (fun x => !decide (0 ≤ x ∧ x ≤ (l1.length : Int) - 1)) = false) (hq : ([a0_1, a0_2] : List Int).any (fun x => (rd_T37 l1 x).f0 != 2) = false) (hg : a0_1 > a0_2) :
    Calls Try.prog 36 #[.agg #[.int .i64 7, .int .i64 a0_1, .int .i64 a0_2, .int .i64 0], .slice A1 l1.length c1] w fun e w' => e = .returned (.int .i64 1) ∧ Below w.heap.size w w' := by
  have hmf : ∀ (fn : Fn) (first cap : Array Value) (w : World), (Instr.makeFunc fn first cap).run Try.prog w = .ok (.func fn first cap) w := fun _ _ _ _ => rfl
  have HB := Aside0.mk (Below.refl w.heap.size w)
  have HR := Aside0.mk hr1
  have HL := Aside0.mk hl
  clear hr1 hl
  have HI := Aside0.mk (show impl_in.f 7 1 7 = some true by rw [impl_in_eq]; rfl)
  have HN := Aside0.mk (show impl_namesOf.f 1 7 = some (true, true, false) by simp [impl_namesOf.f, impl_namesOf.j0])
  have HI2 := Aside0.mk (show impl_in.f 0 0 9999 = some true by rw [impl_in_eq]; rfl)
  have HP := Aside0.mk (show impl_Term_parts.f 1 7 a0_1 a0_2 0 = some ([a0_1, a0_2] : List Int) by simp [impl_Term_parts.f, impl_namesOf.f, impl_namesOf.j0])
  have HANY := Aside0.mk hp
  have HIN := Aside0.mk (fault_in l1 [a0_1, a0_2] hp)
  clear hp
  have HANY2 := Aside0.mk hq
  clear hq
  have hg0 : decide (a0_1 > a0_2) = true := decide_eq_true hg
  have hg1 : decide (a0_2 < a0_1) = true := decide_eq_true hg
  clear hg
  go_enter Try.func36, Try.ntmps36
  go_wp2_with (first
    | ((with_reducible refine gate_dst (N := 2) rfl ?_); refine box_event ?hg (N := 2) ?hd (cs := #[.int .i64 7, .int .i64 a0_1, .int .i64 a0_2, .int .i64 0]) (t := 37) ?hr ?_; (case hd => rfl); (case hg => rfl); (case hr => first | (go_simp; done) | (go_simp; rfl)); intro g2 hg w2 hbox hb; have n0_ := Aside0.mk (lP_ HB.out hb); have n1_ := Aside0.mk hbox; clear HB; have HB := n0_; have a0 := n1_; clear n0_ n1_ hb hbox hg)
    | ((with_reducible refine gate_dst (N := 3) rfl ?_); refine box_event ?hg (N := 3) ?hd (cs := #[.slice A1 l1.length c1]) (t := 24) ?hr ?_; (case hd => rfl); (case hg => rfl); (case hr => first | (go_simp; done) | (go_simp; rfl)); intro g3 hg w3 hbox hb; have n0_ := Aside0.mk (lP_ HB.out hb); have n1_ := Aside0.mk (bB_ a0.out hb); have n2_ := Aside0.mk hbox; clear HB a0; have HB := n0_; have a0 := n1_; have a1 := n2_; clear n0_ n1_ n2_ hb hbox hg; have q0_ : w3.cell? ⟨g2, 0, none⟩ = some (.int .i64 7) := (blk_cell a0.out 0).trans rfl; have q1_ : w3.cell? ⟨g2, 1, none⟩ = some (.int .i64 a0_1) := (blk_cell a0.out 1).trans rfl; have q2_ : w3.cell? ⟨g2, 2, none⟩ = some (.int .i64 a0_2) := (blk_cell a0.out 2).trans rfl; have q3_ : w3.cell? ⟨g2, 3, none⟩ = some (.int .i64 0) := (blk_cell a0.out 3).trans rfl)
    | (go_at_call 37; with_reducible refine (impl_in.calls 7 1 7 _ _ HI.out).mono ?_; rintro e w4 ⟨rfl, hd⟩; have hb := hd.below; clear hd; have n0_ := Aside0.mk (lP_ HB.out hb); have n1_ := Aside0.mk (bB_ a0.out hb); have n2_ := Aside0.mk (bB_ a1.out hb); clear HB a0 a1 hb; have HB := n0_; have a0 := n1_; have a1 := n2_; clear n0_ n1_ n2_ q0_ q1_ q2_ q3_; have q0_ : w4.cell? ⟨g2, 0, none⟩ = some (.int .i64 7) := (blk_cell a0.out 0).trans rfl; have q1_ : w4.cell? ⟨g2, 1, none⟩ = some (.int .i64 a0_1) := (blk_cell a0.out 1).trans rfl; have q2_ : w4.cell? ⟨g2, 2, none⟩ = some (.int .i64 a0_2) := (blk_cell a0.out 2).trans rfl; have q3_ : w4.cell? ⟨g2, 3, none⟩ = some (.int .i64 0) := (blk_cell a0.out 3).trans rfl)
    | (go_at_call 22; with_reducible refine (impl_namesOf.calls 1 7 true true false _ HN.out).mono ?_; rintro e w5 ⟨rfl, hb⟩; have n0_ := Aside0.mk (lP_ HB.out hb); have n1_ := Aside0.mk (bB_ a0.out hb); have n2_ := Aside0.mk (bB_ a1.out hb); clear HB a0 a1 hb; have HB := n0_; have a0 := n1_; have a1 := n2_; clear n0_ n1_ n2_ q0_ q1_ q2_ q3_)
    | ((with_reducible refine gate_dst (N := 5) rfl ?_); refine box_event ?hg (N := 5) ?hd (cs := #[.bool false, .bool false, .bool false]) (t := 47) ?hr ?_; (case hd => rfl); (case hg => rfl); (case hr => first | (go_simp; done) | (go_simp; rfl)); intro g5 hg w6 hbox hb; have n0_ := Aside0.mk (lP_ HB.out hb); have n1_ := Aside0.mk (bB_ a0.out hb); have n2_ := Aside0.mk (bB_ a1.out hb); have n3_ := Aside0.mk hbox; have n4_ := Aside0.mk (show w.heap.size ≤ g5 by rw [hg]; exact below_size HB.out); have n5_ := Aside0.mk (show g2 ≠ g5 by rw [hg]; exact Nat.ne_of_lt (blk_lt a0.out)); have n6_ := Aside0.mk (show g3 ≠ g5 by rw [hg]; exact Nat.ne_of_lt (blk_lt a1.out)); clear HB a0 a1; have HB := n0_; have a0 := n1_; have a1 := n2_; have a2 := n3_; have a3 := n4_; have NB25 := n5_; have NB35 := n6_; clear n0_ n1_ n2_ n3_ n4_ n5_ n6_ hb hbox hg; have hnb_ := NB25.out; have hnc_ := NB25.out.symm; have q0_ : w6.cell? ⟨g2, 0, none⟩ = some (.int .i64 7) := (blk_cell a0.out 0).trans rfl; have q1_ : w6.cell? ⟨g2, 1, none⟩ = some (.int .i64 a0_1) := (blk_cell a0.out 1).trans rfl; have q2_ : w6.cell? ⟨g2, 2, none⟩ = some (.int .i64 a0_2) := (blk_cell a0.out 2).trans rfl; have q3_ : w6.cell? ⟨g2, 3, none⟩ = some (.int .i64 0) := (blk_cell a0.out 3).trans rfl; have p0_ : w6.cell? ⟨g5, 0, none⟩ = some (.bool false) := (blk_cell a2.out 0).trans rfl; have p1_ : w6.cell? ⟨g5, 1, none⟩ = some (.bool false) := (blk_cell a2.out 1).trans rfl; have p2_ : w6.cell? ⟨g5, 2, none⟩ = some (.bool false) := (blk_cell a2.out 2).trans rfl; have f0_ := blk_frozen a2.out 0; have f1_ := blk_frozen a2.out 1; have f2_ := blk_frozen a2.out 2)
    | (go_at_call 37; with_reducible refine (impl_in.calls 0 0 9999 _ _ HI2.out).mono ?_; rintro e w7 ⟨rfl, hd⟩; have hb := hd.below; clear hd; have n0_ := Aside0.mk (lP_ (by repeat (first | exact HB.out | refine lS1_ ?_ a3.out)) hb); have n1_ := Aside0.mk (bB_ (o := .cells #[.int .i64 7, .int .i64 a0_1, .int .i64 a0_2, .int .i64 0] 37 (0, 0)) (by repeat (first | exact a0.out | refine bF_ ?_ NB25.out _)) hb); have n2_ := Aside0.mk (bB_ (o := .cells #[.slice A1 l1.length c1] 24 (0, 0)) (by repeat (first | exact a1.out | refine bF_ ?_ NB35.out _)) hb); clear HB a0 a1 hb; have HB := n0_; have a0 := n1_; have a1 := n2_; clear n0_ n1_ n2_; (try clear q0_ q1_ q2_ q3_); have q0_ : w7.cell? ⟨g2, 0, none⟩ = some (.int .i64 7) := (blk_cell a0.out 0).trans rfl; have q1_ : w7.cell? ⟨g2, 1, none⟩ = some (.int .i64 a0_1) := (blk_cell a0.out 1).trans rfl; have q2_ : w7.cell? ⟨g2, 2, none⟩ = some (.int .i64 a0_2) := (blk_cell a0.out 2).trans rfl; have q3_ : w7.cell? ⟨g2, 3, none⟩ = some (.int .i64 0) := (blk_cell a0.out 3).trans rfl)
    | (go_at_call 39; (try clear HO); with_reducible refine (impl_Term_parts.calls 1 7 a0_1 a0_2 0 _ _ HP.out).mono ?_; rintro e w8 ⟨v8, rfl, ho, hb⟩; have HO := Aside0.mk ho; clear ho; obtain ⟨Ao, co, eo⟩ := Kd.R_slice HO.out; subst eo; have n0_ := Aside0.mk (lP_ (by repeat (first | exact HB.out | refine lS1_ ?_ a3.out)) hb); have n1_ := Aside0.mk (bB_ (o := .cells #[.int .i64 7, .int .i64 a0_1, .int .i64 a0_2, .int .i64 0] 37 (0, 0)) (by repeat (first | exact a0.out | refine bF_ ?_ NB25.out _)) hb); have n2_ := Aside0.mk (bB_ (o := .cells #[.slice A1 l1.length c1] 24 (0, 0)) (by repeat (first | exact a1.out | refine bF_ ?_ NB35.out _)) hb); clear HB a0 a1 hb; have HB := n0_; have a0 := n1_; have a1 := n2_; clear n0_ n1_ n2_; (try clear q0_ q1_ q2_ q3_); have q0_ : w8.cell? ⟨g2, 0, none⟩ = some (.int .i64 7) := (blk_cell a0.out 0).trans rfl; have q1_ : w8.cell? ⟨g2, 1, none⟩ = some (.int .i64 a0_1) := (blk_cell a0.out 1).trans rfl; have q2_ : w8.cell? ⟨g2, 2, none⟩ = some (.int .i64 a0_2) := (blk_cell a0.out 2).trans rfl; have q3_ : w8.cell? ⟨g2, 3, none⟩ = some (.int .i64 0) := (blk_cell a0.out 3).trans rfl)
    | (go_at_call 43; refine (slices_ContainsFunc_int64_int64.calls 44 #[.pointer (some ⟨g3, 0, none⟩)] (fun x => !decide (0 ≤ x ∧ x ≤ (l1.length : Int) - 1)) Ao co _ _ (enters_of Try.func44 (by kernel_rfl) rfl) (fun W x _ hB => (impl_fault_1.calls A1 l1.length c1 g3 x HL.out W ((hB.cell (p := ⟨g3, 0, none⟩) (blk_lt a1.out)).trans ((blk_cell a1.out 0).trans rfl))).mono (fun _ _ h => ⟨h.1, lP_ hB h.2⟩)) (Kd.R_reads' HO.out).2.2 (by simp)).mono ?_; rintro e w9 ⟨he, hb⟩; rw [HANY.out] at he; subst he; have n0_ := Aside0.mk (lP_ (by repeat (first | exact HB.out | refine lS1_ ?_ a3.out)) hb); have n1_ := Aside0.mk (bB_ (o := .cells #[.int .i64 7, .int .i64 a0_1, .int .i64 a0_2, .int .i64 0] 37 (0, 0)) (by repeat (first | exact a0.out | refine bF_ ?_ NB25.out _)) hb); have n2_ := Aside0.mk (bB_ (o := .cells #[.slice A1 l1.length c1] 24 (0, 0)) (by repeat (first | exact a1.out | refine bF_ ?_ NB35.out _)) hb); clear HB a0 a1 hb; have HB := n0_; have a0 := n1_; have a1 := n2_; clear n0_ n1_ n2_; (try clear q0_ q1_ q2_ q3_); have q0_ : w9.cell? ⟨g2, 0, none⟩ = some (.int .i64 7) := (blk_cell a0.out 0).trans rfl; have q1_ : w9.cell? ⟨g2, 1, none⟩ = some (.int .i64 a0_1) := (blk_cell a0.out 1).trans rfl; have q2_ : w9.cell? ⟨g2, 2, none⟩ = some (.int .i64 a0_2) := (blk_cell a0.out 2).trans rfl; have q3_ : w9.cell? ⟨g2, 3, none⟩ = some (.int .i64 0) := (blk_cell a0.out 3).trans rfl)
    | (go_at_call 43; refine (slices_ContainsFunc_int64_int64.calls 45 #[.pointer (some ⟨g3, 0, none⟩)] (fun x => (rd_T37 l1 x).f0 != 2) Ao co _ _ (enters_of Try.func45 (by kernel_rfl) rfl) (fun W x hx hB => (impl_fault_2.calls A1 l1 c1 g3 x W ((hB.cell (p := ⟨g3, 0, none⟩) (blk_lt a1.out)).trans ((blk_cell a1.out 0).trans rfl)) (Kd.C_below HR.out (lP_ HB.out hB)) (HIN.out x hx).1 (HIN.out x hx).2).mono (fun _ _ h => ⟨h.1, lP_ hB h.2⟩)) (Kd.R_reads' HO.out).2.2 (by simp)).mono ?_; rintro e w10 ⟨he, hb⟩; rw [HANY2.out] at he; subst he; have n0_ := Aside0.mk (lP_ (by repeat (first | exact HB.out | refine lS1_ ?_ a3.out)) hb); have n1_ := Aside0.mk (bB_ (o := .cells #[.int .i64 7, .int .i64 a0_1, .int .i64 a0_2, .int .i64 0] 37 (0, 0)) (by repeat (first | exact a0.out | refine bF_ ?_ NB25.out _)) hb); have n2_ := Aside0.mk (bB_ (o := .cells #[.slice A1 l1.length c1] 24 (0, 0)) (by repeat (first | exact a1.out | refine bF_ ?_ NB35.out _)) hb); clear HB a0 a1 hb; have HB := n0_; have a0 := n1_; have a1 := n2_; clear n0_ n1_ n2_; (try clear q0_ q1_ q2_ q3_); have q0_ : w10.cell? ⟨g2, 0, none⟩ = some (.int .i64 7) := (blk_cell a0.out 0).trans rfl; have q1_ : w10.cell? ⟨g2, 1, none⟩ = some (.int .i64 a0_1) := (blk_cell a0.out 1).trans rfl; have q2_ : w10.cell? ⟨g2, 2, none⟩ = some (.int .i64 a0_2) := (blk_cell a0.out 2).trans rfl; have q3_ : w10.cell? ⟨g2, 3, none⟩ = some (.int .i64 0) := (blk_cell a0.out 3).trans rfl))
  go_ret
  exact ⟨rfl, (by repeat (first | exact HB.out | refine lS1_ ?_ a3.out))⟩
set_option maxHeartbeats 4000000 in
set_option maxRecDepth 100000 in
theorem fault_7_ok (a0_1 a0_2 : Int) (A1 : Option Addr) (c1 : Nat) (l1 : List S37) (w : World) (hr1 : Kd.C k37 w A1 l1.length l1) (hl : l1.length ≤ 9223372036854775807) (hp : ([a0_1, a0_2] : List Int).any (fun x => !decide (0 ≤ x ∧ x ≤ (l1.length : Int) - 1)) = false) (hq : ([a0_1, a0_2] : List Int).any (fun x => (rd_T37 l1 x).f0 != 2) = false) (hg : ¬ a0_1 > a0_2) :
    Calls Try.prog 36 #[.agg #[.int .i64 7, .int .i64 a0_1, .int .i64 a0_2, .int .i64 0], .slice A1 l1.length c1] w fun e w' => e = .returned (.int .i64 0) ∧ Below w.heap.size w w' := by
  have hmf : ∀ (fn : Fn) (first cap : Array Value) (w : World), (Instr.makeFunc fn first cap).run Try.prog w = .ok (.func fn first cap) w := fun _ _ _ _ => rfl
  have HB := Aside0.mk (Below.refl w.heap.size w)
  have HR := Aside0.mk hr1
  have HL := Aside0.mk hl
  clear hr1 hl
  have HI := Aside0.mk (show impl_in.f 7 1 7 = some true by rw [impl_in_eq]; rfl)
  have HN := Aside0.mk (show impl_namesOf.f 1 7 = some (true, true, false) by simp [impl_namesOf.f, impl_namesOf.j0])
  have HI2 := Aside0.mk (show impl_in.f 0 0 9999 = some true by rw [impl_in_eq]; rfl)
  have HP := Aside0.mk (show impl_Term_parts.f 1 7 a0_1 a0_2 0 = some ([a0_1, a0_2] : List Int) by simp [impl_Term_parts.f, impl_namesOf.f, impl_namesOf.j0])
  have HANY := Aside0.mk hp
  have HIN := Aside0.mk (fault_in l1 [a0_1, a0_2] hp)
  clear hp
  have HANY2 := Aside0.mk hq
  clear hq
  have hg0 : decide (a0_1 > a0_2) = false := decide_eq_false hg
  have hg1 : decide (a0_2 < a0_1) = false := decide_eq_false hg
  clear hg
  go_enter Try.func36, Try.ntmps36
  go_wp2_with (first
    | ((with_reducible refine gate_dst (N := 2) rfl ?_); refine box_event ?hg (N := 2) ?hd (cs := #[.int .i64 7, .int .i64 a0_1, .int .i64 a0_2, .int .i64 0]) (t := 37) ?hr ?_; (case hd => rfl); (case hg => rfl); (case hr => first | (go_simp; done) | (go_simp; rfl)); intro g2 hg w2 hbox hb; have n0_ := Aside0.mk (lP_ HB.out hb); have n1_ := Aside0.mk hbox; clear HB; have HB := n0_; have a0 := n1_; clear n0_ n1_ hb hbox hg)
    | ((with_reducible refine gate_dst (N := 3) rfl ?_); refine box_event ?hg (N := 3) ?hd (cs := #[.slice A1 l1.length c1]) (t := 24) ?hr ?_; (case hd => rfl); (case hg => rfl); (case hr => first | (go_simp; done) | (go_simp; rfl)); intro g3 hg w3 hbox hb; have n0_ := Aside0.mk (lP_ HB.out hb); have n1_ := Aside0.mk (bB_ a0.out hb); have n2_ := Aside0.mk hbox; clear HB a0; have HB := n0_; have a0 := n1_; have a1 := n2_; clear n0_ n1_ n2_ hb hbox hg; have q0_ : w3.cell? ⟨g2, 0, none⟩ = some (.int .i64 7) := (blk_cell a0.out 0).trans rfl; have q1_ : w3.cell? ⟨g2, 1, none⟩ = some (.int .i64 a0_1) := (blk_cell a0.out 1).trans rfl; have q2_ : w3.cell? ⟨g2, 2, none⟩ = some (.int .i64 a0_2) := (blk_cell a0.out 2).trans rfl; have q3_ : w3.cell? ⟨g2, 3, none⟩ = some (.int .i64 0) := (blk_cell a0.out 3).trans rfl)
    | (go_at_call 37; with_reducible refine (impl_in.calls 7 1 7 _ _ HI.out).mono ?_; rintro e w4 ⟨rfl, hd⟩; have hb := hd.below; clear hd; have n0_ := Aside0.mk (lP_ HB.out hb); have n1_ := Aside0.mk (bB_ a0.out hb); have n2_ := Aside0.mk (bB_ a1.out hb); clear HB a0 a1 hb; have HB := n0_; have a0 := n1_; have a1 := n2_; clear n0_ n1_ n2_ q0_ q1_ q2_ q3_; have q0_ : w4.cell? ⟨g2, 0, none⟩ = some (.int .i64 7) := (blk_cell a0.out 0).trans rfl; have q1_ : w4.cell? ⟨g2, 1, none⟩ = some (.int .i64 a0_1) := (blk_cell a0.out 1).trans rfl; have q2_ : w4.cell? ⟨g2, 2, none⟩ = some (.int .i64 a0_2) := (blk_cell a0.out 2).trans rfl; have q3_ : w4.cell? ⟨g2, 3, none⟩ = some (.int .i64 0) := (blk_cell a0.out 3).trans rfl)
    | (go_at_call 22; with_reducible refine (impl_namesOf.calls 1 7 true true false _ HN.out).mono ?_; rintro e w5 ⟨rfl, hb⟩; have n0_ := Aside0.mk (lP_ HB.out hb); have n1_ := Aside0.mk (bB_ a0.out hb); have n2_ := Aside0.mk (bB_ a1.out hb); clear HB a0 a1 hb; have HB := n0_; have a0 := n1_; have a1 := n2_; clear n0_ n1_ n2_ q0_ q1_ q2_ q3_)
    | ((with_reducible refine gate_dst (N := 5) rfl ?_); refine box_event ?hg (N := 5) ?hd (cs := #[.bool false, .bool false, .bool false]) (t := 47) ?hr ?_; (case hd => rfl); (case hg => rfl); (case hr => first | (go_simp; done) | (go_simp; rfl)); intro g5 hg w6 hbox hb; have n0_ := Aside0.mk (lP_ HB.out hb); have n1_ := Aside0.mk (bB_ a0.out hb); have n2_ := Aside0.mk (bB_ a1.out hb); have n3_ := Aside0.mk hbox; have n4_ := Aside0.mk (show w.heap.size ≤ g5 by rw [hg]; exact below_size HB.out); have n5_ := Aside0.mk (show g2 ≠ g5 by rw [hg]; exact Nat.ne_of_lt (blk_lt a0.out)); have n6_ := Aside0.mk (show g3 ≠ g5 by rw [hg]; exact Nat.ne_of_lt (blk_lt a1.out)); clear HB a0 a1; have HB := n0_; have a0 := n1_; have a1 := n2_; have a2 := n3_; have a3 := n4_; have NB25 := n5_; have NB35 := n6_; clear n0_ n1_ n2_ n3_ n4_ n5_ n6_ hb hbox hg; have hnb_ := NB25.out; have hnc_ := NB25.out.symm; have q0_ : w6.cell? ⟨g2, 0, none⟩ = some (.int .i64 7) := (blk_cell a0.out 0).trans rfl; have q1_ : w6.cell? ⟨g2, 1, none⟩ = some (.int .i64 a0_1) := (blk_cell a0.out 1).trans rfl; have q2_ : w6.cell? ⟨g2, 2, none⟩ = some (.int .i64 a0_2) := (blk_cell a0.out 2).trans rfl; have q3_ : w6.cell? ⟨g2, 3, none⟩ = some (.int .i64 0) := (blk_cell a0.out 3).trans rfl; have p0_ : w6.cell? ⟨g5, 0, none⟩ = some (.bool false) := (blk_cell a2.out 0).trans rfl; have p1_ : w6.cell? ⟨g5, 1, none⟩ = some (.bool false) := (blk_cell a2.out 1).trans rfl; have p2_ : w6.cell? ⟨g5, 2, none⟩ = some (.bool false) := (blk_cell a2.out 2).trans rfl; have f0_ := blk_frozen a2.out 0; have f1_ := blk_frozen a2.out 1; have f2_ := blk_frozen a2.out 2)
    | (go_at_call 37; with_reducible refine (impl_in.calls 0 0 9999 _ _ HI2.out).mono ?_; rintro e w7 ⟨rfl, hd⟩; have hb := hd.below; clear hd; have n0_ := Aside0.mk (lP_ (by repeat (first | exact HB.out | refine lS1_ ?_ a3.out)) hb); have n1_ := Aside0.mk (bB_ (o := .cells #[.int .i64 7, .int .i64 a0_1, .int .i64 a0_2, .int .i64 0] 37 (0, 0)) (by repeat (first | exact a0.out | refine bF_ ?_ NB25.out _)) hb); have n2_ := Aside0.mk (bB_ (o := .cells #[.slice A1 l1.length c1] 24 (0, 0)) (by repeat (first | exact a1.out | refine bF_ ?_ NB35.out _)) hb); clear HB a0 a1 hb; have HB := n0_; have a0 := n1_; have a1 := n2_; clear n0_ n1_ n2_; (try clear q0_ q1_ q2_ q3_); have q0_ : w7.cell? ⟨g2, 0, none⟩ = some (.int .i64 7) := (blk_cell a0.out 0).trans rfl; have q1_ : w7.cell? ⟨g2, 1, none⟩ = some (.int .i64 a0_1) := (blk_cell a0.out 1).trans rfl; have q2_ : w7.cell? ⟨g2, 2, none⟩ = some (.int .i64 a0_2) := (blk_cell a0.out 2).trans rfl; have q3_ : w7.cell? ⟨g2, 3, none⟩ = some (.int .i64 0) := (blk_cell a0.out 3).trans rfl)
    | (go_at_call 39; (try clear HO); with_reducible refine (impl_Term_parts.calls 1 7 a0_1 a0_2 0 _ _ HP.out).mono ?_; rintro e w8 ⟨v8, rfl, ho, hb⟩; have HO := Aside0.mk ho; clear ho; obtain ⟨Ao, co, eo⟩ := Kd.R_slice HO.out; subst eo; have n0_ := Aside0.mk (lP_ (by repeat (first | exact HB.out | refine lS1_ ?_ a3.out)) hb); have n1_ := Aside0.mk (bB_ (o := .cells #[.int .i64 7, .int .i64 a0_1, .int .i64 a0_2, .int .i64 0] 37 (0, 0)) (by repeat (first | exact a0.out | refine bF_ ?_ NB25.out _)) hb); have n2_ := Aside0.mk (bB_ (o := .cells #[.slice A1 l1.length c1] 24 (0, 0)) (by repeat (first | exact a1.out | refine bF_ ?_ NB35.out _)) hb); clear HB a0 a1 hb; have HB := n0_; have a0 := n1_; have a1 := n2_; clear n0_ n1_ n2_; (try clear q0_ q1_ q2_ q3_); have q0_ : w8.cell? ⟨g2, 0, none⟩ = some (.int .i64 7) := (blk_cell a0.out 0).trans rfl; have q1_ : w8.cell? ⟨g2, 1, none⟩ = some (.int .i64 a0_1) := (blk_cell a0.out 1).trans rfl; have q2_ : w8.cell? ⟨g2, 2, none⟩ = some (.int .i64 a0_2) := (blk_cell a0.out 2).trans rfl; have q3_ : w8.cell? ⟨g2, 3, none⟩ = some (.int .i64 0) := (blk_cell a0.out 3).trans rfl)
    | (go_at_call 43; refine (slices_ContainsFunc_int64_int64.calls 44 #[.pointer (some ⟨g3, 0, none⟩)] (fun x => !decide (0 ≤ x ∧ x ≤ (l1.length : Int) - 1)) Ao co _ _ (enters_of Try.func44 (by kernel_rfl) rfl) (fun W x _ hB => (impl_fault_1.calls A1 l1.length c1 g3 x HL.out W ((hB.cell (p := ⟨g3, 0, none⟩) (blk_lt a1.out)).trans ((blk_cell a1.out 0).trans rfl))).mono (fun _ _ h => ⟨h.1, lP_ hB h.2⟩)) (Kd.R_reads' HO.out).2.2 (by simp)).mono ?_; rintro e w9 ⟨he, hb⟩; rw [HANY.out] at he; subst he; have n0_ := Aside0.mk (lP_ (by repeat (first | exact HB.out | refine lS1_ ?_ a3.out)) hb); have n1_ := Aside0.mk (bB_ (o := .cells #[.int .i64 7, .int .i64 a0_1, .int .i64 a0_2, .int .i64 0] 37 (0, 0)) (by repeat (first | exact a0.out | refine bF_ ?_ NB25.out _)) hb); have n2_ := Aside0.mk (bB_ (o := .cells #[.slice A1 l1.length c1] 24 (0, 0)) (by repeat (first | exact a1.out | refine bF_ ?_ NB35.out _)) hb); clear HB a0 a1 hb; have HB := n0_; have a0 := n1_; have a1 := n2_; clear n0_ n1_ n2_; (try clear q0_ q1_ q2_ q3_); have q0_ : w9.cell? ⟨g2, 0, none⟩ = some (.int .i64 7) := (blk_cell a0.out 0).trans rfl; have q1_ : w9.cell? ⟨g2, 1, none⟩ = some (.int .i64 a0_1) := (blk_cell a0.out 1).trans rfl; have q2_ : w9.cell? ⟨g2, 2, none⟩ = some (.int .i64 a0_2) := (blk_cell a0.out 2).trans rfl; have q3_ : w9.cell? ⟨g2, 3, none⟩ = some (.int .i64 0) := (blk_cell a0.out 3).trans rfl)
    | (go_at_call 43; refine (slices_ContainsFunc_int64_int64.calls 45 #[.pointer (some ⟨g3, 0, none⟩)] (fun x => (rd_T37 l1 x).f0 != 2) Ao co _ _ (enters_of Try.func45 (by kernel_rfl) rfl) (fun W x hx hB => (impl_fault_2.calls A1 l1 c1 g3 x W ((hB.cell (p := ⟨g3, 0, none⟩) (blk_lt a1.out)).trans ((blk_cell a1.out 0).trans rfl)) (Kd.C_below HR.out (lP_ HB.out hB)) (HIN.out x hx).1 (HIN.out x hx).2).mono (fun _ _ h => ⟨h.1, lP_ hB h.2⟩)) (Kd.R_reads' HO.out).2.2 (by simp)).mono ?_; rintro e w10 ⟨he, hb⟩; rw [HANY2.out] at he; subst he; have n0_ := Aside0.mk (lP_ (by repeat (first | exact HB.out | refine lS1_ ?_ a3.out)) hb); have n1_ := Aside0.mk (bB_ (o := .cells #[.int .i64 7, .int .i64 a0_1, .int .i64 a0_2, .int .i64 0] 37 (0, 0)) (by repeat (first | exact a0.out | refine bF_ ?_ NB25.out _)) hb); have n2_ := Aside0.mk (bB_ (o := .cells #[.slice A1 l1.length c1] 24 (0, 0)) (by repeat (first | exact a1.out | refine bF_ ?_ NB35.out _)) hb); clear HB a0 a1 hb; have HB := n0_; have a0 := n1_; have a1 := n2_; clear n0_ n1_ n2_; (try clear q0_ q1_ q2_ q3_); have q0_ : w10.cell? ⟨g2, 0, none⟩ = some (.int .i64 7) := (blk_cell a0.out 0).trans rfl; have q1_ : w10.cell? ⟨g2, 1, none⟩ = some (.int .i64 a0_1) := (blk_cell a0.out 1).trans rfl; have q2_ : w10.cell? ⟨g2, 2, none⟩ = some (.int .i64 a0_2) := (blk_cell a0.out 2).trans rfl; have q3_ : w10.cell? ⟨g2, 3, none⟩ = some (.int .i64 0) := (blk_cell a0.out 3).trans rfl))
  go_ret
  exact ⟨rfl, (by repeat (first | exact HB.out | refine lS1_ ?_ a3.out))⟩
set_option maxHeartbeats 4000000 in
set_option maxRecDepth 100000 in
theorem fault_6_b (a0_1 a0_2 a0_3 : Int) (A1 : Option Addr) (c1 : Nat) (l1 : List S37) (w : World) (hr1 : Kd.C k37 w A1 l1.length l1) (hl : l1.length ≤ 9223372036854775807) (h : ¬ a0_2 = 0) :
    Calls Try.prog 36 #[.agg #[.int .i64 6, .int .i64 a0_1, .int .i64 a0_2, .int .i64 a0_3], .slice A1 l1.length c1] w fun e w' => e = .returned (.int .i64 1) ∧ Below w.heap.size w w' := by
  have hmf : ∀ (fn : Fn) (first cap : Array Value) (w : World), (Instr.makeFunc fn first cap).run Try.prog w = .ok (.func fn first cap) w := fun _ _ _ _ => rfl
  have HB := Aside0.mk (Below.refl w.heap.size w)
  have HR := Aside0.mk hr1
  have HL := Aside0.mk hl
  clear hr1 hl
  have h0 : (a0_2 == 0) = false := by simpa using h
  have h1 : (a0_2 != 0) = true := by simpa using h
  have h2 : decide (a0_2 = 0) = false := decide_eq_false h
  clear h
  have HI := Aside0.mk (show impl_in.f 6 1 7 = some true by rw [impl_in_eq]; rfl)
  have HN := Aside0.mk (show impl_namesOf.f 1 6 = some (true, false, false) by simp [impl_namesOf.f, impl_namesOf.j0])
  go_enter Try.func36, Try.ntmps36
  go_wp2_with (first
    | ((with_reducible refine gate_dst (N := 2) rfl ?_); refine box_event ?hg (N := 2) ?hd (cs := #[.int .i64 6, .int .i64 a0_1, .int .i64 a0_2, .int .i64 a0_3]) (t := 37) ?hr ?_; (case hd => rfl); (case hg => rfl); (case hr => first | (go_simp; done) | (go_simp; rfl)); intro g2 hg w2 hbox hb; have n0_ := Aside0.mk (lP_ HB.out hb); have n1_ := Aside0.mk hbox; clear HB; have HB := n0_; have BK2 := n1_; clear n0_ n1_ hb hbox hg)
    | ((with_reducible refine gate_dst (N := 3) rfl ?_); refine box_event ?hg (N := 3) ?hd (cs := #[.slice A1 l1.length c1]) (t := 24) ?hr ?_; (case hd => rfl); (case hg => rfl); (case hr => first | (go_simp; done) | (go_simp; rfl)); intro g3 hg w3 hbox hb; have n0_ := Aside0.mk (lP_ HB.out hb); have n1_ := Aside0.mk (bB_ BK2.out hb); have n2_ := Aside0.mk hbox; clear HB BK2; have HB := n0_; have BK2 := n1_; have BK3 := n2_; clear n0_ n1_ n2_ hb hbox hg; have q0_ : w3.cell? ⟨g2, 0, none⟩ = some (.int .i64 6) := (blk_cell BK2.out 0).trans rfl; have q1_ : w3.cell? ⟨g2, 1, none⟩ = some (.int .i64 a0_1) := (blk_cell BK2.out 1).trans rfl; have q2_ : w3.cell? ⟨g2, 2, none⟩ = some (.int .i64 a0_2) := (blk_cell BK2.out 2).trans rfl; have q3_ : w3.cell? ⟨g2, 3, none⟩ = some (.int .i64 a0_3) := (blk_cell BK2.out 3).trans rfl)
    | (go_at_call 37; with_reducible refine (impl_in.calls 6 1 7 _ _ HI.out).mono ?_; rintro e w4 ⟨rfl, hd⟩; have hb := hd.below; clear hd; have n0_ := Aside0.mk (lP_ HB.out hb); have n1_ := Aside0.mk (bB_ BK2.out hb); have n2_ := Aside0.mk (bB_ BK3.out hb); clear HB BK2 BK3 hb; have HB := n0_; have BK2 := n1_; have BK3 := n2_; clear n0_ n1_ n2_ q0_ q1_ q2_ q3_; have q0_ : w4.cell? ⟨g2, 0, none⟩ = some (.int .i64 6) := (blk_cell BK2.out 0).trans rfl; have q1_ : w4.cell? ⟨g2, 1, none⟩ = some (.int .i64 a0_1) := (blk_cell BK2.out 1).trans rfl; have q2_ : w4.cell? ⟨g2, 2, none⟩ = some (.int .i64 a0_2) := (blk_cell BK2.out 2).trans rfl; have q3_ : w4.cell? ⟨g2, 3, none⟩ = some (.int .i64 a0_3) := (blk_cell BK2.out 3).trans rfl)
    | (go_at_call 22; with_reducible refine (impl_namesOf.calls 1 6 true false false _ HN.out).mono ?_; rintro e w5 ⟨rfl, hb⟩; have n0_ := Aside0.mk (lP_ HB.out hb); have n1_ := Aside0.mk (bB_ BK2.out hb); have n2_ := Aside0.mk (bB_ BK3.out hb); clear HB BK2 BK3 hb; have HB := n0_; have BK2 := n1_; have BK3 := n2_; clear n0_ n1_ n2_ q0_ q1_ q2_ q3_)
    | ((with_reducible refine gate_dst (N := 5) rfl ?_); refine box_event ?hg (N := 5) ?hd (cs := #[.bool false, .bool false, .bool false]) (t := 47) ?hr ?_; (case hd => rfl); (case hg => rfl); (case hr => first | (go_simp; done) | (go_simp; rfl)); intro g5 hg w6 hbox hb; have n0_ := Aside0.mk (lP_ HB.out hb); have n1_ := Aside0.mk (bB_ BK2.out hb); have n2_ := Aside0.mk (bB_ BK3.out hb); have n3_ := Aside0.mk hbox; have n4_ := Aside0.mk (show w.heap.size ≤ g5 by rw [hg]; exact below_size HB.out); have n5_ := Aside0.mk (show g2 ≠ g5 by rw [hg]; exact Nat.ne_of_lt (blk_lt BK2.out)); have n6_ := Aside0.mk (show g3 ≠ g5 by rw [hg]; exact Nat.ne_of_lt (blk_lt BK3.out)); clear HB BK2 BK3; have HB := n0_; have BK2 := n1_; have BK3 := n2_; have BK5 := n3_; have GE5 := n4_; have NB25 := n5_; have NB35 := n6_; clear n0_ n1_ n2_ n3_ n4_ n5_ n6_ hb hbox hg; have hnb_ := NB25.out; have hnc_ := NB25.out.symm; have q0_ : w6.cell? ⟨g2, 0, none⟩ = some (.int .i64 6) := (blk_cell BK2.out 0).trans rfl; have q1_ : w6.cell? ⟨g2, 1, none⟩ = some (.int .i64 a0_1) := (blk_cell BK2.out 1).trans rfl; have q2_ : w6.cell? ⟨g2, 2, none⟩ = some (.int .i64 a0_2) := (blk_cell BK2.out 2).trans rfl; have q3_ : w6.cell? ⟨g2, 3, none⟩ = some (.int .i64 a0_3) := (blk_cell BK2.out 3).trans rfl; have p0_ : w6.cell? ⟨g5, 0, none⟩ = some (.bool false) := (blk_cell BK5.out 0).trans rfl; have p1_ : w6.cell? ⟨g5, 1, none⟩ = some (.bool false) := (blk_cell BK5.out 1).trans rfl; have p2_ : w6.cell? ⟨g5, 2, none⟩ = some (.bool false) := (blk_cell BK5.out 2).trans rfl; have f0_ := blk_frozen BK5.out 0; have f1_ := blk_frozen BK5.out 1; have f2_ := blk_frozen BK5.out 2))
  go_ret
  exact ⟨rfl, (by repeat (first | exact HB.out | refine lS1_ ?_ GE5.out))⟩
set_option maxHeartbeats 4000000 in
set_option maxRecDepth 100000 in
theorem fault_6_f (a0_1 a0_3 : Int) (A1 : Option Addr) (c1 : Nat) (l1 : List S37) (w : World) (hr1 : Kd.C k37 w A1 l1.length l1) (hl : l1.length ≤ 9223372036854775807) (h : ¬ a0_3 = 0) :
    Calls Try.prog 36 #[.agg #[.int .i64 6, .int .i64 a0_1, .int .i64 0, .int .i64 a0_3], .slice A1 l1.length c1] w fun e w' => e = .returned (.int .i64 1) ∧ Below w.heap.size w w' := by
  have hmf : ∀ (fn : Fn) (first cap : Array Value) (w : World), (Instr.makeFunc fn first cap).run Try.prog w = .ok (.func fn first cap) w := fun _ _ _ _ => rfl
  have HB := Aside0.mk (Below.refl w.heap.size w)
  have HR := Aside0.mk hr1
  have HL := Aside0.mk hl
  clear hr1 hl
  have h0 : (a0_3 == 0) = false := by simpa using h
  have h1 : (a0_3 != 0) = true := by simpa using h
  have h2 : decide (a0_3 = 0) = false := decide_eq_false h
  clear h
  have HI := Aside0.mk (show impl_in.f 6 1 7 = some true by rw [impl_in_eq]; rfl)
  have HN := Aside0.mk (show impl_namesOf.f 1 6 = some (true, false, false) by simp [impl_namesOf.f, impl_namesOf.j0])
  go_enter Try.func36, Try.ntmps36
  go_wp2_with (first
    | ((with_reducible refine gate_dst (N := 2) rfl ?_); refine box_event ?hg (N := 2) ?hd (cs := #[.int .i64 6, .int .i64 a0_1, .int .i64 0, .int .i64 a0_3]) (t := 37) ?hr ?_; (case hd => rfl); (case hg => rfl); (case hr => first | (go_simp; done) | (go_simp; rfl)); intro g2 hg w2 hbox hb; have n0_ := Aside0.mk (lP_ HB.out hb); have n1_ := Aside0.mk hbox; clear HB; have HB := n0_; have BK2 := n1_; clear n0_ n1_ hb hbox hg)
    | ((with_reducible refine gate_dst (N := 3) rfl ?_); refine box_event ?hg (N := 3) ?hd (cs := #[.slice A1 l1.length c1]) (t := 24) ?hr ?_; (case hd => rfl); (case hg => rfl); (case hr => first | (go_simp; done) | (go_simp; rfl)); intro g3 hg w3 hbox hb; have n0_ := Aside0.mk (lP_ HB.out hb); have n1_ := Aside0.mk (bB_ BK2.out hb); have n2_ := Aside0.mk hbox; clear HB BK2; have HB := n0_; have BK2 := n1_; have BK3 := n2_; clear n0_ n1_ n2_ hb hbox hg; have q0_ : w3.cell? ⟨g2, 0, none⟩ = some (.int .i64 6) := (blk_cell BK2.out 0).trans rfl; have q1_ : w3.cell? ⟨g2, 1, none⟩ = some (.int .i64 a0_1) := (blk_cell BK2.out 1).trans rfl; have q2_ : w3.cell? ⟨g2, 2, none⟩ = some (.int .i64 0) := (blk_cell BK2.out 2).trans rfl; have q3_ : w3.cell? ⟨g2, 3, none⟩ = some (.int .i64 a0_3) := (blk_cell BK2.out 3).trans rfl)
    | (go_at_call 37; with_reducible refine (impl_in.calls 6 1 7 _ _ HI.out).mono ?_; rintro e w4 ⟨rfl, hd⟩; have hb := hd.below; clear hd; have n0_ := Aside0.mk (lP_ HB.out hb); have n1_ := Aside0.mk (bB_ BK2.out hb); have n2_ := Aside0.mk (bB_ BK3.out hb); clear HB BK2 BK3 hb; have HB := n0_; have BK2 := n1_; have BK3 := n2_; clear n0_ n1_ n2_ q0_ q1_ q2_ q3_; have q0_ : w4.cell? ⟨g2, 0, none⟩ = some (.int .i64 6) := (blk_cell BK2.out 0).trans rfl; have q1_ : w4.cell? ⟨g2, 1, none⟩ = some (.int .i64 a0_1) := (blk_cell BK2.out 1).trans rfl; have q2_ : w4.cell? ⟨g2, 2, none⟩ = some (.int .i64 0) := (blk_cell BK2.out 2).trans rfl; have q3_ : w4.cell? ⟨g2, 3, none⟩ = some (.int .i64 a0_3) := (blk_cell BK2.out 3).trans rfl)
    | (go_at_call 22; with_reducible refine (impl_namesOf.calls 1 6 true false false _ HN.out).mono ?_; rintro e w5 ⟨rfl, hb⟩; have n0_ := Aside0.mk (lP_ HB.out hb); have n1_ := Aside0.mk (bB_ BK2.out hb); have n2_ := Aside0.mk (bB_ BK3.out hb); clear HB BK2 BK3 hb; have HB := n0_; have BK2 := n1_; have BK3 := n2_; clear n0_ n1_ n2_ q0_ q1_ q2_ q3_)
    | ((with_reducible refine gate_dst (N := 5) rfl ?_); refine box_event ?hg (N := 5) ?hd (cs := #[.bool false, .bool false, .bool false]) (t := 47) ?hr ?_; (case hd => rfl); (case hg => rfl); (case hr => first | (go_simp; done) | (go_simp; rfl)); intro g5 hg w6 hbox hb; have n0_ := Aside0.mk (lP_ HB.out hb); have n1_ := Aside0.mk (bB_ BK2.out hb); have n2_ := Aside0.mk (bB_ BK3.out hb); have n3_ := Aside0.mk hbox; have n4_ := Aside0.mk (show w.heap.size ≤ g5 by rw [hg]; exact below_size HB.out); have n5_ := Aside0.mk (show g2 ≠ g5 by rw [hg]; exact Nat.ne_of_lt (blk_lt BK2.out)); have n6_ := Aside0.mk (show g3 ≠ g5 by rw [hg]; exact Nat.ne_of_lt (blk_lt BK3.out)); clear HB BK2 BK3; have HB := n0_; have BK2 := n1_; have BK3 := n2_; have BK5 := n3_; have GE5 := n4_; have NB25 := n5_; have NB35 := n6_; clear n0_ n1_ n2_ n3_ n4_ n5_ n6_ hb hbox hg; have hnb_ := NB25.out; have hnc_ := NB25.out.symm; have q0_ : w6.cell? ⟨g2, 0, none⟩ = some (.int .i64 6) := (blk_cell BK2.out 0).trans rfl; have q1_ : w6.cell? ⟨g2, 1, none⟩ = some (.int .i64 a0_1) := (blk_cell BK2.out 1).trans rfl; have q2_ : w6.cell? ⟨g2, 2, none⟩ = some (.int .i64 0) := (blk_cell BK2.out 2).trans rfl; have q3_ : w6.cell? ⟨g2, 3, none⟩ = some (.int .i64 a0_3) := (blk_cell BK2.out 3).trans rfl; have p0_ : w6.cell? ⟨g5, 0, none⟩ = some (.bool false) := (blk_cell BK5.out 0).trans rfl; have p1_ : w6.cell? ⟨g5, 1, none⟩ = some (.bool false) := (blk_cell BK5.out 1).trans rfl; have p2_ : w6.cell? ⟨g5, 2, none⟩ = some (.bool false) := (blk_cell BK5.out 2).trans rfl; have f0_ := blk_frozen BK5.out 0; have f1_ := blk_frozen BK5.out 1; have f2_ := blk_frozen BK5.out 2))
  go_ret
  exact ⟨rfl, (by repeat (first | exact HB.out | refine lS1_ ?_ GE5.out))⟩
set_option maxHeartbeats 4000000 in
set_option maxRecDepth 100000 in
theorem fault_6_p (a0_1 : Int) (A1 : Option Addr) (c1 : Nat) (l1 : List S37) (w : World) (hr1 : Kd.C k37 w A1 l1.length l1) (hl : l1.length ≤ 9223372036854775807) (hp : ([a0_1] : List Int).any (fun x => !decide (0 ≤ x ∧ x ≤ (l1.length : Int) - 1)) = true) :
    Calls Try.prog 36 #[.agg #[.int .i64 6, .int .i64 a0_1, .int .i64 0, .int .i64 0], .slice A1 l1.length c1] w fun e w' => e = .returned (.int .i64 3) ∧ Below w.heap.size w w' := by
  have hmf : ∀ (fn : Fn) (first cap : Array Value) (w : World), (Instr.makeFunc fn first cap).run Try.prog w = .ok (.func fn first cap) w := fun _ _ _ _ => rfl
  have HB := Aside0.mk (Below.refl w.heap.size w)
  have HR := Aside0.mk hr1
  have HL := Aside0.mk hl
  clear hr1 hl
  have HI := Aside0.mk (show impl_in.f 6 1 7 = some true by rw [impl_in_eq]; rfl)
  have HN := Aside0.mk (show impl_namesOf.f 1 6 = some (true, false, false) by simp [impl_namesOf.f, impl_namesOf.j0])
  have HI2 := Aside0.mk (show impl_in.f 0 0 9999 = some true by rw [impl_in_eq]; rfl)
  have HP := Aside0.mk (show impl_Term_parts.f 1 6 a0_1 0 0 = some ([a0_1] : List Int) by simp [impl_Term_parts.f, impl_namesOf.f, impl_namesOf.j0])
  have HANY := Aside0.mk hp
  clear hp
  go_enter Try.func36, Try.ntmps36
  go_wp2_with (first
    | ((with_reducible refine gate_dst (N := 2) rfl ?_); refine box_event ?hg (N := 2) ?hd (cs := #[.int .i64 6, .int .i64 a0_1, .int .i64 0, .int .i64 0]) (t := 37) ?hr ?_; (case hd => rfl); (case hg => rfl); (case hr => first | (go_simp; done) | (go_simp; rfl)); intro g2 hg w2 hbox hb; have n0_ := Aside0.mk (lP_ HB.out hb); have n1_ := Aside0.mk hbox; clear HB; have HB := n0_; have a0 := n1_; clear n0_ n1_ hb hbox hg)
    | ((with_reducible refine gate_dst (N := 3) rfl ?_); refine box_event ?hg (N := 3) ?hd (cs := #[.slice A1 l1.length c1]) (t := 24) ?hr ?_; (case hd => rfl); (case hg => rfl); (case hr => first | (go_simp; done) | (go_simp; rfl)); intro g3 hg w3 hbox hb; have n0_ := Aside0.mk (lP_ HB.out hb); have n1_ := Aside0.mk (bB_ a0.out hb); have n2_ := Aside0.mk hbox; clear HB a0; have HB := n0_; have a0 := n1_; have a1 := n2_; clear n0_ n1_ n2_ hb hbox hg; have q0_ : w3.cell? ⟨g2, 0, none⟩ = some (.int .i64 6) := (blk_cell a0.out 0).trans rfl; have q1_ : w3.cell? ⟨g2, 1, none⟩ = some (.int .i64 a0_1) := (blk_cell a0.out 1).trans rfl; have q2_ : w3.cell? ⟨g2, 2, none⟩ = some (.int .i64 0) := (blk_cell a0.out 2).trans rfl; have q3_ : w3.cell? ⟨g2, 3, none⟩ = some (.int .i64 0) := (blk_cell a0.out 3).trans rfl)
    | (go_at_call 37; with_reducible refine (impl_in.calls 6 1 7 _ _ HI.out).mono ?_; rintro e w4 ⟨rfl, hd⟩; have hb := hd.below; clear hd; have n0_ := Aside0.mk (lP_ HB.out hb); have n1_ := Aside0.mk (bB_ a0.out hb); have n2_ := Aside0.mk (bB_ a1.out hb); clear HB a0 a1 hb; have HB := n0_; have a0 := n1_; have a1 := n2_; clear n0_ n1_ n2_ q0_ q1_ q2_ q3_; have q0_ : w4.cell? ⟨g2, 0, none⟩ = some (.int .i64 6) := (blk_cell a0.out 0).trans rfl; have q1_ : w4.cell? ⟨g2, 1, none⟩ = some (.int .i64 a0_1) := (blk_cell a0.out 1).trans rfl; have q2_ : w4.cell? ⟨g2, 2, none⟩ = some (.int .i64 0) := (blk_cell a0.out 2).trans rfl; have q3_ : w4.cell? ⟨g2, 3, none⟩ = some (.int .i64 0) := (blk_cell a0.out 3).trans rfl)
    | (go_at_call 22; with_reducible refine (impl_namesOf.calls 1 6 true false false _ HN.out).mono ?_; rintro e w5 ⟨rfl, hb⟩; have n0_ := Aside0.mk (lP_ HB.out hb); have n1_ := Aside0.mk (bB_ a0.out hb); have n2_ := Aside0.mk (bB_ a1.out hb); clear HB a0 a1 hb; have HB := n0_; have a0 := n1_; have a1 := n2_; clear n0_ n1_ n2_ q0_ q1_ q2_ q3_)
    | ((with_reducible refine gate_dst (N := 5) rfl ?_); refine box_event ?hg (N := 5) ?hd (cs := #[.bool false, .bool false, .bool false]) (t := 47) ?hr ?_; (case hd => rfl); (case hg => rfl); (case hr => first | (go_simp; done) | (go_simp; rfl)); intro g5 hg w6 hbox hb; have n0_ := Aside0.mk (lP_ HB.out hb); have n1_ := Aside0.mk (bB_ a0.out hb); have n2_ := Aside0.mk (bB_ a1.out hb); have n3_ := Aside0.mk hbox; have n4_ := Aside0.mk (show w.heap.size ≤ g5 by rw [hg]; exact below_size HB.out); have n5_ := Aside0.mk (show g2 ≠ g5 by rw [hg]; exact Nat.ne_of_lt (blk_lt a0.out)); have n6_ := Aside0.mk (show g3 ≠ g5 by rw [hg]; exact Nat.ne_of_lt (blk_lt a1.out)); clear HB a0 a1; have HB := n0_; have a0 := n1_; have a1 := n2_; have a2 := n3_; have a3 := n4_; have NB25 := n5_; have NB35 := n6_; clear n0_ n1_ n2_ n3_ n4_ n5_ n6_ hb hbox hg; have hnb_ := NB25.out; have hnc_ := NB25.out.symm; have q0_ : w6.cell? ⟨g2, 0, none⟩ = some (.int .i64 6) := (blk_cell a0.out 0).trans rfl; have q1_ : w6.cell? ⟨g2, 1, none⟩ = some (.int .i64 a0_1) := (blk_cell a0.out 1).trans rfl; have q2_ : w6.cell? ⟨g2, 2, none⟩ = some (.int .i64 0) := (blk_cell a0.out 2).trans rfl; have q3_ : w6.cell? ⟨g2, 3, none⟩ = some (.int .i64 0) := (blk_cell a0.out 3).trans rfl; have p0_ : w6.cell? ⟨g5, 0, none⟩ = some (.bool false) := (blk_cell a2.out 0).trans rfl; have p1_ : w6.cell? ⟨g5, 1, none⟩ = some (.bool false) := (blk_cell a2.out 1).trans rfl; have p2_ : w6.cell? ⟨g5, 2, none⟩ = some (.bool false) := (blk_cell a2.out 2).trans rfl; have f0_ := blk_frozen a2.out 0; have f1_ := blk_frozen a2.out 1; have f2_ := blk_frozen a2.out 2)
    | (go_at_call 37; with_reducible refine (impl_in.calls 0 0 9999 _ _ HI2.out).mono ?_; rintro e w7 ⟨rfl, hd⟩; have hb := hd.below; clear hd; have n0_ := Aside0.mk (lP_ (by repeat (first | exact HB.out | refine lS1_ ?_ a3.out)) hb); have n1_ := Aside0.mk (bB_ (o := .cells #[.int .i64 6, .int .i64 a0_1, .int .i64 0, .int .i64 0] 37 (0, 0)) (by repeat (first | exact a0.out | refine bF_ ?_ NB25.out _)) hb); have n2_ := Aside0.mk (bB_ (o := .cells #[.slice A1 l1.length c1] 24 (0, 0)) (by repeat (first | exact a1.out | refine bF_ ?_ NB35.out _)) hb); clear HB a0 a1 hb; have HB := n0_; have a0 := n1_; have a1 := n2_; clear n0_ n1_ n2_; (try clear q0_ q1_ q2_ q3_); have q0_ : w7.cell? ⟨g2, 0, none⟩ = some (.int .i64 6) := (blk_cell a0.out 0).trans rfl; have q1_ : w7.cell? ⟨g2, 1, none⟩ = some (.int .i64 a0_1) := (blk_cell a0.out 1).trans rfl; have q2_ : w7.cell? ⟨g2, 2, none⟩ = some (.int .i64 0) := (blk_cell a0.out 2).trans rfl; have q3_ : w7.cell? ⟨g2, 3, none⟩ = some (.int .i64 0) := (blk_cell a0.out 3).trans rfl)
    | (go_at_call 39; (try clear HO); with_reducible refine (impl_Term_parts.calls 1 6 a0_1 0 0 _ _ HP.out).mono ?_; rintro e w8 ⟨v8, rfl, ho, hb⟩; have HO := Aside0.mk ho; clear ho; obtain ⟨Ao, co, eo⟩ := Kd.R_slice HO.out; subst eo; have n0_ := Aside0.mk (lP_ (by repeat (first | exact HB.out | refine lS1_ ?_ a3.out)) hb); have n1_ := Aside0.mk (bB_ (o := .cells #[.int .i64 6, .int .i64 a0_1, .int .i64 0, .int .i64 0] 37 (0, 0)) (by repeat (first | exact a0.out | refine bF_ ?_ NB25.out _)) hb); have n2_ := Aside0.mk (bB_ (o := .cells #[.slice A1 l1.length c1] 24 (0, 0)) (by repeat (first | exact a1.out | refine bF_ ?_ NB35.out _)) hb); clear HB a0 a1 hb; have HB := n0_; have a0 := n1_; have a1 := n2_; clear n0_ n1_ n2_; (try clear q0_ q1_ q2_ q3_); have q0_ : w8.cell? ⟨g2, 0, none⟩ = some (.int .i64 6) := (blk_cell a0.out 0).trans rfl; have q1_ : w8.cell? ⟨g2, 1, none⟩ = some (.int .i64 a0_1) := (blk_cell a0.out 1).trans rfl; have q2_ : w8.cell? ⟨g2, 2, none⟩ = some (.int .i64 0) := (blk_cell a0.out 2).trans rfl; have q3_ : w8.cell? ⟨g2, 3, none⟩ = some (.int .i64 0) := (blk_cell a0.out 3).trans rfl)
    | (go_at_call 43; refine (slices_ContainsFunc_int64_int64.calls 44 #[.pointer (some ⟨g3, 0, none⟩)] (fun x => !decide (0 ≤ x ∧ x ≤ (l1.length : Int) - 1)) Ao co _ _ (enters_of Try.func44 (by kernel_rfl) rfl) (fun W x _ hB => (impl_fault_1.calls A1 l1.length c1 g3 x HL.out W ((hB.cell (p := ⟨g3, 0, none⟩) (blk_lt a1.out)).trans ((blk_cell a1.out 0).trans rfl))).mono (fun _ _ h => ⟨h.1, lP_ hB h.2⟩)) (Kd.R_reads' HO.out).2.2 (by simp)).mono ?_; rintro e w9 ⟨he, hb⟩; rw [HANY.out] at he; subst he; have n0_ := Aside0.mk (lP_ (by repeat (first | exact HB.out | refine lS1_ ?_ a3.out)) hb); have n1_ := Aside0.mk (bB_ (o := .cells #[.int .i64 6, .int .i64 a0_1, .int .i64 0, .int .i64 0] 37 (0, 0)) (by repeat (first | exact a0.out | refine bF_ ?_ NB25.out _)) hb); have n2_ := Aside0.mk (bB_ (o := .cells #[.slice A1 l1.length c1] 24 (0, 0)) (by repeat (first | exact a1.out | refine bF_ ?_ NB35.out _)) hb); clear HB a0 a1 hb; have HB := n0_; have a0 := n1_; have a1 := n2_; clear n0_ n1_ n2_; (try clear q0_ q1_ q2_ q3_); have q0_ : w9.cell? ⟨g2, 0, none⟩ = some (.int .i64 6) := (blk_cell a0.out 0).trans rfl; have q1_ : w9.cell? ⟨g2, 1, none⟩ = some (.int .i64 a0_1) := (blk_cell a0.out 1).trans rfl; have q2_ : w9.cell? ⟨g2, 2, none⟩ = some (.int .i64 0) := (blk_cell a0.out 2).trans rfl; have q3_ : w9.cell? ⟨g2, 3, none⟩ = some (.int .i64 0) := (blk_cell a0.out 3).trans rfl))
  go_ret
  exact ⟨rfl, (by repeat (first | exact HB.out | refine lS1_ ?_ a3.out))⟩
set_option maxHeartbeats 4000000 in
set_option maxRecDepth 100000 in
theorem fault_6_r (a0_1 : Int) (A1 : Option Addr) (c1 : Nat) (l1 : List S37) (w : World) (hr1 : Kd.C k37 w A1 l1.length l1) (hl : l1.length ≤ 9223372036854775807) (hp : ([a0_1] : List Int).any (fun x => !decide (0 ≤ x ∧ x ≤ (l1.length : Int) - 1)) = false) (hq : ([a0_1] : List Int).any (fun x => (rd_T37 l1 x).f0 != 2) = true) :
    Calls Try.prog 36 #[.agg #[.int .i64 6, .int .i64 a0_1, .int .i64 0, .int .i64 0], .slice A1 l1.length c1] w fun e w' => e = .returned (.int .i64 1) ∧ Below w.heap.size w w' := by
  have hmf : ∀ (fn : Fn) (first cap : Array Value) (w : World), (Instr.makeFunc fn first cap).run Try.prog w = .ok (.func fn first cap) w := fun _ _ _ _ => rfl
  have HB := Aside0.mk (Below.refl w.heap.size w)
  have HR := Aside0.mk hr1
  have HL := Aside0.mk hl
  clear hr1 hl
  have HI := Aside0.mk (show impl_in.f 6 1 7 = some true by rw [impl_in_eq]; rfl)
  have HN := Aside0.mk (show impl_namesOf.f 1 6 = some (true, false, false) by simp [impl_namesOf.f, impl_namesOf.j0])
  have HI2 := Aside0.mk (show impl_in.f 0 0 9999 = some true by rw [impl_in_eq]; rfl)
  have HP := Aside0.mk (show impl_Term_parts.f 1 6 a0_1 0 0 = some ([a0_1] : List Int) by simp [impl_Term_parts.f, impl_namesOf.f, impl_namesOf.j0])
  have HANY := Aside0.mk hp
  have HIN := Aside0.mk (fault_in l1 [a0_1] hp)
  clear hp
  have HANY2 := Aside0.mk hq
  clear hq
  go_enter Try.func36, Try.ntmps36
  go_wp2_with (first
    | ((with_reducible refine gate_dst (N := 2) rfl ?_); refine box_event ?hg (N := 2) ?hd (cs := #[.int .i64 6, .int .i64 a0_1, .int .i64 0, .int .i64 0]) (t := 37) ?hr ?_; (case hd => rfl); (case hg => rfl); (case hr => first | (go_simp; done) | (go_simp; rfl)); intro g2 hg w2 hbox hb; have n0_ := Aside0.mk (lP_ HB.out hb); have n1_ := Aside0.mk hbox; clear HB; have HB := n0_; have a0 := n1_; clear n0_ n1_ hb hbox hg)
    | ((with_reducible refine gate_dst (N := 3) rfl ?_); refine box_event ?hg (N := 3) ?hd (cs := #[.slice A1 l1.length c1]) (t := 24) ?hr ?_; (case hd => rfl); (case hg => rfl); (case hr => first | (go_simp; done) | (go_simp; rfl)); intro g3 hg w3 hbox hb; have n0_ := Aside0.mk (lP_ HB.out hb); have n1_ := Aside0.mk (bB_ a0.out hb); have n2_ := Aside0.mk hbox; clear HB a0; have HB := n0_; have a0 := n1_; have a1 := n2_; clear n0_ n1_ n2_ hb hbox hg; have q0_ : w3.cell? ⟨g2, 0, none⟩ = some (.int .i64 6) := (blk_cell a0.out 0).trans rfl; have q1_ : w3.cell? ⟨g2, 1, none⟩ = some (.int .i64 a0_1) := (blk_cell a0.out 1).trans rfl; have q2_ : w3.cell? ⟨g2, 2, none⟩ = some (.int .i64 0) := (blk_cell a0.out 2).trans rfl; have q3_ : w3.cell? ⟨g2, 3, none⟩ = some (.int .i64 0) := (blk_cell a0.out 3).trans rfl)
    | (go_at_call 37; with_reducible refine (impl_in.calls 6 1 7 _ _ HI.out).mono ?_; rintro e w4 ⟨rfl, hd⟩; have hb := hd.below; clear hd; have n0_ := Aside0.mk (lP_ HB.out hb); have n1_ := Aside0.mk (bB_ a0.out hb); have n2_ := Aside0.mk (bB_ a1.out hb); clear HB a0 a1 hb; have HB := n0_; have a0 := n1_; have a1 := n2_; clear n0_ n1_ n2_ q0_ q1_ q2_ q3_; have q0_ : w4.cell? ⟨g2, 0, none⟩ = some (.int .i64 6) := (blk_cell a0.out 0).trans rfl; have q1_ : w4.cell? ⟨g2, 1, none⟩ = some (.int .i64 a0_1) := (blk_cell a0.out 1).trans rfl; have q2_ : w4.cell? ⟨g2, 2, none⟩ = some (.int .i64 0) := (blk_cell a0.out 2).trans rfl; have q3_ : w4.cell? ⟨g2, 3, none⟩ = some (.int .i64 0) := (blk_cell a0.out 3).trans rfl)
    | (go_at_call 22; with_reducible refine (impl_namesOf.calls 1 6 true false false _ HN.out).mono ?_; rintro e w5 ⟨rfl, hb⟩; have n0_ := Aside0.mk (lP_ HB.out hb); have n1_ := Aside0.mk (bB_ a0.out hb); have n2_ := Aside0.mk (bB_ a1.out hb); clear HB a0 a1 hb; have HB := n0_; have a0 := n1_; have a1 := n2_; clear n0_ n1_ n2_ q0_ q1_ q2_ q3_)
    | ((with_reducible refine gate_dst (N := 5) rfl ?_); refine box_event ?hg (N := 5) ?hd (cs := #[.bool false, .bool false, .bool false]) (t := 47) ?hr ?_; (case hd => rfl); (case hg => rfl); (case hr => first | (go_simp; done) | (go_simp; rfl)); intro g5 hg w6 hbox hb; have n0_ := Aside0.mk (lP_ HB.out hb); have n1_ := Aside0.mk (bB_ a0.out hb); have n2_ := Aside0.mk (bB_ a1.out hb); have n3_ := Aside0.mk hbox; have n4_ := Aside0.mk (show w.heap.size ≤ g5 by rw [hg]; exact below_size HB.out); have n5_ := Aside0.mk (show g2 ≠ g5 by rw [hg]; exact Nat.ne_of_lt (blk_lt a0.out)); have n6_ := Aside0.mk (show g3 ≠ g5 by rw [hg]; exact Nat.ne_of_lt (blk_lt a1.out)); clear HB a0 a1; have HB := n0_; have a0 := n1_; have a1 := n2_; have a2 := n3_; have a3 := n4_; have NB25 := n5_; have NB35 := n6_; clear n0_ n1_ n2_ n3_ n4_ n5_ n6_ hb hbox hg; have hnb_ := NB25.out; have hnc_ := NB25.out.symm; have q0_ : w6.cell? ⟨g2, 0, none⟩ = some (.int .i64 6) := (blk_cell a0.out 0).trans rfl; have q1_ : w6.cell? ⟨g2, 1, none⟩ = some (.int .i64 a0_1) := (blk_cell a0.out 1).trans rfl; have q2_ : w6.cell? ⟨g2, 2, none⟩ = some (.int .i64 0) := (blk_cell a0.out 2).trans rfl; have q3_ : w6.cell? ⟨g2, 3, none⟩ = some (.int .i64 0) := (blk_cell a0.out 3).trans rfl; have p0_ : w6.cell? ⟨g5, 0, none⟩ = some (.bool false) := (blk_cell a2.out 0).trans rfl; have p1_ : w6.cell? ⟨g5, 1, none⟩ = some (.bool false) := (blk_cell a2.out 1).trans rfl; have p2_ : w6.cell? ⟨g5, 2, none⟩ = some (.bool false) := (blk_cell a2.out 2).trans rfl; have f0_ := blk_frozen a2.out 0; have f1_ := blk_frozen a2.out 1; have f2_ := blk_frozen a2.out 2)
    | (go_at_call 37; with_reducible refine (impl_in.calls 0 0 9999 _ _ HI2.out).mono ?_; rintro e w7 ⟨rfl, hd⟩; have hb := hd.below; clear hd; have n0_ := Aside0.mk (lP_ (by repeat (first | exact HB.out | refine lS1_ ?_ a3.out)) hb); have n1_ := Aside0.mk (bB_ (o := .cells #[.int .i64 6, .int .i64 a0_1, .int .i64 0, .int .i64 0] 37 (0, 0)) (by repeat (first | exact a0.out | refine bF_ ?_ NB25.out _)) hb); have n2_ := Aside0.mk (bB_ (o := .cells #[.slice A1 l1.length c1] 24 (0, 0)) (by repeat (first | exact a1.out | refine bF_ ?_ NB35.out _)) hb); clear HB a0 a1 hb; have HB := n0_; have a0 := n1_; have a1 := n2_; clear n0_ n1_ n2_; (try clear q0_ q1_ q2_ q3_); have q0_ : w7.cell? ⟨g2, 0, none⟩ = some (.int .i64 6) := (blk_cell a0.out 0).trans rfl; have q1_ : w7.cell? ⟨g2, 1, none⟩ = some (.int .i64 a0_1) := (blk_cell a0.out 1).trans rfl; have q2_ : w7.cell? ⟨g2, 2, none⟩ = some (.int .i64 0) := (blk_cell a0.out 2).trans rfl; have q3_ : w7.cell? ⟨g2, 3, none⟩ = some (.int .i64 0) := (blk_cell a0.out 3).trans rfl)
    | (go_at_call 39; (try clear HO); with_reducible refine (impl_Term_parts.calls 1 6 a0_1 0 0 _ _ HP.out).mono ?_; rintro e w8 ⟨v8, rfl, ho, hb⟩; have HO := Aside0.mk ho; clear ho; obtain ⟨Ao, co, eo⟩ := Kd.R_slice HO.out; subst eo; have n0_ := Aside0.mk (lP_ (by repeat (first | exact HB.out | refine lS1_ ?_ a3.out)) hb); have n1_ := Aside0.mk (bB_ (o := .cells #[.int .i64 6, .int .i64 a0_1, .int .i64 0, .int .i64 0] 37 (0, 0)) (by repeat (first | exact a0.out | refine bF_ ?_ NB25.out _)) hb); have n2_ := Aside0.mk (bB_ (o := .cells #[.slice A1 l1.length c1] 24 (0, 0)) (by repeat (first | exact a1.out | refine bF_ ?_ NB35.out _)) hb); clear HB a0 a1 hb; have HB := n0_; have a0 := n1_; have a1 := n2_; clear n0_ n1_ n2_; (try clear q0_ q1_ q2_ q3_); have q0_ : w8.cell? ⟨g2, 0, none⟩ = some (.int .i64 6) := (blk_cell a0.out 0).trans rfl; have q1_ : w8.cell? ⟨g2, 1, none⟩ = some (.int .i64 a0_1) := (blk_cell a0.out 1).trans rfl; have q2_ : w8.cell? ⟨g2, 2, none⟩ = some (.int .i64 0) := (blk_cell a0.out 2).trans rfl; have q3_ : w8.cell? ⟨g2, 3, none⟩ = some (.int .i64 0) := (blk_cell a0.out 3).trans rfl)
    | (go_at_call 43; refine (slices_ContainsFunc_int64_int64.calls 44 #[.pointer (some ⟨g3, 0, none⟩)] (fun x => !decide (0 ≤ x ∧ x ≤ (l1.length : Int) - 1)) Ao co _ _ (enters_of Try.func44 (by kernel_rfl) rfl) (fun W x _ hB => (impl_fault_1.calls A1 l1.length c1 g3 x HL.out W ((hB.cell (p := ⟨g3, 0, none⟩) (blk_lt a1.out)).trans ((blk_cell a1.out 0).trans rfl))).mono (fun _ _ h => ⟨h.1, lP_ hB h.2⟩)) (Kd.R_reads' HO.out).2.2 (by simp)).mono ?_; rintro e w9 ⟨he, hb⟩; rw [HANY.out] at he; subst he; have n0_ := Aside0.mk (lP_ (by repeat (first | exact HB.out | refine lS1_ ?_ a3.out)) hb); have n1_ := Aside0.mk (bB_ (o := .cells #[.int .i64 6, .int .i64 a0_1, .int .i64 0, .int .i64 0] 37 (0, 0)) (by repeat (first | exact a0.out | refine bF_ ?_ NB25.out _)) hb); have n2_ := Aside0.mk (bB_ (o := .cells #[.slice A1 l1.length c1] 24 (0, 0)) (by repeat (first | exact a1.out | refine bF_ ?_ NB35.out _)) hb); clear HB a0 a1 hb; have HB := n0_; have a0 := n1_; have a1 := n2_; clear n0_ n1_ n2_; (try clear q0_ q1_ q2_ q3_); have q0_ : w9.cell? ⟨g2, 0, none⟩ = some (.int .i64 6) := (blk_cell a0.out 0).trans rfl; have q1_ : w9.cell? ⟨g2, 1, none⟩ = some (.int .i64 a0_1) := (blk_cell a0.out 1).trans rfl; have q2_ : w9.cell? ⟨g2, 2, none⟩ = some (.int .i64 0) := (blk_cell a0.out 2).trans rfl; have q3_ : w9.cell? ⟨g2, 3, none⟩ = some (.int .i64 0) := (blk_cell a0.out 3).trans rfl)
    | (go_at_call 43; refine (slices_ContainsFunc_int64_int64.calls 45 #[.pointer (some ⟨g3, 0, none⟩)] (fun x => (rd_T37 l1 x).f0 != 2) Ao co _ _ (enters_of Try.func45 (by kernel_rfl) rfl) (fun W x hx hB => (impl_fault_2.calls A1 l1 c1 g3 x W ((hB.cell (p := ⟨g3, 0, none⟩) (blk_lt a1.out)).trans ((blk_cell a1.out 0).trans rfl)) (Kd.C_below HR.out (lP_ HB.out hB)) (HIN.out x hx).1 (HIN.out x hx).2).mono (fun _ _ h => ⟨h.1, lP_ hB h.2⟩)) (Kd.R_reads' HO.out).2.2 (by simp)).mono ?_; rintro e w10 ⟨he, hb⟩; rw [HANY2.out] at he; subst he; have n0_ := Aside0.mk (lP_ (by repeat (first | exact HB.out | refine lS1_ ?_ a3.out)) hb); have n1_ := Aside0.mk (bB_ (o := .cells #[.int .i64 6, .int .i64 a0_1, .int .i64 0, .int .i64 0] 37 (0, 0)) (by repeat (first | exact a0.out | refine bF_ ?_ NB25.out _)) hb); have n2_ := Aside0.mk (bB_ (o := .cells #[.slice A1 l1.length c1] 24 (0, 0)) (by repeat (first | exact a1.out | refine bF_ ?_ NB35.out _)) hb); clear HB a0 a1 hb; have HB := n0_; have a0 := n1_; have a1 := n2_; clear n0_ n1_ n2_; (try clear q0_ q1_ q2_ q3_); have q0_ : w10.cell? ⟨g2, 0, none⟩ = some (.int .i64 6) := (blk_cell a0.out 0).trans rfl; have q1_ : w10.cell? ⟨g2, 1, none⟩ = some (.int .i64 a0_1) := (blk_cell a0.out 1).trans rfl; have q2_ : w10.cell? ⟨g2, 2, none⟩ = some (.int .i64 0) := (blk_cell a0.out 2).trans rfl; have q3_ : w10.cell? ⟨g2, 3, none⟩ = some (.int .i64 0) := (blk_cell a0.out 3).trans rfl))
  go_ret
  exact ⟨rfl, (by repeat (first | exact HB.out | refine lS1_ ?_ a3.out))⟩
set_option maxHeartbeats 4000000 in
set_option maxRecDepth 100000 in
theorem fault_6_ok (a0_1 : Int) (A1 : Option Addr) (c1 : Nat) (l1 : List S37) (w : World) (hr1 : Kd.C k37 w A1 l1.length l1) (hl : l1.length ≤ 9223372036854775807) (hp : ([a0_1] : List Int).any (fun x => !decide (0 ≤ x ∧ x ≤ (l1.length : Int) - 1)) = false) (hq : ([a0_1] : List Int).any (fun x => (rd_T37 l1 x).f0 != 2) = false) :
    Calls Try.prog 36 #[.agg #[.int .i64 6, .int .i64 a0_1, .int .i64 0, .int .i64 0], .slice A1 l1.length c1] w fun e w' => e = .returned (.int .i64 0) ∧ Below w.heap.size w w' := by
  have hmf : ∀ (fn : Fn) (first cap : Array Value) (w : World), (Instr.makeFunc fn first cap).run Try.prog w = .ok (.func fn first cap) w := fun _ _ _ _ => rfl
  have HB := Aside0.mk (Below.refl w.heap.size w)
  have HR := Aside0.mk hr1
  have HL := Aside0.mk hl
  clear hr1 hl
  have HI := Aside0.mk (show impl_in.f 6 1 7 = some true by rw [impl_in_eq]; rfl)
  have HN := Aside0.mk (show impl_namesOf.f 1 6 = some (true, false, false) by simp [impl_namesOf.f, impl_namesOf.j0])
  have HI2 := Aside0.mk (show impl_in.f 0 0 9999 = some true by rw [impl_in_eq]; rfl)
  have HP := Aside0.mk (show impl_Term_parts.f 1 6 a0_1 0 0 = some ([a0_1] : List Int) by simp [impl_Term_parts.f, impl_namesOf.f, impl_namesOf.j0])
  have HANY := Aside0.mk hp
  have HIN := Aside0.mk (fault_in l1 [a0_1] hp)
  clear hp
  have HANY2 := Aside0.mk hq
  clear hq
  go_enter Try.func36, Try.ntmps36
  go_wp2_with (first
    | ((with_reducible refine gate_dst (N := 2) rfl ?_); refine box_event ?hg (N := 2) ?hd (cs := #[.int .i64 6, .int .i64 a0_1, .int .i64 0, .int .i64 0]) (t := 37) ?hr ?_; (case hd => rfl); (case hg => rfl); (case hr => first | (go_simp; done) | (go_simp; rfl)); intro g2 hg w2 hbox hb; have n0_ := Aside0.mk (lP_ HB.out hb); have n1_ := Aside0.mk hbox; clear HB; have HB := n0_; have a4 := n1_; clear n0_ n1_ hb hbox hg)
    | ((with_reducible refine gate_dst (N := 3) rfl ?_); refine box_event ?hg (N := 3) ?hd (cs := #[.slice A1 l1.length c1]) (t := 24) ?hr ?_; (case hd => rfl); (case hg => rfl); (case hr => first | (go_simp; done) | (go_simp; rfl)); intro g3 hg w3 hbox hb; have n0_ := Aside0.mk (lP_ HB.out hb); have n1_ := Aside0.mk (bB_ a4.out hb); have n2_ := Aside0.mk hbox; clear HB a4; have HB := n0_; have a4 := n1_; have a5 := n2_; clear n0_ n1_ n2_ hb hbox hg; have q0_ : w3.cell? ⟨g2, 0, none⟩ = some (.int .i64 6) := (blk_cell a4.out 0).trans rfl; have q1_ : w3.cell? ⟨g2, 1, none⟩ = some (.int .i64 a0_1) := (blk_cell a4.out 1).trans rfl; have q2_ : w3.cell? ⟨g2, 2, none⟩ = some (.int .i64 0) := (blk_cell a4.out 2).trans rfl; have q3_ : w3.cell? ⟨g2, 3, none⟩ = some (.int .i64 0) := (blk_cell a4.out 3).trans rfl)
    | (go_at_call 37; with_reducible refine (impl_in.calls 6 1 7 _ _ HI.out).mono ?_; rintro e w4 ⟨rfl, hd⟩; have hb := hd.below; clear hd; have n0_ := Aside0.mk (lP_ HB.out hb); have n1_ := Aside0.mk (bB_ a4.out hb); have n2_ := Aside0.mk (bB_ a5.out hb); clear HB a4 a5 hb; have HB := n0_; have a4 := n1_; have a5 := n2_; clear n0_ n1_ n2_ q0_ q1_ q2_ q3_; have q0_ : w4.cell? ⟨g2, 0, none⟩ = some (.int .i64 6) := (blk_cell a4.out 0).trans rfl; have q1_ : w4.cell? ⟨g2, 1, none⟩ = some (.int .i64 a0_1) := (blk_cell a4.out 1).trans rfl; have q2_ : w4.cell? ⟨g2, 2, none⟩ = some (.int .i64 0) := (blk_cell a4.out 2).trans rfl; have q3_ : w4.cell? ⟨g2, 3, none⟩ = some (.int .i64 0) := (blk_cell a4.out 3).trans rfl)
    | (go_at_call 22; with_reducible refine (impl_namesOf.calls 1 6 true false false _ HN.out).mono ?_; rintro e w5 ⟨rfl, hb⟩; have n0_ := Aside0.mk (lP_ HB.out hb); have n1_ := Aside0.mk (bB_ a4.out hb); have n2_ := Aside0.mk (bB_ a5.out hb); clear HB a4 a5 hb; have HB := n0_; have a4 := n1_; have a5 := n2_; clear n0_ n1_ n2_ q0_ q1_ q2_ q3_)
    | ((with_reducible refine gate_dst (N := 5) rfl ?_); refine box_event ?hg (N := 5) ?hd (cs := #[.bool false, .bool false, .bool false]) (t := 47) ?hr ?_; (case hd => rfl); (case hg => rfl); (case hr => first | (go_simp; done) | (go_simp; rfl)); intro g5 hg w6 hbox hb; have n0_ := Aside0.mk (lP_ HB.out hb); have n1_ := Aside0.mk (bB_ a4.out hb); have n2_ := Aside0.mk (bB_ a5.out hb); have n3_ := Aside0.mk hbox; have n4_ := Aside0.mk (show w.heap.size ≤ g5 by rw [hg]; exact below_size HB.out); have n5_ := Aside0.mk (show g2 ≠ g5 by rw [hg]; exact Nat.ne_of_lt (blk_lt a4.out)); have n6_ := Aside0.mk (show g3 ≠ g5 by rw [hg]; exact Nat.ne_of_lt (blk_lt a5.out)); clear HB a4 a5; have HB := n0_; have a4 := n1_; have a5 := n2_; have a6 := n3_; have a7 := n4_; have NB25 := n5_; have NB35 := n6_; clear n0_ n1_ n2_ n3_ n4_ n5_ n6_ hb hbox hg; have hnb_ := NB25.out; have hnc_ := NB25.out.symm; have q0_ : w6.cell? ⟨g2, 0, none⟩ = some (.int .i64 6) := (blk_cell a4.out 0).trans rfl; have q1_ : w6.cell? ⟨g2, 1, none⟩ = some (.int .i64 a0_1) := (blk_cell a4.out 1).trans rfl; have q2_ : w6.cell? ⟨g2, 2, none⟩ = some (.int .i64 0) := (blk_cell a4.out 2).trans rfl; have q3_ : w6.cell? ⟨g2, 3, none⟩ = some (.int .i64 0) := (blk_cell a4.out 3).trans rfl; have p0_ : w6.cell? ⟨g5, 0, none⟩ = some (.bool false) := (blk_cell a6.out 0).trans rfl; have p1_ : w6.cell? ⟨g5, 1, none⟩ = some (.bool false) := (blk_cell a6.out 1).trans rfl; have p2_ : w6.cell? ⟨g5, 2, none⟩ = some (.bool false) := (blk_cell a6.out 2).trans rfl; have f0_ := blk_frozen a6.out 0; have f1_ := blk_frozen a6.out 1; have f2_ := blk_frozen a6.out 2)
    | (go_at_call 37; with_reducible refine (impl_in.calls 0 0 9999 _ _ HI2.out).mono ?_; rintro e w7 ⟨rfl, hd⟩; have hb := hd.below; clear hd; have n0_ := Aside0.mk (lP_ (by repeat (first | exact HB.out | refine lS1_ ?_ a7.out)) hb); have n1_ := Aside0.mk (bB_ (o := .cells #[.int .i64 6, .int .i64 a0_1, .int .i64 0, .int .i64 0] 37 (0, 0)) (by repeat (first | exact a4.out | refine bF_ ?_ NB25.out _)) hb); have n2_ := Aside0.mk (bB_ (o := .cells #[.slice A1 l1.length c1] 24 (0, 0)) (by repeat (first | exact a5.out | refine bF_ ?_ NB35.out _)) hb); clear HB a4 a5 hb; have HB := n0_; have a4 := n1_; have a5 := n2_; clear n0_ n1_ n2_; (try clear q0_ q1_ q2_ q3_); have q0_ : w7.cell? ⟨g2, 0, none⟩ = some (.int .i64 6) := (blk_cell a4.out 0).trans rfl; have q1_ : w7.cell? ⟨g2, 1, none⟩ = some (.int .i64 a0_1) := (blk_cell a4.out 1).trans rfl; have q2_ : w7.cell? ⟨g2, 2, none⟩ = some (.int .i64 0) := (blk_cell a4.out 2).trans rfl; have q3_ : w7.cell? ⟨g2, 3, none⟩ = some (.int .i64 0) := (blk_cell a4.out 3).trans rfl)
    | (go_at_call 39; (try clear HO); with_reducible refine (impl_Term_parts.calls 1 6 a0_1 0 0 _ _ HP.out).mono ?_; rintro e w8 ⟨v8, rfl, ho, hb⟩; have HO := Aside0.mk ho; clear ho; obtain ⟨Ao, co, eo⟩ := Kd.R_slice HO.out; subst eo; have n0_ := Aside0.mk (lP_ (by repeat (first | exact HB.out | refine lS1_ ?_ a7.out)) hb); have n1_ := Aside0.mk (bB_ (o := .cells #[.int .i64 6, .int .i64 a0_1, .int .i64 0, .int .i64 0] 37 (0, 0)) (by repeat (first | exact a4.out | refine bF_ ?_ NB25.out _)) hb); have n2_ := Aside0.mk (bB_ (o := .cells #[.slice A1 l1.length c1] 24 (0, 0)) (by repeat (first | exact a5.out | refine bF_ ?_ NB35.out _)) hb); clear HB a4 a5 hb; have HB := n0_; have a4 := n1_; have a5 := n2_; clear n0_ n1_ n2_; (try clear q0_ q1_ q2_ q3_); have q0_ : w8.cell? ⟨g2, 0, none⟩ = some (.int .i64 6) := (blk_cell a4.out 0).trans rfl; have q1_ : w8.cell? ⟨g2, 1, none⟩ = some (.int .i64 a0_1) := (blk_cell a4.out 1).trans rfl; have q2_ : w8.cell? ⟨g2, 2, none⟩ = some (.int .i64 0) := (blk_cell a4.out 2).trans rfl; have q3_ : w8.cell? ⟨g2, 3, none⟩ = some (.int .i64 0) := (blk_cell a4.out 3).trans rfl)
    | (go_at_call 43; refine (slices_ContainsFunc_int64_int64.calls 44 #[.pointer (some ⟨g3, 0, none⟩)] (fun x => !decide (0 ≤ x ∧ x ≤ (l1.length : Int) - 1)) Ao co _ _ (enters_of Try.func44 (by kernel_rfl) rfl) (fun W x _ hB => (impl_fault_1.calls A1 l1.length c1 g3 x HL.out W ((hB.cell (p := ⟨g3, 0, none⟩) (blk_lt a5.out)).trans ((blk_cell a5.out 0).trans rfl))).mono (fun _ _ h => ⟨h.1, lP_ hB h.2⟩)) (Kd.R_reads' HO.out).2.2 (by simp)).mono ?_; rintro e w9 ⟨he, hb⟩; rw [HANY.out] at he; subst he; have n0_ := Aside0.mk (lP_ (by repeat (first | exact HB.out | refine lS1_ ?_ a7.out)) hb); have n1_ := Aside0.mk (bB_ (o := .cells #[.int .i64 6, .int .i64 a0_1, .int .i64 0, .int .i64 0] 37 (0, 0)) (by repeat (first | exact a4.out | refine bF_ ?_ NB25.out _)) hb); have n2_ := Aside0.mk (bB_ (o := .cells #[.slice A1 l1.length c1] 24 (0, 0)) (by repeat (first | exact a5.out | refine bF_ ?_ NB35.out _)) hb); clear HB a4 a5 hb; have HB := n0_; have a4 := n1_; have a5 := n2_; clear n0_ n1_ n2_; (try clear q0_ q1_ q2_ q3_); have q0_ : w9.cell? ⟨g2, 0, none⟩ = some (.int .i64 6) := (blk_cell a4.out 0).trans rfl; have q1_ : w9.cell? ⟨g2, 1, none⟩ = some (.int .i64 a0_1) := (blk_cell a4.out 1).trans rfl; have q2_ : w9.cell? ⟨g2, 2, none⟩ = some (.int .i64 0) := (blk_cell a4.out 2).trans rfl; have q3_ : w9.cell? ⟨g2, 3, none⟩ = some (.int .i64 0) := (blk_cell a4.out 3).trans rfl)
    | (go_at_call 43; refine (slices_ContainsFunc_int64_int64.calls 45 #[.pointer (some ⟨g3, 0, none⟩)] (fun x => (rd_T37 l1 x).f0 != 2) Ao co _ _ (enters_of Try.func45 (by kernel_rfl) rfl) (fun W x hx hB => (impl_fault_2.calls A1 l1 c1 g3 x W ((hB.cell (p := ⟨g3, 0, none⟩) (blk_lt a5.out)).trans ((blk_cell a5.out 0).trans rfl)) (Kd.C_below HR.out (lP_ HB.out hB)) (HIN.out x hx).1 (HIN.out x hx).2).mono (fun _ _ h => ⟨h.1, lP_ hB h.2⟩)) (Kd.R_reads' HO.out).2.2 (by simp)).mono ?_; rintro e w10 ⟨he, hb⟩; rw [HANY2.out] at he; subst he; have n0_ := Aside0.mk (lP_ (by repeat (first | exact HB.out | refine lS1_ ?_ a7.out)) hb); have n1_ := Aside0.mk (bB_ (o := .cells #[.int .i64 6, .int .i64 a0_1, .int .i64 0, .int .i64 0] 37 (0, 0)) (by repeat (first | exact a4.out | refine bF_ ?_ NB25.out _)) hb); have n2_ := Aside0.mk (bB_ (o := .cells #[.slice A1 l1.length c1] 24 (0, 0)) (by repeat (first | exact a5.out | refine bF_ ?_ NB35.out _)) hb); clear HB a4 a5 hb; have HB := n0_; have a4 := n1_; have a5 := n2_; clear n0_ n1_ n2_; (try clear q0_ q1_ q2_ q3_); have q0_ : w10.cell? ⟨g2, 0, none⟩ = some (.int .i64 6) := (blk_cell a4.out 0).trans rfl; have q1_ : w10.cell? ⟨g2, 1, none⟩ = some (.int .i64 a0_1) := (blk_cell a4.out 1).trans rfl; have q2_ : w10.cell? ⟨g2, 2, none⟩ = some (.int .i64 0) := (blk_cell a4.out 2).trans rfl; have q3_ : w10.cell? ⟨g2, 3, none⟩ = some (.int .i64 0) := (blk_cell a4.out 3).trans rfl))
  go_ret
  exact ⟨rfl, (by repeat (first | exact HB.out | refine lS1_ ?_ a7.out))⟩
def notIn (l : List S37) (x : Int) : Bool := !decide (0 ≤ x ∧ x ≤ (l.length : Int) - 1)
def notFresh (l : List S37) (x : Int) : Bool := (rd_T37 l x).f0 != 2
def tfault (a0 a1 a2 a3 : Int) (l : List S37) : Int :=
  if 1 ≤ a0 ∧ a0 ≤ 7 then
    (if a0 = 1 ∨ a0 = 2 then (if a1 = 0 ∧ a2 = 0 then (if 0 ≤ a3 ∧ a3 ≤ 9999 then 0 else 3) else 1)
    else if a0 = 6 then (if a2 = 0 ∧ a3 = 0 then (if ([a1] : List Int).any (notIn l) = true then 3 else (if ([a1] : List Int).any (notFresh l) = true then 1 else 0)) else 1)
    else (if a3 = 0 then (if ([a1, a2] : List Int).any (notIn l) = true then 3 else (if a0 = 7 then (if ([a1, a2] : List Int).any (notFresh l) = true ∨ a1 > a2 then 1 else 0) else 0)) else 1))
  else 5
def impl_Term_fault.f (a0_0 : Int) (a0_1 : Int) (a0_2 : Int) (a0_3 : Int) (l1 : List S37) : Option Int := some (tfault a0_0 a0_1 a0_2 a0_3 l1)
theorem impl_Term_fault.calls (a0_0 : Int) (a0_1 : Int) (a0_2 : Int) (a0_3 : Int) (A1 : Option Addr) (c1 : Nat) (l1 : List S37) (r : Int) (w : World) (hr1 : Kd.C k37 w A1 l1.length l1) (hc1 : l1.length ≤ c1) (h : impl_Term_fault.f a0_0 a0_1 a0_2 a0_3 l1 = some r) :
    Calls Try.prog 36 #[.agg #[.int .i64 a0_0, .int .i64 a0_1, .int .i64 a0_2, .int .i64 a0_3], .slice A1 l1.length c1] w fun e w' => e = .returned (.int .i64 r) ∧ Below w.heap.size w w' := by
  unfold impl_Term_fault.f at h
  obtain rfl := Option.some.inj h
  clear h
  have hl : l1.length ≤ 9223372036854775807 := hr1.2.1
  unfold tfault
  by_cases hop : 1 ≤ a0_0 ∧ a0_0 ≤ 7
  · rw [if_pos hop]
    have hI : impl_in.f a0_0 1 7 = some true := by rw [impl_in_eq, decide_eq_true hop]
    by_cases hn : a0_0 = 1 ∨ a0_0 = 2
    · rw [if_pos hn]
      have hN : impl_namesOf.f 1 a0_0 = some (false, false, true) := by rcases hn with rfl | rfl <;> simp [impl_namesOf.f, impl_namesOf.j0]
      by_cases ha : a0_1 = 0
      · subst ha
        by_cases hb : a0_2 = 0
        · subst hb
          rw [if_pos ⟨rfl, rfl⟩]
          by_cases h3 : 0 ≤ a0_3 ∧ a0_3 ≤ 9999
          · rw [if_pos h3]
            exact fault_n_ok a0_0 a0_3 A1 c1 l1 w hr1 hl hI hN (by omega) (by omega) (by unfold impl_Term_parts.f; rw [hN]; rfl) h3
          · rw [if_neg h3]; exact fault_n_n a0_0 a0_3 A1 c1 l1 w hr1 hl hI hN h3
        · rw [if_neg (fun h => hb h.2)]; exact fault_n_b a0_0 a0_2 a0_3 A1 c1 l1 w hr1 hl hI hN hb
      · rw [if_neg (fun h => ha h.1)]; exact fault_n_a a0_0 a0_1 a0_2 a0_3 A1 c1 l1 w hr1 hl hI hN ha
    · rw [if_neg hn]
      by_cases h6 : a0_0 = 6
      · subst h6
        rw [if_pos rfl]
        by_cases hb : a0_2 = 0
        · subst hb
          by_cases h3 : a0_3 = 0
          · subst h3
            rw [if_pos ⟨rfl, rfl⟩]
            cases hp : ([a0_1] : List Int).any (notIn l1) with
            | true => exact fault_6_p a0_1 A1 c1 l1 w hr1 hl hp
            | false =>
              cases hq : ([a0_1] : List Int).any (notFresh l1) with
              | true => exact fault_6_r a0_1 A1 c1 l1 w hr1 hl hp hq
              | false => exact fault_6_ok a0_1 A1 c1 l1 w hr1 hl hp hq
          · rw [if_neg (fun h => h3 h.2)]; exact fault_6_f a0_1 a0_3 A1 c1 l1 w hr1 hl h3
        · rw [if_neg (fun h => hb h.1)]; exact fault_6_b a0_1 a0_2 a0_3 A1 c1 l1 w hr1 hl hb
      · rw [if_neg h6]
        have hN : impl_namesOf.f 1 a0_0 = some (true, true, false) := by
          have h1 : ¬ a0_0 = 1 := fun e => hn (.inl e)
          have h2 : (a0_0 == 2) = false := by simpa using (fun e => hn (.inr e) : ¬ a0_0 = 2)
          simp [impl_namesOf.f, impl_namesOf.j0, h1, h2, h6]
        by_cases h3 : a0_3 = 0
        · subst h3
          rw [if_pos rfl]
          have hP : impl_Term_parts.f 1 a0_0 a0_1 a0_2 0 = some ([a0_1, a0_2] : List Int) := by unfold impl_Term_parts.f; rw [hN]; rfl
          cases hp : ([a0_1, a0_2] : List Int).any (notIn l1) with
          | true => exact fault_p_p a0_0 a0_1 a0_2 A1 c1 l1 w hr1 hl hI hN hP hp
          | false =>
            by_cases h7 : a0_0 = 7
            · subst h7
              rw [if_neg (by decide), if_pos rfl]
              cases hq : ([a0_1, a0_2] : List Int).any (notFresh l1) with
              | true => rw [if_pos (.inl rfl)]; exact fault_7_r a0_1 a0_2 A1 c1 l1 w hr1 hl hp hq
              | false =>
                by_cases hg : a0_1 > a0_2
                · rw [if_pos (.inr hg)]; exact fault_7_g a0_1 a0_2 A1 c1 l1 w hr1 hl hp hq hg
                · rw [if_neg (by rintro (h | h); cases h; exact hg h)]; exact fault_7_ok a0_1 a0_2 A1 c1 l1 w hr1 hl hp hq hg
            · rw [if_neg (by decide), if_neg h7]
              exact fault_p_ok a0_0 a0_1 a0_2 A1 c1 l1 w hr1 hl hI hN hP h6 h7 hp
        · rw [if_neg h3]; exact fault_p_f a0_0 a0_1 a0_2 a0_3 A1 c1 l1 w hr1 hl hI hN h3
  · rw [if_neg hop]
    exact fault_text a0_0 a0_1 a0_2 a0_3 A1 c1 l1 w hr1 hl hop
end Go.Proofs.Ytpagejjjfpkmcaa.G
namespace Go.Proofs.Ytpagejjjfpkmcaa.G
open Go.RowKit Go.Proofs.YtpagejjjfpkmcaaW.PrintWords Go.Proofs.YtpagejjjfpkmcaaW.PrintLast Go.Proofs.YtpagejjjfpkmcaaW.PrintMore
attribute [local go_sem] max2_int min2_int max_two min_two max_three min_three max_four min_four   -- for this text's walks alone
set_option linter.unusedVariables false
set_option linter.unusedSimpArgs false
open Go.Maps (Keyed IsMap isMap_empty atKey_put_same atKey_put_other)
theorem term_laid : laidOutB Try.prog = true := by kernel_rfl
theorem term_row : 37 < Try.prog.types.size := of_decide_eq_true (by kernel_rfl)
theorem term_wide : (match Try.prog.underlying 37 with | some (.array _ _) | some (.struct _) => true | _ => false) = true := by rw [Try.underlying37]
set_option maxRecDepth 100000 in
theorem term_keyed : Keyed Try.prog 37 := Keyed.of_law (deep_law_laid term_laid (m := 2) (by omega) term_row (by kernel_rfl) term_wide)
def wf4 (x : S37) : Bool := (Lit.int .i64 x.f0).wf && (Lit.int .i64 x.f1).wf && (Lit.int .i64 x.f2).wf && (Lit.int .i64 x.f3).wf
theorem term_kt : Try.prog.keyType 37 = true := by kernel_rfl
theorem term_c39 : Try.prog.cellsOf 37 = 4 := by kernel_rfl
theorem term_c2 : Try.prog.cellsOf 2 = 1 := by kernel_rfl
theorem term_sz : ∃ m, Try.prog.types.size = m + 1 := ⟨Try.prog.types.size - 1, by have := term_row; omega⟩
theorem keyOf_term (x : S37) (h : wf4 x = true) : ∃ kl, keyOf Try.prog 37 (.agg #[.int .i64 x.f0, .int .i64 x.f1, .int .i64 x.f2, .int .i64 x.f3]) = some kl := by
  unfold wf4 at h
  simp only [Bool.and_eq_true] at h
  obtain ⟨⟨⟨h0, h1⟩, h2⟩, h3⟩ := h
  obtain ⟨m, hm⟩ := term_sz
  have hf : (Value.agg #[.int .i64 x.f0, .int .i64 x.f1, .int .i64 x.f2, .int .i64 x.f3]).formed Try.prog 37 = true := by
    simp [Value.formed, Try.underlying37, term_c39]
  unfold keyOf
  rw [Try.underlying37]
  simp only [term_kt, hf, Bool.and_self, if_true, hm]
  simp [Program.keyLits, Try.underlying37, Try.underlying2, term_c39, term_c2, Value.cells, h0, h1, h2, h3]
theorem plainElem_bool_inv {H : Type} {P : Program} {e : TypeId} (he : P.underlying e = some .bool) {v : Value} {z : DataW H × List MemPlace} (h : plainElem P e v = some z) : ∃ a, v = .bool a ∧ z = (.lit (.bool a), []) := by
  unfold plainElem at h
  rw [he] at h
  cases v <;> simp at h
  exact ⟨_, rfl, h.symm⟩
theorem wpList_lookup_own_bool {H : Type} {P : Program} (w : World) {ops : Array Oper} {rest : List Oper} {o : Oper} {a : Act} {Q : Exit → Act → World → Prop}
    (hg : o.guard = none) (m x : Operand) (t : TypeId) (hop : o.op = Op.lookup t m x false)
    (k e : TypeId) (K : Keyed P k) (ht : P.underlying t = some (.map k e)) (he : P.underlying e = some .bool) (hz : (zeroValue e).run P w = .ok (.bool false) w) (b n : Nat) (D : DataW H)
    (hm : a.eval m = .map (some b)) (hown : w.ownsMap P k (plainElem P e) b n D) (key : Value) (kl : Lit) (hx : a.eval x = key) (hkey : keyOf P k key = some kl)
    (hK : ∀ c : Bool, D.atKey kl (.lit (.bool false)) = .lit (.bool c) → wpList P ops Q rest (a.put o.dst (.bool c)) w) :
    wpList P ops Q (o :: rest) a w := by
  refine wpList_plain hg fun K' hK' => ?_
  obtain ⟨v, ps, hrun, hv⟩ := hown.lookup K ht hz (plainElem_bool he false) hkey
  obtain ⟨c, rfl, hc⟩ := plainElem_bool_inv he hv
  simp only [Prod.mk.injEq] at hc
  unfold Oper.wp
  simp [execOp, hop, hm, hx, hrun, Result.andThen]
  exact hK' _ _ (hK c hc.1)
theorem own_map_below {w w' : World} {P : Program} {k e : TypeId} {b n : Nat} {D : DataW Unit} (h : w.ownsMap P k (plainElem P e) b n D) (hb : Below w.heap.size w w') : w'.ownsMap P k (plainElem P e) b n D := h.kept (grown_of_below hb none) (by simp)
theorem own_map_set {w : World} {P : Program} {k e : TypeId} {b n : Nat} {D : DataW Unit} (h : w.ownsMap P k (plainElem P e) b n D) {g j : Nat} {u : Value} (hne : b ≠ g) : (w.setCell ⟨g, j, none⟩ u).ownsMap P k (plainElem P e) b n D := by
  obtain ⟨es, clock, hb, r⟩ := h
  exact ⟨es, clock, (Below.heap_setCell w ⟨g, j, none⟩ u b hne).trans hb, r⟩
def eq4 (y x : S37) : Bool := y.f0 == x.f0 && (y.f1 == x.f1 && (y.f2 == x.f2 && (y.f3 == x.f3)))
theorem eq4_iff {y x : S37} : eq4 y x = true ↔ y = x := by
  cases x; cases y; simp [eq4]
def tv (x : S37) : Value := .agg #[.int .i64 x.f0, .int .i64 x.f1, .int .i64 x.f2, .int .i64 x.f3]
theorem tv_inj {x y : S37} (h : tv x = tv y) : x = y := by
  unfold tv at h
  injection h with h
  have h := congrArg Array.toList h
  simp at h
  obtain ⟨h0, h1, h2, h3⟩ := h
  cases x; cases y
  simp_all
def Seen (D : DataW Unit) (pre : List S37) : Prop := ∀ (y : S37) (kl : Lit), keyOf Try.prog 37 (tv y) = some kl → D.atKey kl (.lit (.bool false)) = .lit (.bool (pre.any (eq4 y)))
theorem seen_nil : Seen (.map []) [] := fun y kl _ => rfl
theorem seen_put {D : DataW Unit} {pre : List S37} {x : S37} {kl : Lit} (h : Seen D pre) (hD : IsMap D) (hx : keyOf Try.prog 37 (tv x) = some kl) : Seen (D.put kl (.lit (.bool true))) (pre ++ [x]) := by
  intro y kl' hy
  rw [List.any_append]
  by_cases e : kl' = kl
  · subst e
    have : y = x := tv_inj (term_keyed.inj hy hx)
    subst this
    rw [atKey_put_same hD (term_keyed.key hx)]
    have : [y].any (eq4 y) = true := by simp [eq4]
    rw [this, Bool.or_true]
  · rw [atKey_put_other e, h y kl' hy]
    have : [x].any (eq4 y) = false := by
      simp only [List.any_cons, List.any_nil, Bool.or_false]
      cases hq : eq4 y x
      · rfl
      · exact absurd (by rw [eq4_iff.1 hq, hx] at hy; exact (Option.some.inj hy).symm) e
    rw [this, Bool.or_false]
def TFs : List S37 → List S37 → Int
  | _, [] => 0
  | pre, x :: r => if tfault x.f0 x.f1 x.f2 x.f3 pre = 0 then (if pre.any (eq4 x) = true then 7 else TFs (pre ++ [x]) r) else tfault x.f0 x.f1 x.f2 x.f3 pre
def impl_TermsFault.f (l0 : List S37) : Option Int := if l0.all wf4 = true then some (if 400 < l0.length then 2 else TFs [] l0) else none
theorem C_take39 {w W : World} {A : Option Addr} {l : List S37} (h : Kd.C k37 w A l.length l) (hb : Below w.heap.size w W) (k : Nat) : Kd.C k37 W A (l.take k).length (l.take k) := by
  obtain ⟨h1, h2, h3⟩ := Kd.C_below h hb
  refine ⟨rfl, by rw [List.length_take]; omega, fun hp => ?_⟩
  obtain ⟨ad, e, hh⟩ := h3 (by rw [List.length_take] at hp; omega)
  refine ⟨ad, e, fun j p hj => hh j p ?_⟩
  rw [List.getElem?_take] at hj
  split at hj
  · exact hj
  · cases hj
set_option maxHeartbeats 8000000 in
set_option maxRecDepth 100000 in
theorem impl_TermsFault.calls (A0 : Option Addr) (c0 : Nat) (l0 : List S37) (r : Int) (w : World) (hr0 : Kd.C k37 w A0 l0.length l0) (hc0 : l0.length ≤ c0) (h : impl_TermsFault.f l0 = some r) :
    Calls Try.prog 18 #[.slice A0 l0.length c0] w fun e w' => e = .returned (.int .i64 r) ∧ Below w.heap.size w w' := by
  unfold impl_TermsFault.f at h
  by_cases hwf : l0.all wf4 = true
  · rw [if_pos hwf] at h
    obtain rfl := Option.some.inj h
    clear h
    have HW := Aside0.mk hwf
    have HR := Aside0.mk hr0
    have HC := Aside0.mk hc0
    have HB := Aside0.mk (Below.refl w.heap.size w)
    clear hr0 hc0 hwf
    by_cases hbig : 400 < l0.length
    · rw [if_pos hbig]
      have hb0 : decide ((l0.length : Int) > 400) = true := decide_eq_true (by omega)
      have hb1 : decide ((400 : Int) < (l0.length : Int)) = true := decide_eq_true (by omega)
      go_enter Try.func18, Try.ntmps18
      go_wp2
      go_ret
      exact ⟨rfl, HB.out⟩
    · rw [if_neg hbig]
      have hb0 : decide ((l0.length : Int) > 400) = false := decide_eq_false (by omega)
      have hb1 : decide ((400 : Int) < (l0.length : Int)) = false := decide_eq_false (by omega)
      have hl : l0.length ≤ 400 := by omega
      have hmm := @run_makeMap
      go_enter Try.func18, Try.ntmps18
      go_wp2_with fail
      have HO : Aside0 ((w.alloc (.map #[] 0)).ownsMap Try.prog 37 (plainElem (H := Unit) Try.prog 4) w.heap.size 0 (.map [])) := Aside0.mk (World.ownsMap_made w _ _ _)
      have n0_ := Aside0.mk (lA1_ (o := .map #[] 0) HB.out)
      clear HB
      have HB := n0_
      clear n0_
      obtain ⟨B, hB⟩ : ∃ B, B = w.heap.size := ⟨_, rfl⟩
      have GB : Aside0 (w.heap.size ≤ B) := ⟨by omega⟩
      rw [← hB] at HO ⊢
      clear hB
      go_loopg [13] l0.length (fun gg s13 wr => ∃ (kk : Nat) (D : DataW Unit), kk ≤ l0.length ∧ l0.length - kk ≤ gg ∧ s13 = .int .i64 kk ∧ Aside0 (TFs (l0.take kk) (l0.drop kk) = TFs [] l0) ∧ Aside0 (wr.ownsMap Try.prog 37 (plainElem Try.prog 4) B kk D) ∧ Aside0 (IsMap D) ∧ Aside0 (Seen D (l0.take kk)) ∧ Aside0 (Below w.heap.size w wr))
      case atStart => exact ⟨0, .map [], Nat.zero_le _, by omega, rfl, ⟨rfl⟩, HO, ⟨isMap_empty⟩, ⟨seen_nil⟩, HB⟩
      case round =>
        clear HO HB
        obtain ⟨kk, D, hkn, hgg, rfl, HT, HO, HD, HS, HB⟩ := hrel
        by_cases hlt : kk < l0.length
        · have hltz : (kk : Int) < (l0.length : Int) := by omega
          have hltd : decide ((kk : Int) < (l0.length : Int)) = true := decide_eq_true hltz
          obtain ⟨ad, e, hx0, hx1, hx2, hx3⟩ := at_T37 (Kd.C_below HR.out HB.out) (kk : Int) (by omega) (by omega)
          rw [Int.toNat_natCast] at hx0 hx1 hx2 hx3
          subst e
          have hm : rd_T37 l0 (kk : Int) = l0[kk] := by simp [rd_T37, List.getD, List.getElem?_eq_getElem hlt]
          have htk : l0.take (kk + 1) = l0.take kk ++ [rd_T37 l0 (kk : Int)] := by rw [hm, List.take_succ_eq_append_getElem hlt]
          have hdr : l0.drop kk = rd_T37 l0 (kk : Int) :: l0.drop (kk + 1) := by rw [hm, List.drop_eq_getElem_cons hlt]
          have hxw : wf4 (rd_T37 l0 (kk : Int)) = true := by rw [hm]; exact List.all_eq_true.1 HW.out _ (List.getElem_mem hlt)
          have ht := HT.out
          rw [hdr] at ht
          simp only [TFs] at ht
          have HTK := Aside0.mk htk
          clear hm htk hdr HT
          generalize rd_T37 l0 (kk : Int) = x at hx0 hx1 hx2 hx3 hxw ht HTK
          obtain ⟨kl, hkl⟩ := keyOf_term x hxw
          have HK := Aside0.mk (show keyOf Try.prog 37 (tv x) = some kl from hkl)
          clear hkl hxw
          obtain ⟨c, hc⟩ : ∃ c, c = tfault x.f0 x.f1 x.f2 x.f3 (l0.take kk) := ⟨_, rfl⟩
          have HF := Aside0.mk (show impl_Term_fault.f x.f0 x.f1 x.f2 x.f3 (l0.take kk) = some c by rw [hc]; rfl)
          rw [← hc] at ht
          clear hc
          have hkc : kk ≤ c0 := by have := HC.out; omega
          obtain ⟨y, hy⟩ : ∃ y, y = l0.take kk := ⟨_, rfl⟩
          have hyl : y.length = ((kk : Nat) : Int).toNat := by rw [hy, List.length_take]; omega
          have hCy := C_take39 HR.out (Below.refl _ w) kk
          rw [← hy] at HS HTK HF ht hCy
          have HCY := Aside0.mk hCy
          have HY := Aside0.mk hyl
          obtain ⟨i0, hi0, _, hsz0, _⟩ := info_parts info37
          have hcut := cut_to (P := Try.prog) 24 37 .i64 Try.underlying24 hi0 (some ad) l0.length c0 (kk : Int) (by omega) (by omega) HC.out
          rw [← hyl] at hcut
          clear hi0 hsz0 hCy
          have HYE := Aside0.mk hy
          clear hy hyl
          go_wp2_with (first | ((with_reducible refine gate_dst (N := 5) rfl ?_); refine box_event ?hg (N := 5) ?hd (cs := #[.int .i64 0, .int .i64 0, .int .i64 0, .int .i64 0]) (t := 37) ?hr ?_; (case hd => rfl); (case hg => rfl); (case hr => first | (go_simp; done) | (go_simp; rfl)); intro g5 hg w3 hbox hb; have n0_ := Aside0.mk (lP_ HB.out hb); have n1_ := Aside0.mk hbox; have n2_ := Aside0.mk (show w.heap.size ≤ g5 by rw [hg]; exact below_size HB.out); have n3_ := Aside0.mk (show B ≠ g5 by rw [hg]; exact Nat.ne_of_lt HO.out.lt); have n4_ := Aside0.mk (own_map_below HO.out hb); replace hx0 := (hb.cell (World.block_lt_of_cell? wr _ hx0)).trans hx0; replace hx1 := (hb.cell (World.block_lt_of_cell? wr _ hx1)).trans hx1; replace hx2 := (hb.cell (World.block_lt_of_cell? wr _ hx2)).trans hx2; replace hx3 := (hb.cell (World.block_lt_of_cell? wr _ hx3)).trans hx3; clear HB HO; have HB := n0_; have a0 := n1_; have a1 := n2_; have NE5 := n3_; have HO := n4_; clear n0_ n1_ n2_ n3_ n4_ hb hbox hg; have p0_ : w3.cell? ⟨g5, 0, none⟩ = some (.int .i64 0) := (blk_cell a0.out 0).trans rfl; have p1_ : w3.cell? ⟨g5, 1, none⟩ = some (.int .i64 0) := (blk_cell a0.out 1).trans rfl; have p2_ : w3.cell? ⟨g5, 2, none⟩ = some (.int .i64 0) := (blk_cell a0.out 2).trans rfl; have p3_ : w3.cell? ⟨g5, 3, none⟩ = some (.int .i64 0) := (blk_cell a0.out 3).trans rfl; have f0_ := blk_frozen a0.out 0; have f1_ := blk_frozen a0.out 1; have f2_ := blk_frozen a0.out 2; have f3_ := blk_frozen a0.out 3))
          have n0_ := Aside0.mk (blk_put (blk_put (blk_put (blk_put a0.out 0 (.int .i64 x.f0) rfl) 1 (.int .i64 x.f1) rfl) 2 (.int .i64 x.f2) rfl) 3 (.int .i64 x.f3) rfl)
          have n1_ := Aside0.mk (own_map_set (own_map_set (own_map_set (own_map_set HO.out NE5.out (j := 0) (u := .int .i64 x.f0)) NE5.out (j := 1) (u := .int .i64 x.f1)) NE5.out (j := 2) (u := .int .i64 x.f2)) NE5.out (j := 3) (u := .int .i64 x.f3))
          have n2_ := Aside0.mk (lS1_ (j := 3) (v := .int .i64 x.f3) (lS1_ (j := 2) (v := .int .i64 x.f2) (lS1_ (j := 1) (v := .int .i64 x.f1) (lS1_ (j := 0) (v := .int .i64 x.f0) HB.out a1.out) a1.out) a1.out) a1.out)
          clear a0 HO HB hx0 hx1 hx2 hx3 p0_ p1_ p2_ p3_ f0_ f1_ f2_ f3_
          have a0 := n0_; have HO := n1_; have HB := n2_
          clear n0_ n1_ n2_
          generalize (w3.setCell ⟨g5, 0, none⟩ (.int .i64 x.f0) |>.setCell ⟨g5, 1, none⟩ (.int .i64 x.f1) |>.setCell ⟨g5, 2, none⟩ (.int .i64 x.f2) |>.setCell ⟨g5, 3, none⟩ (.int .i64 x.f3)) = w4 at a0 HO HB ⊢
          have n0_ := Aside0.mk (bD_ a0.out)
          have n1_ := Aside0.mk (lD_ HB.out)
          have n2_ := Aside0.mk (World.ownsMap.drew HO.out)
          clear a0 HB HO
          have a0 := n0_; have HB := n1_; have HO := n2_
          clear n0_ n1_ n2_
          refine start_ (n := 6) (S := fun w' => w'.cell? ⟨g5, 0, none⟩ = some (.int .i64 x.f0) ∧ w'.cell? ⟨g5, 1, none⟩ = some (.int .i64 x.f1) ∧ w'.cell? ⟨g5, 2, none⟩ = some (.int .i64 x.f2) ∧ w'.cell? ⟨g5, 3, none⟩ = some (.int .i64 x.f3)) (ds := []) #[false, false, false, false, false, false] (by kernel_rfl) rfl rfl ⟨(blk_cell a0.out 0).trans rfl, (blk_cell a0.out 1).trans rfl, (blk_cell a0.out 2).trans rfl, (blk_cell a0.out 3).trans rfl⟩ (fun hHeld => ?_)
          generalize w4.drew = w5 at a0 HB HO hHeld ⊢
          refine take_ (i := 0) (N := some 18) (v := ?_) (a' := ?_) #[true, false, false, false, false, false] rfl rfl (by kernel_rfl) (fun _ _ _ h => h) (Or.inl ⟨by rfl, ?_⟩) hHeld ?_ ?_
          rotate_left
          · rintro w' ⟨s0, s1, s2, s3⟩
            go_simp
            with_reducible rfl
          rotate_left
          · simp only [Act.put, lA_, lZ_, lS_, i64_w, i32_w]
            rfl
          refine pure_ (i := 1) (N := some 19) (v := ?_) (a' := ?_) #[true, true, false, false, false, false] rfl rfl (by kernel_rfl) (fun _ _ _ h => h) (Or.inl ⟨by rfl, ?_⟩) ?_ ?_
          rotate_left
          · intro w'
            go_simp
            with_reducible rfl
          rotate_left
          · simp only [Act.put, lA_, lZ_, lS_, i64_w, i32_w]
            rfl
          refine pure_ (i := 2) (N := some 20) (v := ?_) (a' := ?_) #[true, true, true, false, false, false] rfl rfl (by kernel_rfl) (fun _ _ _ h => h) (Or.inl ⟨by rfl, ?_⟩) ?_ ?_
          rotate_left
          · intro w'
            go_simp
            with_reducible rfl
          rotate_left
          · simp only [Act.put, lA_, lZ_, lS_, i64_w, i32_w]
            rfl
          refine pure_ (i := 3) (N := some 21) (v := ?_) (a' := ?_) #[true, true, true, true, false, false] rfl rfl (by kernel_rfl) (fun _ _ _ h => h) (Or.inl ⟨by rfl, ?_⟩) ?_ ?_
          rotate_left
          · intro w'
            go_simp
            with_reducible rfl
          rotate_left
          · simp only [Act.put, lA_, lZ_, lS_, i64_w, i32_w]
            rfl
          refine one_ (i := 4) (N := some 22) #[true, true, true, true, true, false] rfl rfl (by kernel_rfl) (by decide) (fun K hK => ?_)
          refine goes_ Try.func36 (by kernel_rfl) rfl #[.agg #[.int .i64 x.f0, .int .i64 x.f1, .int .i64 x.f2, .int .i64 x.f3], .slice (some ad) y.length c0] (by rfl) rfl rfl (by (try simp only [List.map_toArray, List.map_cons, List.map_nil]); first | done | rfl) ?_
          with_reducible refine (impl_Term_fault.calls x.f0 x.f1 x.f2 x.f3 (some ad) c0 y c _ (Kd.C_below HCY.out HB.out) (by have := HY.out; omega) HF.out).mono ?_
          rintro e w6 ⟨rfl, hb⟩
          refine ⟨_, rfl, ?_⟩
          have n0_ := Aside0.mk (bB_ a0.out hb)
          have n1_ := Aside0.mk (lP_ HB.out hb)
          have n2_ := Aside0.mk (own_map_below HO.out hb)
          clear a0 HB HO hb
          have a0 := n0_; have HB := n1_; have HO := n2_
          clear n0_ n1_ n2_
          refine hK.out _ _ ⟨(blk_cell a0.out 0).trans rfl, (blk_cell a0.out 1).trans rfl, (blk_cell a0.out 2).trans rfl, (blk_cell a0.out 3).trans rfl⟩ (fun hHeld => ?_)
          clear hK K
          refine norm_ (a' := ?_) ?_ ?_
          rotate_left
          · show Act.put _ (some 22) _ = _
            simp only [Act.put, lA_, lZ_, lS_, i64_w, i32_w]
            rfl
          refine pure_ (i := 5) (N := some 6) (v := ?_) (a' := ?_) #[true, true, true, true, true, true] rfl rfl (by kernel_rfl) (fun _ _ _ h => h) (Or.inl ⟨by rfl, ?_⟩) ?_ ?_
          rotate_left
          · intro w'
            go_simp
            with_reducible rfl
          rotate_left
          · simp only [Act.put, lA_, lZ_, lS_, i64_w, i32_w]
            rfl
          refine done_ (by kernel_rfl) ?_
          have p0_ : w6.cell? ⟨g5, 0, none⟩ = some (.int .i64 x.f0) := (blk_cell a0.out 0).trans rfl; have p1_ : w6.cell? ⟨g5, 1, none⟩ = some (.int .i64 x.f1) := (blk_cell a0.out 1).trans rfl; have p2_ : w6.cell? ⟨g5, 2, none⟩ = some (.int .i64 x.f2) := (blk_cell a0.out 2).trans rfl; have p3_ : w6.cell? ⟨g5, 3, none⟩ = some (.int .i64 x.f3) := (blk_cell a0.out 3).trans rfl
          clear hcut
          by_cases hc0 : c = 0
          · have hc1 : (c != 0) = false := by simpa using hc0
            have hc2 : (c == 0) = true := by simpa using hc0
            rw [if_pos hc0] at ht
            cases hq : y.any (eq4 x) with
            | true =>
              rw [hq, if_pos rfl] at ht
              go_wp2_with (first | (at_lookup; refine wpList_lookup_own_bool (H := Unit) _ rfl (.tmp 26) (.tmp 27) 61 rfl 37 4 term_keyed Try.underlying61 Try.underlying4 rfl B kk D rfl HO.out _ kl rfl HK.out ?_; intro c1 hat; have hc3 : c1 = y.any (eq4 x) := (by have := (HS.out x kl HK.out).symm.trans hat; injection this with this; injection this with this; exact this.symm); rw [hq] at hc3; subst hc3; clear hat))
              go_ret
              exact ⟨by rw [← ht]; rfl, HB.out⟩
            | false =>
              rw [hq, if_neg (by decide)] at ht
              go_wp2_with (first | (at_lookup; refine wpList_lookup_own_bool (H := Unit) _ rfl (.tmp 26) (.tmp 27) 61 rfl 37 4 term_keyed Try.underlying61 Try.underlying4 rfl B kk D rfl HO.out _ kl rfl HK.out ?_; intro c1 hat; have hc3 : c1 = y.any (eq4 x) := (by have := (HS.out x kl HK.out).symm.trans hat; injection this with this; injection this with this; exact this.symm); rw [hq] at hc3; subst hc3; clear hat) | (at_mapUpdate; refine wpList_mapUpdate_own (H := Unit) _ rfl (.tmp 29) (.tmp 30) (.const (.bool true)) 61 rfl 37 4 term_keyed Try.underlying61 (plainElem Try.prog 4) B kk D rfl HO.out (by show kk < 9223372036854775807; omega) _ _ kl rfl rfl HK.out (.lit (.bool true)) [] (plainElem_bool Try.underlying4 true) ?_; intro w7 ho7 hg7))
              go_roundg (l0.length - (kk + 1))
              case measure => omega
              case rel =>
                refine ⟨kk + 1, D.put kl (.lit (.bool true)), by omega, by omega, by go_num, ⟨by rw [HTK.out]; exact ht⟩, ⟨ho7⟩, ⟨HD.out.put _ _⟩, ⟨by rw [HTK.out]; exact seen_put HS.out HD.out HK.out⟩, ⟨pw_below_grown HB.out (some B) (below_size HB.out) hg7 (fun k hk => by injection hk with hk; rw [← hk]; exact GB.out)⟩⟩
          · have hc1 : (c != 0) = true := by simpa using hc0
            have hc2 : (c == 0) = false := by simpa using hc0
            rw [if_neg hc0] at ht
            go_wp2_with fail
            go_ret
            exact ⟨by rw [ht]; rfl, HB.out⟩
        · have hltd : decide ((kk : Int) < (l0.length : Int)) = false := decide_eq_false (by omega)
          obtain rfl : kk = l0.length := by omega
          have ht := HT.out
          rw [List.drop_length] at ht
          go_wp2_with fail
          go_ret
          exact ⟨by rw [← ht]; rfl, HB.out⟩
  · rw [if_neg hwf] at h; cases h
end Go.Proofs.Ytpagejjjfpkmcaa.G
namespace Go.Proofs.Ytpagejjjfpkmcaa.G
open Go.RowKit Go.Proofs.YtpagejjjfpkmcaaW.PrintWords Go.Proofs.YtpagejjjfpkmcaaW.PrintLast Go.Proofs.YtpagejjjfpkmcaaW.PrintMore
attribute [local go_sem] max2_int min2_int max_two min_two max_three min_three max_four min_four   -- for this text's walks alone
set_option linter.unusedVariables false
set_option linter.unusedSimpArgs false
def impl_isPlace.f (l0 : List (S37)) (a1 : Int) : Option (Bool) := (impl_in.f a1 0 (wrap64 ((l0.length : Int) - 1))).bind fun t247 => (some t247)
set_option maxHeartbeats 8000000 in
set_option maxRecDepth 100000 in
theorem impl_isPlace.calls (A0 : Option Addr) (c0 : Nat) (l0 : List (S37)) (a1 : Int) (r : Bool) (w : World) (hr0 : Kd.C k37 w A0 l0.length l0) (hc0 : l0.length ≤ c0) (h : impl_isPlace.f l0 a1 = some r) :
  Calls Try.prog 19 #[.slice A0 l0.length c0, .int .i64 a1] w fun e w' => e = .returned (.bool r) ∧ Drawn0 w w' := by
 have HR0 := Aside0.mk hr0
 have HC0 := Aside0.mk hc0
 clear hr0 hc0
 have H : ((impl_in.f a1 0 (wrap64 ((l0.length : Int) - 1))).bind fun t247 => (some t247)) = some r := h
 clear h
 replace H := Option.bind_eq_some_iff.mp H
 obtain ⟨t247, A30, H⟩ := H
 try dsimp only at H
 have A3 := Aside0.mk A30
 clear A30
 obtain rfl := Option.some.inj H
 go_enter Try.func19, Try.ntmps19
 go_wp2_with (first | ((with_reducible refine gate_callee (f := 37) rfl ?_); refine goesA_ (some 9) rfl rfl Try.func37 (by kernel_rfl) rfl #[.int .i64 a1, .int .i64 0, .int .i64 (wrap64 ((l0.length : Int) - 1))] rfl ?_; (with_reducible refine (impl_in.calls a1 0 (wrap64 ((l0.length : Int) - 1)) t247 _ A3.out).mono ?_); rintro e w' ⟨rfl, ⟨nd, rfl⟩⟩; refine ⟨_, rfl, ?_⟩))
 go_ret
 exact ⟨by first | rfl | (simp; done) | (simp [*]; done), by repeat (first | exact Drawn0.refl _ | apply Drawn0.step)⟩
def impl_Term_38.f (l0 : List (S37)) : Option (List (S37)) := if l0.length * 32 ≤ 140737488355328 then some l0 else none
set_option maxHeartbeats 4000000 in
set_option maxRecDepth 100000 in
theorem impl_Term_38.calls (A0 : Option Addr) (c0 : Nat) (l0 : List (S37)) (r : List (S37)) (w : World) (hr0 : Kd.C k37 w A0 l0.length l0) (hc0 : l0.length ≤ c0) (h : impl_Term_38.f l0 = some r) :
    Calls Try.prog 38 #[.slice A0 l0.length c0] w fun e w' => ∃ v0_ : Value, e = .returned (v0_) ∧ Kd.R k37 37 w' w.heap.size (fun _ => True) v0_ r ∧ Below w.heap.size w w' := by
  unfold impl_Term_38.f at h
  by_cases hb : l0.length * 32 ≤ 140737488355328
  · rw [if_pos hb] at h
    obtain rfl := Option.some.inj h
    clear h
    have HL := Aside0.mk hb
    clear hb
    rcases A0 with _ | ad
    · obtain rfl : l0 = [] := by
        rcases Nat.eq_zero_or_pos l0.length with h0 | h0
        · exact List.eq_nil_of_length_eq_zero h0
        · obtain ⟨_, h, _⟩ := hr0.2.2 h0
          cases h
      have hq := fun (W : World) => Lib.run_eql_slice_nil (P := Try.prog) W 24 37 none 0 c0 0 0 Try.underlying24
      clear hr0
      go_enter Try.func38, Try.ntmps38
      go_wp2
      go_ret
      exact ⟨_, rfl, Kd.R_nil _ _ _ _ _, Below.refl _ _⟩
    · have HR := Aside0.mk hr0
      clear hr0
      have HB := Aside0.mk (Below.refl w.heap.size w)
      have hq := fun (W : World) => Lib.run_eql_slice_nil (P := Try.prog) W 24 37 (some ad) l0.length c0 0 0 Try.underlying24
      go_enter Try.func38, Try.ntmps38
      go_wp2_with (first | ((with_reducible refine gate_dst (N := 5) rfl ?_); refine Kd.R_lit k37 _ 37 ?hg (N := 5) ?hd (xs := ([] : List (S37))) (inner := []) (ok := fun _ => True) (okp := fun _ => True) ?hr ?hp (fun _ hk => hk) trivial (Below.refl _ _) (Nat.le_refl _) (by simp) ?_; (case hd => rfl); (case hg => rfl); (case hr => first | (go_simp; done) | (go_simp; rfl)); (case hp => exact (Reps.none _ _)); intro v103 w3 ho4 hb hg_ hnew_; clear hg_ hnew_; have n0_ := Aside0.mk (Kd.R_lower ho4 (below_size HB.out)); have n1_ := Aside0.mk (lP_ HB.out hb); have n2_ := Aside0.mk (Kd.C_below HR.out (by first | exact hb | exact lP_ HB.out hb)); clear HB HR; have HO104 := n0_; have HB := n1_; have HR := n2_; clear n0_ n1_ n2_ hb ho4) | ((with_reducible refine gate_builtin (b := .append) (xs := #[.tmp 5, .tmp 6]) rfl ?_); at_builtin; refine Kd.R_append_rows k37 (Rr := k37.K w3) (w0 := w) w.heap.size rfl (.tmp 5) (.tmp 6) 24 37 (.agg #[(.int .i64 0), (.int .i64 0), (.int .i64 0), (.int .i64 0)]) 32 rfl Try.underlying24 info37 rfl (by decide) (by omega) v103 [] l0 (some ad) l0.length c0 (fun _ => True) (fun _ => False) rfl rfl ?aO ?aR (fun _ cs_ h_ => by obtain rfl := k37_open h_; exact k37_mkM _ _ _ _) (fun _ hk => hk.elim) (fun _ _ => trivial) ?aB ?aS ?aL ?_; (case aO => exact HO104.out); (case aR => exact HR.out); (case aB => exact HB.out); (case aS => exact below_size HB.out); (case aL => have := HL.out; simp; omega); intro v106 w10 ho hb hg hat; have n0_ := Aside0.mk (hb); have n1_ := Aside0.mk (ho); clear HB HO104; have HB := n0_; have HO107 := n1_; clear n0_ n1_ ho hb hg hat))
      go_ret
      exact ⟨_, rfl, HO107.out, HB.out⟩
  · rw [if_neg hb] at h; cases h
def Sheet (W : World) (N S : Nat) (l : List S37) (full : Bool) : Prop := ∃ v, W.heap[S]? = some (.cells #[v, .bool full] 52 (0, 0)) ∧ N ≤ S ∧ k37.R 37 W N (fun k => k ≠ S) v l
theorem below_stepN {w W W' : World} {N : Nat} (h : Below N w W) (hN : N ≤ W.heap.size) (k : Below W.heap.size W W') : Below N w W' := h.trans (k.mono hN)
theorem R_not {W : World} {N S : Nat} {ok : Nat → Prop} {v : Value} {l : List S37} (h : k37.R 37 W N ok v l) (hs : ∀ k, v.ownBlock = some k → k ≠ S) : k37.R 37 W N (fun k => k ≠ S) v l := by
  obtain ⟨h0, inner, hown, hr⟩ := h
  exact ⟨hs, inner, hown, hr.imp_ (fun x cs hm => by obtain rfl := k37_openM hm; exact k37_mkM _ _ _ _)⟩
set_option maxHeartbeats 4000000 in
set_option maxRecDepth 100000 in
theorem impl_sheetOf.calls (A0 : Option Addr) (c0 : Nat) (l0 : List S37) (w : World) (hr0 : Kd.C k37 w A0 l0.length l0) (hc0 : l0.length ≤ c0) (hb : l0.length * 32 ≤ 140737488355328) :
    Calls Try.prog 20 #[.slice A0 l0.length c0] w fun e w' => ∃ S, e = .returned (.pointer (some ⟨S, 0, none⟩)) ∧ Sheet w' w.heap.size S l0 false ∧ Below w.heap.size w w' := by
  have HR := Aside0.mk hr0
  have HC := Aside0.mk hc0
  have HF := Aside0.mk (show impl_Term_38.f l0 = some l0 from if_pos hb)
  have HB := Aside0.mk (Below.refl w.heap.size w)
  clear hr0 hc0 hb
  go_enter Try.func20, Try.ntmps20
  go_wp2_with (first | (go_at_call 38; with_reducible refine (impl_Term_38.calls A0 c0 l0 l0 _ (Kd.C_below HR.out HB.out) HC.out HF.out).mono ?_; rintro e w2 ⟨v, rfl, ho, hb⟩; obtain ⟨A2, c2, rfl⟩ := Kd.R_slice ho; have HO := Aside0.mk (Kd.R_lower ho (below_size HB.out)); have n0_ := Aside0.mk (lP_ HB.out hb); clear HB hb ho; have HB := n0_; clear n0_) | ((with_reducible refine gate_dst (N := 6) rfl ?_); refine box_event ?hg (N := 6) ?hd (cs := #[.slice A2 l0.length c2, .bool false]) (t := 52) ?hr ?_; (case hd => rfl); (case hg => rfl); (case hr => first | (go_simp; done) | (go_simp; rfl)); intro S hg w3 hbox hb; have HS : Aside0 (Sheet w3 w.heap.size S l0 false) := ⟨⟨.slice A2 l0.length c2, hbox, (by rw [hg]; exact below_size HB.out), R_not (Kd.R_below HO.out hb) (fun k hk => by obtain ⟨_, hi⟩ := Kd.R_own HO.out; have := own_lt hi k hk; omega)⟩⟩; have n0_ := Aside0.mk (lP_ HB.out hb); clear HB hb hbox hg; have HB := n0_; clear n0_))
  go_ret
  exact ⟨S, rfl, HS.out, HB.out⟩
mutual
def impl_partsOf.l0 : Nat → List (S37) → List Bool → List Int → Int → Option (List Int)
 | 0, _, _, _, _ => none
 | k + 1, x0, x5, x6, x7 => if x7 ≥ 0 then (if 0 ≤ x7 then (if x7 < (x5.length : Int) then (if rdOf false x5 x7 = true then (if x7 < (x0.length : Int) then ((impl_Term_parts.f k ((rd_T37 x0 x7).f0) ((rd_T37 x0 x7).f1) ((rd_T37 x0 x7).f2) ((rd_T37 x0 x7).f3)).bind fun t257 => (impl_partsOf.l1 k x0 x5 x6 x7 t257 (t257.length : Int) 0)) else (none)) else (impl_partsOf.l0 k x0 x5 x6 (wrap64 (x7 - 1)))) else (none)) else (none)) else (impl_partsOf.l2 k x6 x5 (x5.length : Int) 0)
def impl_partsOf.l1 : Nat → List (S37) → List Bool → List Int → Int → List Int → Int → Int → Option (List Int)
 | 0, _, _, _, _, _, _, _ => none
 | k + 1, x0, x5, x6, x7, x32, x33, x34 => if x34 < x33 then (if 0 ≤ x34 then (if x34 < (x32.length : Int) then (if 0 ≤ (rd x32 x34) then (if (rd x32 x34) < (x5.length : Int) then (impl_partsOf.l1 k x0 (x5.set ((rd x32 x34) : Int).toNat true) x6 x7 x32 x33 (wrap64 (x34 + 1))) else (none)) else (none)) else (none)) else (none)) else (impl_partsOf.l0 k x0 x5 x6 (wrap64 (x7 - 1)))
def impl_partsOf.l2 : Nat → List Int → List Bool → Int → Int → Option (List Int)
 | 0, _, _, _, _ => none
 | k + 1, x6, x42, x43, x44 => if x44 < x43 then (if 0 ≤ x44 then (if x44 < (x42.length : Int) then (if rdOf false x42 x44 = true then (if x6.length < 17592186044416 then (impl_partsOf.l2 k (x6 ++ [x44]) x42 x43 (wrap64 (x44 + 1))) else (none)) else (impl_partsOf.l2 k x6 x42 x43 (wrap64 (x44 + 1)))) else (none)) else (none)) else (some x6)
end
def impl_partsOf.f (k : Nat) (l0 : List (S37)) (a1 : Int) : Option (List Int) := if 0 ≤ (wrap64 (a1 + 1)) then (if (wrap64 (a1 + 1) : Int).toNat ≤ 281474976710656 then ((some (List.replicate (wrap64 (a1 + 1) : Int).toNat false : List Bool)).bind fun y248 => (if 0 ≤ a1 then (if a1 < (y248.length : Int) then (impl_partsOf.l0 k l0 (y248.set (a1 : Int).toNat true) (([] : List Int)) a1) else (none)) else (none))) else (none)) else (none)
set_option maxHeartbeats 8000000 in
set_option maxRecDepth 100000 in
theorem impl_partsOf.calls (k : Nat) (A0 : Option Addr) (c0 : Nat) (l0 : List (S37)) (a1 : Int) (r : List Int) (w : World) (hr0 : Kd.C k37 w A0 l0.length l0) (hc0 : l0.length ≤ c0) (h : impl_partsOf.f k l0 a1 = some r) :
  Calls Try.prog 21 #[.slice A0 l0.length c0, .int .i64 a1] w fun e w' => ∃ v0_ : Value, e = .returned (v0_) ∧ Kd.R (Kd.int .i64) 2 w' w.heap.size (fun _ => True) v0_ r ∧ Below w.heap.size w w' := by
 have hu37 := Try.underlying37
 have al := Aside0.mk hr0
 have an := Aside0.mk hc0
 clear hr0 hc0
 have HB := Aside0.mk (Below.refl w.heap.size w)
 have H : (if 0 ≤ (wrap64 (a1 + 1)) then (if (wrap64 (a1 + 1) : Int).toNat ≤ 281474976710656 then ((some (List.replicate (wrap64 (a1 + 1) : Int).toNat false : List Bool)).bind fun y248 => (if 0 ≤ a1 then (if a1 < (y248.length : Int) then (impl_partsOf.l0 k l0 (y248.set (a1 : Int).toNat true) (([] : List Int)) a1) else (none)) else (none))) else (none)) else (none)) = some r := h
 clear h
 obtain ⟨ji3, hji3⟩ : ∃ j_ : Int, (wrap64 (a1 + 1)) = j_ := ⟨_, rfl⟩
 replace H : (if 0 ≤ (ji3) then (if (ji3 : Int).toNat ≤ 281474976710656 then ((some (List.replicate (ji3 : Int).toNat false : List Bool)).bind fun y248 => (if 0 ≤ a1 then (if a1 < (y248.length : Int) then (impl_partsOf.l0 k l0 (y248.set (a1 : Int).toNat true) (([] : List Int)) a1) else (none)) else (none))) else (none)) else (none)) = some r := by first | (rw [hji3] at H; exact H) | (simp only [hji3] at H ⊢; exact H)
 have hji3w : (IntKind.i64.wrap (a1 + 1)) = ji3 := (i64_w _).trans hji3
 by_cases c4 : 0 ≤ (ji3)
 ·rw [if_pos c4] at H
  have c4b0 := eq_true c4
  have c4b1 : decide (0 ≤ (ji3)) = true := decide_eq_true c4
  clear c4
  by_cases c5 : (ji3 : Int).toNat ≤ 281474976710656
  ·rw [if_pos c5] at H
   have c5b0 := eq_true c5
   have c5b1 : decide ((ji3 : Int).toNat ≤ 281474976710656) = true := decide_eq_true c5
   clear c5
   obtain ⟨y248, hy248⟩ : ∃ y_ : List Bool, y_ = (List.replicate (ji3 : Int).toNat false) := ⟨_, rfl⟩
   replace H : (if 0 ≤ a1 then (if a1 < (y248.length : Int) then (impl_partsOf.l0 k l0 (y248.set (a1 : Int).toNat true) (([] : List Int)) a1) else (none)) else (none)) = some r := by first | (rw [hy248]; with_reducible exact H) | (have H2_ := (Option.bind_some _ _).symm.trans H; rw [hy248]; with_reducible exact H2_) | (have H2_ := (Option.bind_some _ _).symm.trans H; with_reducible exact H2_) | with_reducible exact H | (rw [hy248]; exact H) | exact H
   have a8 := Aside0.mk hy248
   clear hy248
   obtain ⟨y251, hy251⟩ : ∃ y_ : List Int, y_ = (([] : List Int)) := ⟨_, rfl⟩
   replace H : (if 0 ≤ a1 then (if a1 < (y248.length : Int) then (impl_partsOf.l0 k l0 (y248.set (a1 : Int).toNat true) y251 a1) else (none)) else (none)) = some r := by first | (rw [hy251]; with_reducible exact H) | (have H2_ := (Option.bind_some _ _).symm.trans H; rw [hy251]; with_reducible exact H2_) | (have H2_ := (Option.bind_some _ _).symm.trans H; with_reducible exact H2_) | with_reducible exact H | (rw [hy251]; exact H) | exact H
   have a9 := Aside0.mk hy251
   clear hy251
   by_cases c6 : 0 ≤ a1
   ·rw [if_pos c6] at H
    have c6b0 : decide (0 ≤ a1) = true := decide_eq_true c6
    clear c6
    by_cases c7 : a1 < (y248.length : Int)
    ·rw [if_pos c7] at H
     have c7b0 : decide (a1 < (y248.length : Int)) = true := decide_eq_true c7
     clear c7
     obtain ⟨y254, hy254⟩ : ∃ y_ : List Bool, y_ = (y248.set (a1 : Int).toNat true) := ⟨_, rfl⟩
     replace H : (impl_partsOf.l0 k l0 y254 y251 a1) = some r := by first | (rw [hy254]; with_reducible exact H) | (have H2_ := (Option.bind_some _ _).symm.trans H; rw [hy254]; with_reducible exact H2_) | (have H2_ := (Option.bind_some _ _).symm.trans H; with_reducible exact H2_) | with_reducible exact H | (rw [hy254]; exact H) | exact H
     have ae := Aside0.mk hy254
     clear hy254
     have H' := Aside0.mk H
     clear H
     go_enter Try.func21, Try.ntmps21
     go_wp2_with (first | ((with_reducible refine gate_dst (N := 14) rfl ?_); refine Kd.R_make Kd.bool _ 4 rfl (N := 14) rfl 62 _ _ rfl ji3 rfl rfl Try.underlying62 (.bool false) 1 info4 rfl (by decide) (by omega) false (ok := fun _ => True) (okp := fun _ => True) rfl (fun _ hk => hk) trivial (of_decide_eq_true (by first | (with_reducible assumption) | assumption)) (Nat.le_trans (Nat.mul_le_mul_right _ (of_decide_eq_true (by first | (with_reducible assumption) | assumption) : ji3.toNat ≤ 281474976710656)) (by omega)) (Below.refl _ _) (Nat.le_refl _) ?_; intro v249 w9 ho10 hb hg_ hnew_; clear hg_ hnew_; (first | rw [← a8.out] at ho10 | (simp only [Int.reduceToNat] at ho10; rw [← a8.out] at ho10)); have n0_ := Aside0.mk (Kd.R_lower ho10 (below_size HB.out)); have n1_ := Aside0.mk (lP_ HB.out hb); clear HB; have a3 := n0_; have HB := n1_; clear n0_ n1_ hb ho10) | ((with_reducible refine gate_dst (N := 15) rfl ?_); refine Kd.R_lit (Kd.int .i64) _ 2 ?hg (N := 15) ?hd (xs := ([] : List Int)) (inner := []) (ok := fun _ => True) (okp := fun _ => True) ?hr ?hp (fun _ hk => hk) trivial (Below.refl _ _) (Nat.le_refl _) (by simp) ?_; (case hd => rfl); (case hg => rfl); (case hr => first | (go_simp; done) | (go_simp; rfl)); (case hp => exact (Reps.none _ _)); intro v252 w11 ho12 hb hg_ hnew_; clear hg_ hnew_; (first | rw [← a9.out] at ho12 | (simp only [Int.reduceToNat] at ho12; rw [← a9.out] at ho12)); have n0_ := Aside0.mk (Kd.R_below a3.out hb); have n1_ := Aside0.mk (Kd.R_lower ho12 (below_size HB.out)); have n2_ := Aside0.mk (lP_ HB.out hb); clear a3 HB; have a3 := n0_; have a7 := n1_; have HB := n2_; clear n0_ n1_ n2_ hb ho12; have p8 : 0 ≤ (a1 : Int) := of_decide_eq_true (by first | (with_reducible assumption) | assumption); have q8 : (a1 : Int) < ((y248.length : Int) : Int) := of_decide_eq_true (by first | (with_reducible assumption) | assumption); obtain ⟨go8, a6, eo8, aj, gl8, cl8, HG8⟩ := Kd.R_form a3.out (by omega); (first | cases eo8 | (injection eo8 with ea_ en_ ec_; (first | subst ea_ | (injection ea_ with ea_; subst ea_)); subst ec_; clear en_)); have ak := Aside0.mk aj; have GG8 := Aside0.mk HG8; clear aj gl8 HG8; obtain ⟨hx8_0, hf8_0⟩ := Kd.R_celln false a3.out (a1 : Int) p8 q8; replace p8 := eq_true p8; replace q8 := eq_true q8; obtain ⟨hy13_, hz13_⟩ := Kd.R_celln false a3.out (a1 : Int) (of_decide_eq_true (by first | (with_reducible assumption) | assumption)) (of_decide_eq_true (by first | (with_reducible assumption) | assumption)); have HP13 := Kd.R_putg a3.out (a1 : Int) true) | ((with_reducible refine gate_store (t := 4) (p := 18) rfl ?_); refine store_event (t := 4) (p := 18) (v := ?vo_w14) (w1 := (w11.setCell ⟨go8, (a1 : Int).toNat, none⟩ (.bool true))) ?hg ?ho ?hn ?hr ?_; (case ho => rfl); (case hg => rfl); (case hn => rfl); (case hr => first | (go_simp; done) | (go_simp; rfl)); intro w14 hw; have hg : w11.grownBy w14 (some go8) := (by rw [hw]; exact HP13.2); have hp_ : Kd.R Kd.bool 4 w14 w.heap.size (fun _ => True) (.slice (some ⟨go8, 0, none⟩) y248.length a6) y254 := (by rw [hw, ae.out]; exact HP13.1); clear HP13; have n0_ := Aside0.mk (hp_); have n1_ := Aside0.mk (Kd.R_over' (v := (.slice (some ⟨go8, 0, none⟩) y248.length a6)) a7.out (Kd.R_typed a3.out) (by decide) hg); have n2_ := Aside0.mk ((by rw [hw]; exact lS1_ (HB.out) ak.out : Below w.heap.size w w14)); clear a3 a7 HB; have a3 := n0_; have a7 := n1_; have HB := n2_; clear n0_ n1_ n2_ hg hw hp_))
     go_loopg [7] k (fun kq v7 w' => ∃ (x5_1 : List Bool) (x7_1 : Int), v7 = .int .i64 x7_1 ∧ Aside0 (impl_partsOf.l0 kq l0 x5_1 y251 x7_1 = some r) ∧ Aside0 (kq ≤ k) ∧ Aside0 (Kd.R Kd.bool 4 w' w.heap.size (fun _ => True) (.slice (some ⟨go8, 0, none⟩) y248.length a6) x5_1) ∧ Aside0 (Kd.R (Kd.int .i64) 2 w' w.heap.size (fun _ => True) v252 y251) ∧ Aside0 (Below w.heap.size w w'))
     case atStart => exact ⟨(y254), (a1), (by first | rfl | (simp; done) | (simp [*]; done)), H', ⟨Nat.le_refl _⟩, ⟨by (with_reducible repeat first | apply rA_ | apply rN_ | apply rD_); exact a3.out⟩, ⟨by (with_reducible repeat first | apply rA_ | apply rN_ | apply rD_); exact a7.out⟩, ⟨by repeat (first | (with_reducible first | exact HB.out | apply lA1_ | apply lN_ | apply lD_) | exact HB.out)⟩⟩
     case round =>
      clear H'
      try clear c2
      try clear p2
      try clear c4
      try clear c4b0
      try clear c4b1
      try clear c5
      try clear c5b0
      try clear c5b1
      try clear c6
      try clear c6b0
      try clear p6
      try clear c7
      try clear c7b0
      try clear p8
      try clear q8
      try clear hx8
      try clear hf8
      try clear hx8_0
      try clear p8
      try clear q8
      obtain ⟨x5_1, x7_1, rfl, HA, HK1, a0, a2, HB⟩ := hrel
      have hl5_1 := (Kd.R_reads' a0.out).1
      rw [hl5_1] at a0
      (try simp only [hl5_1])
      (try simp only [hl5_1] at a2)
      cases gk with
      | zero => exact absurd HA.out (by simp [impl_partsOf.l0])
      | succ k1 =>
       have H := HA.out
       clear HA
       simp only [impl_partsOf.l0] at H
       by_cases c15 : x7_1 ≥ 0
       ·rw [if_pos c15] at H
        have c15b0 : decide (0 ≤ x7_1) = true := decide_eq_true c15
        clear c15
        by_cases c16 : 0 ≤ x7_1
        ·rw [if_pos c16] at H
         have c16b0 : decide (0 ≤ x7_1) = true := decide_eq_true c16
         clear c16
         by_cases c17 : x7_1 < (x5_1.length : Int)
         ·rw [if_pos c17] at H
          have c17b0 : decide (x7_1 < (x5_1.length : Int)) = true := decide_eq_true c17
          clear c17
          obtain ⟨bq18, hbq18⟩ : ∃ b_ : Bool, b_ = (rdOf false x5_1 x7_1) := ⟨_, rfl⟩
          replace H : (if bq18 = true then (if x7_1 < (l0.length : Int) then ((impl_Term_parts.f k1 ((rd_T37 l0 x7_1).f0) ((rd_T37 l0 x7_1).f1) ((rd_T37 l0 x7_1).f2) ((rd_T37 l0 x7_1).f3)).bind fun t257 => (impl_partsOf.l1 k1 l0 x5_1 y251 x7_1 t257 (t257.length : Int) 0)) else (none)) else (impl_partsOf.l0 k1 l0 x5_1 y251 (wrap64 (x7_1 - 1)))) = some r := by rw [← hbq18] at H; exact H
          have Nbq18 := Aside0.mk hbq18
          clear hbq18
          by_cases c19 : bq18 = true
          ·subst c19
           rw [if_pos rfl] at H
           by_cases c20 : x7_1 < (l0.length : Int)
           ·rw [if_pos c20] at H
            have c20b0 : decide (x7_1 < (l0.length : Int)) = true := decide_eq_true c20
            clear c20
            replace H := Option.bind_eq_some_iff.mp H
            obtain ⟨t257, ab, H⟩ := H
            try dsimp only at H
            have am := Aside0.mk ab
            clear ab
            have H' := Aside0.mk H
            clear H
            have p255 : 0 ≤ (x7_1 : Int) := of_decide_eq_true (by first | (with_reducible assumption) | assumption)
            have q255 : x7_1 < (x5_1.length : Int) := of_decide_eq_true (by first | (with_reducible assumption) | assumption)
            obtain ⟨ad255, e255, hx255_0⟩ := Kd.at_bool (Kd.R_reads' a0.out).2.2 x7_1 p255 q255
            (try rw [← Nbq18.out] at hx255_0)
            obtain rfl : (⟨go8, 0, none⟩ : Addr) = ad255 := (by injection e255)
            (first | simp only [add_plain] at hx255_0 | simp only [add_at] at hx255_0 | simp only [Addr.add, Nat.zero_add] at hx255_0 | skip)
            replace p255 := eq_true p255
            replace q255 := eq_true q255
            have p256 : 0 ≤ (x7_1 : Int) := of_decide_eq_true (by first | (with_reducible assumption) | assumption)
            have q256 : x7_1 < (l0.length : Int) := of_decide_eq_true (by first | (with_reducible assumption) | assumption)
            obtain ⟨ad256, e256, hx256_0, hx256_1, hx256_2, hx256_3⟩ := at_T37 al.out x7_1 p256 q256
            cases e256
            replace hx256_0 := (HB.out.cell (World.block_lt_of_cell? w _ hx256_0)).trans hx256_0
            replace hx256_1 := (HB.out.cell (World.block_lt_of_cell? w _ hx256_1)).trans hx256_1
            replace hx256_2 := (HB.out.cell (World.block_lt_of_cell? w _ hx256_2)).trans hx256_2
            replace hx256_3 := (HB.out.cell (World.block_lt_of_cell? w _ hx256_3)).trans hx256_3
            replace p256 := eq_true p256
            replace q256 := eq_true q256
            go_wp2_with (first | ((with_reducible refine gate_callee (f := 39) rfl ?_); refine goesA_ (some 32) rfl rfl Try.func39 (by kernel_rfl) rfl #[.agg #[.int .i64 ((rd_T37 l0 x7_1).f0), .int .i64 ((rd_T37 l0 x7_1).f1), .int .i64 ((rd_T37 l0 x7_1).f2), .int .i64 ((rd_T37 l0 x7_1).f3)]] rfl ?_; (with_reducible refine (impl_Term_parts.calls k1 ((rd_T37 l0 x7_1).f0) ((rd_T37 l0 x7_1).f1) ((rd_T37 l0 x7_1).f2) ((rd_T37 l0 x7_1).f3) t257 _ am.out).mono ?_); rintro e w22 ⟨v258, rfl, ho0, hb⟩; refine ⟨_, rfl, ?_⟩; have n0_ := Aside0.mk (Kd.R_below a0.out hb); have n1_ := Aside0.mk (Kd.R_elder' a2.out (Kd.R_base ho0) hb); have n2_ := Aside0.mk (Kd.R_lower (Kd.R_new' ho0 (Kd.R_lt a2.out)) (below_size HB.out)); have n3_ := Aside0.mk (lP_ HB.out hb); clear a0 a2 HB; have a0 := n0_; have a2 := n1_; have aa := n2_; have HB := n3_; clear n0_ n1_ n2_ n3_; (try clear hb); (try clear hb2); (try clear hk); (try clear hi); (try clear ho0); obtain ⟨ac, ad, eo23⟩ := Kd.R_slice aa.out; subst eo23))
            go_loopg [34] k1 (fun kq v34 w' => ∃ (x5_2 : List Bool) (x34_2 : Int), v34 = .int .i64 x34_2 ∧ Aside0 (impl_partsOf.l1 kq l0 x5_2 y251 x7_1 t257 (t257.length : Int) x34_2 = some r) ∧ Aside0 (kq ≤ k1) ∧ Aside0 (Kd.R Kd.bool 4 w' w.heap.size (fun _ => True) (.slice (some ⟨go8, 0, none⟩) x5_1.length a6) x5_2) ∧ Aside0 (Kd.R (Kd.int .i64) 2 w' w.heap.size (fun k_ => some k_ ≠ ((.slice ac t257.length ad) : Value).ownBlock) v252 y251) ∧ Aside0 (Kd.R (Kd.int .i64) 2 w' w.heap.size (fun k_ => some k_ ≠ (v252 : Value).ownBlock) (.slice ac t257.length ad) t257) ∧ Aside0 (Below w.heap.size w w'))
            case atStart => exact ⟨(x5_1), (0), (by first | rfl | (simp; done) | (simp [*]; done)), H', ⟨Nat.le_refl _⟩, ⟨by (try simp only [hl5_1]); (with_reducible repeat first | apply rA_ | apply rN_ | apply rD_); exact a0.out⟩, ⟨by (try simp only [hl5_1]); (with_reducible repeat first | apply rA_ | apply rN_ | apply rD_); exact Kd.R_mono a2.out (fun _ hk => hk.2)⟩, ⟨by (try simp only [hl5_1]); (with_reducible repeat first | apply rA_ | apply rN_ | apply rD_); exact Kd.R_mono aa.out (fun _ hk => hk.2)⟩, ⟨by repeat (first | (with_reducible first | exact HB.out | apply lA1_ | apply lN_ | apply lD_) | exact HB.out)⟩⟩
            case round =>
             clear H'
             try clear c1
             try clear q1
             try clear c2
             try clear p2
             try clear q2
             try clear hx2
             try clear c3
             try clear c4
             try clear c4b0
             try clear c4b1
             try clear c5
             try clear c5b0
             try clear c5b1
             try clear c6
             try clear c6b0
             try clear p6
             try clear c7
             try clear c7b0
             try clear p8
             try clear q8
             try clear hx8
             try clear hf8
             try clear c15
             try clear c15b0
             try clear c16
             try clear c16b0
             try clear c17
             try clear c17b0
             try clear q18
             try clear c19
             try clear c20
             try clear c20b0
             try clear c21
             try clear hx255_0
             try clear hx256_0
             try clear hx256_1
             try clear hx256_2
             try clear hx256_3
             try clear hx8_0
             try clear p2
             try clear p255
             try clear p256
             try clear p6
             try clear p8
             try clear q255
             try clear q256
             try clear q8
             obtain ⟨x5_2, x34_2, rfl, HA, HK2, a0, a2, a5, HB⟩ := hrel
             have hl5_2 := (Kd.R_reads' a0.out).1
             rw [hl5_2] at a0
             (try simp only [hl5_2])
             (try simp only [hl5_2] at a2)
             (try simp only [hl5_2] at a5)
             cases gk with
             | zero => exact absurd HA.out (by simp [impl_partsOf.l1])
             | succ k2 =>
              have H := HA.out
              clear HA
              simp only [impl_partsOf.l1] at H
              by_cases c24 : x34_2 < (t257.length : Int)
              ·rw [if_pos c24] at H
               have c24b0 : decide (x34_2 < (t257.length : Int)) = true := decide_eq_true c24
               clear c24
               by_cases c25 : 0 ≤ x34_2
               ·rw [if_pos c25] at H
                have c25b0 : decide (0 ≤ x34_2) = true := decide_eq_true c25
                clear c25
                by_cases c26 : x34_2 < (t257.length : Int)
                ·rw [if_pos c26] at H
                 have c26b0 : decide (x34_2 < (t257.length : Int)) = true := decide_eq_true c26
                 clear c26
                 by_cases c27 : 0 ≤ (rd t257 x34_2)
                 ·rw [if_pos c27] at H
                  have c27b0 : decide (0 ≤ (rd t257 x34_2)) = true := decide_eq_true c27
                  clear c27
                  by_cases c28 : (rd t257 x34_2) < (x5_2.length : Int)
                  ·rw [if_pos c28] at H
                   have c28b0 : decide ((rd t257 x34_2) < (x5_2.length : Int)) = true := decide_eq_true c28
                   clear c28
                   obtain ⟨y261, hy261⟩ : ∃ y_ : List Bool, y_ = (x5_2.set ((rd t257 x34_2) : Int).toNat true) := ⟨_, rfl⟩
                   replace H : (impl_partsOf.l1 k2 l0 y261 y251 x7_1 t257 (t257.length : Int) (wrap64 (x34_2 + 1))) = some r := by first | (rw [hy261]; with_reducible exact H) | (have H2_ := (Option.bind_some _ _).symm.trans H; rw [hy261]; with_reducible exact H2_) | (have H2_ := (Option.bind_some _ _).symm.trans H; with_reducible exact H2_) | with_reducible exact H | (rw [hy261]; exact H) | exact H
                   have af := Aside0.mk hy261
                   clear hy261
                   have H' := Aside0.mk H
                   clear H
                   have p260 : 0 ≤ (x34_2 : Int) := of_decide_eq_true (by first | (with_reducible assumption) | assumption)
                   have q260 : x34_2 < (t257.length : Int) := of_decide_eq_true (by first | (with_reducible assumption) | assumption)
                   obtain ⟨ad260, e260, hx260_0⟩ := Kd.at_int (Kd.R_reads' a5.out).2.2 x34_2 p260 q260
                   cases e260
                   replace p260 := eq_true p260
                   replace q260 := eq_true q260
                   have p29 : 0 ≤ ((rd t257 x34_2) : Int) := of_decide_eq_true (by first | (with_reducible assumption) | assumption)
                   have q29 : ((rd t257 x34_2) : Int) < ((x5_2.length : Int) : Int) := of_decide_eq_true (by first | (with_reducible assumption) | assumption)
                   obtain ⟨hx29_0, hf29_0⟩ := Kd.R_celln false a0.out ((rd t257 x34_2) : Int) p29 q29
                   replace p29 := eq_true p29
                   replace q29 := eq_true q29
                   have HP30 := Kd.R_putg a0.out ((rd t257 x34_2) : Int) true
                   go_wp2_with (first | ((with_reducible refine gate_store (t := 4) (p := 40) rfl ?_); refine store_event (t := 4) (p := 40) (v := ?vo_w31) (w1 := (wr.setCell ⟨go8, ((rd t257 x34_2) : Int).toNat, none⟩ (.bool true))) ?hg ?ho ?hn ?hr ?_; (case ho => rfl); (case hg => rfl); (case hn => rfl); (case hr => first | (go_simp; done) | (go_simp; rfl)); intro w31 hw; have hg : wr.grownBy w31 (some go8) := (by rw [hw]; exact HP30.2); have hp_ : Kd.R Kd.bool 4 w31 w.heap.size (fun _ => True) (.slice (some ⟨go8, 0, none⟩) x5_2.length a6) y261 := (by rw [hw, af.out]; exact HP30.1); clear HP30; have n0_ := Aside0.mk (hp_); have n1_ := Aside0.mk (Kd.R_over' (v := (.slice (some ⟨go8, 0, none⟩) x5_2.length a6)) a2.out (Kd.R_typed a0.out) (by decide) hg); have n2_ := Aside0.mk (Kd.R_over' (v := (.slice (some ⟨go8, 0, none⟩) x5_2.length a6)) a5.out (Kd.R_typed a0.out) (by decide) hg); have n3_ := Aside0.mk ((by rw [hw]; exact lS1_ (HB.out) ak.out : Below w.heap.size w w31)); clear a0 a2 a5 HB; have a0 := n0_; have a2 := n1_; have a5 := n2_; have HB := n3_; clear n0_ n1_ n2_ n3_ hg hw hp_))
                   (try simp only [← hl5_2])
                   go_roundg k2
                   case measure => have := HK1.out; have := HK2.out; omega
                   case rel => exact ⟨(y261), (wrap64 (x34_2 + 1)), (by first | rfl | (simp; done) | (simp [*]; done)), H', ⟨by have := HK1.out; have := HK2.out; omega⟩, ⟨by (try simp only [hl5_1]); (try simp only [hl5_2]); (with_reducible repeat first | apply rA_ | apply rN_ | apply rD_); exact a0.out⟩, ⟨by (try simp only [hl5_1]); (try simp only [hl5_2]); (with_reducible repeat first | apply rA_ | apply rN_ | apply rD_); exact a2.out⟩, ⟨by (try simp only [hl5_1]); (try simp only [hl5_2]); (with_reducible repeat first | apply rA_ | apply rN_ | apply rD_); exact a5.out⟩, ⟨by repeat (first | (with_reducible first | exact HB.out | apply lA1_ | apply lN_ | apply lD_) | exact HB.out)⟩⟩
                  ·rw [if_neg c28] at H
                   exact absurd H (by simp)
                 ·rw [if_neg c27] at H
                  exact absurd H (by simp)
                ·rw [if_neg c26] at H
                 exact absurd H (by simp)
               ·rw [if_neg c25] at H
                exact absurd H (by simp)
              ·rw [if_neg c24] at H
               have c24b0 : decide (x34_2 < (t257.length : Int)) = false := decide_eq_false c24
               clear c24
               have H' := Aside0.mk H
               clear H
               go_wp2
               (try simp only [← hl5_1, ← hl5_2])
               go_roundg k2
               case measure => have := HK1.out; have := HK2.out; omega
               case rel => exact ⟨(x5_2), (wrap64 (x7_1 - 1)), (by first | rfl | (simp; done) | (simp [*]; done)), H', ⟨by have := HK1.out; have := HK2.out; omega⟩, ⟨by (try simp only [hl5_1]); (try simp only [hl5_2]); (with_reducible repeat first | apply rA_ | apply rN_ | apply rD_); exact a0.out⟩, ⟨by (try simp only [hl5_1]); (try simp only [hl5_2]); (with_reducible repeat first | apply rA_ | apply rN_ | apply rD_); exact Kd.R_mono a2.out (fun _ hk => trivial)⟩, ⟨by repeat (first | (with_reducible first | exact HB.out | apply lA1_ | apply lN_ | apply lD_) | exact HB.out)⟩⟩
           ·rw [if_neg c20] at H
            exact absurd H (by simp)
          ·replace c19 := Bool.eq_false_iff.mpr c19
           subst c19
           rw [if_neg (show ¬ (false = true) by decide)] at H
           have H' := Aside0.mk H
           clear H
           have p255 : 0 ≤ (x7_1 : Int) := of_decide_eq_true (by first | (with_reducible assumption) | assumption)
           have q255 : x7_1 < (x5_1.length : Int) := of_decide_eq_true (by first | (with_reducible assumption) | assumption)
           obtain ⟨ad255, e255, hx255_0⟩ := Kd.at_bool (Kd.R_reads' a0.out).2.2 x7_1 p255 q255
           (try rw [← Nbq18.out] at hx255_0)
           obtain rfl : (⟨go8, 0, none⟩ : Addr) = ad255 := (by injection e255)
           (first | simp only [add_plain] at hx255_0 | simp only [add_at] at hx255_0 | simp only [Addr.add, Nat.zero_add] at hx255_0 | skip)
           replace p255 := eq_true p255
           replace q255 := eq_true q255
           go_wp2
           (try simp only [← hl5_1])
           go_roundg k1
           case measure => have := HK1.out; omega
           case rel => exact ⟨(x5_1), (wrap64 (x7_1 - 1)), (by first | rfl | (simp; done) | (simp [*]; done)), H', ⟨by have := HK1.out; omega⟩, ⟨by (try simp only [hl5_1]); (with_reducible repeat first | apply rA_ | apply rN_ | apply rD_); exact a0.out⟩, ⟨by (try simp only [hl5_1]); (with_reducible repeat first | apply rA_ | apply rN_ | apply rD_); exact a2.out⟩, ⟨by repeat (first | (with_reducible first | exact HB.out | apply lA1_ | apply lN_ | apply lD_) | exact HB.out)⟩⟩
         ·rw [if_neg c17] at H
          exact absurd H (by simp)
        ·rw [if_neg c16] at H
         exact absurd H (by simp)
       ·rw [if_neg c15] at H
        have c15b0 : decide (0 ≤ x7_1) = false := decide_eq_false c15
        clear c15
        have H' := Aside0.mk H
        clear H
        go_wp2
        go_loopg [6, 44] k1 (fun kq v6 v44 w' => ∃ (x6_2 : List Int) (x44_2 : Int), v44 = .int .i64 x44_2 ∧ Aside0 (impl_partsOf.l2 kq x6_2 x5_1 (x5_1.length : Int) x44_2 = some r) ∧ Aside0 (kq ≤ k1) ∧ Aside0 (Kd.R (Kd.int .i64) 2 w' w.heap.size (fun _ => True) v6 x6_2) ∧ Aside0 (Kd.R Kd.bool 4 w' w.heap.size (fun _ => True) (.slice (some ⟨go8, 0, none⟩) x5_1.length a6) x5_1) ∧ Aside0 (Below w.heap.size w w'))
        case atStart => exact ⟨(y251), (0), (by first | rfl | (simp; done) | (simp [*]; done)), H', ⟨Nat.le_refl _⟩, ⟨by (try simp only [hl5_1]); (with_reducible repeat first | apply rA_ | apply rN_ | apply rD_); exact a2.out⟩, ⟨by (try simp only [hl5_1]); (with_reducible repeat first | apply rA_ | apply rN_ | apply rD_); exact a0.out⟩, ⟨by repeat (first | (with_reducible first | exact HB.out | apply lA1_ | apply lN_ | apply lD_) | exact HB.out)⟩⟩
        case round =>
         clear H'
         try clear c1
         try clear q1
         try clear c2
         try clear p2
         try clear q2
         try clear hx2
         try clear hf2
         try clear c3
         try clear c4
         try clear c4b0
         try clear c4b1
         try clear c5
         try clear c5b0
         try clear c5b1
         try clear c6
         try clear c6b0
         try clear p6
         try clear c7
         try clear c7b0
         try clear p8
         try clear q8
         try clear hx8
         try clear hf8
         try clear c15
         try clear c15b0
         try clear c16
         try clear c16b0
         try clear c17
         try clear c17b0
         try clear q18
         try clear c19
         try clear c20
         try clear c20b0
         try clear c21
         try clear c24
         try clear c24b0
         try clear c25
         try clear c25b0
         try clear p25
         try clear q25
         try clear hx25
         try clear c26
         try clear c26b0
         try clear p26
         try clear q26
         try clear hx26
         try clear c27
         try clear c27b0
         try clear c28
         try clear c28b0
         try clear p29
         try clear q29
         try clear hx29
         try clear hf29
         try clear hx255_0
         try clear hx256_0
         try clear hx256_1
         try clear hx256_2
         try clear hx256_3
         try clear hx260_0
         try clear hx29_0
         try clear hx8_0
         try clear p2
         try clear p255
         try clear p256
         try clear p260
         try clear p29
         try clear p6
         try clear p8
         try clear q1
         try clear q18
         try clear q2
         try clear q255
         try clear q256
         try clear q260
         try clear q29
         try clear q8
         obtain ⟨x6_2, x44_2, rfl, HA, HK2, a2, a4, HB⟩ := hrel
         cases gk with
         | zero => exact absurd HA.out (by simp [impl_partsOf.l2])
         | succ k2 =>
          have H := HA.out
          clear HA
          simp only [impl_partsOf.l2] at H
          by_cases c32 : x44_2 < (x5_1.length : Int)
          ·rw [if_pos c32] at H
           have c32b0 : decide (x44_2 < (x5_1.length : Int)) = true := decide_eq_true c32
           clear c32
           by_cases c33 : 0 ≤ x44_2
           ·rw [if_pos c33] at H
            have c33b0 : decide (0 ≤ x44_2) = true := decide_eq_true c33
            clear c33
            by_cases c34 : x44_2 < (x5_1.length : Int)
            ·rw [if_pos c34] at H
             have c34b0 : decide (x44_2 < (x5_1.length : Int)) = true := decide_eq_true c34
             clear c34
             obtain ⟨bq35, hbq35⟩ : ∃ b_ : Bool, b_ = (rdOf false x5_1 x44_2) := ⟨_, rfl⟩
             replace H : (if bq35 = true then (if x6_2.length < 17592186044416 then (impl_partsOf.l2 k2 (x6_2 ++ [x44_2]) x5_1 (x5_1.length : Int) (wrap64 (x44_2 + 1))) else (none)) else (impl_partsOf.l2 k2 x6_2 x5_1 (x5_1.length : Int) (wrap64 (x44_2 + 1)))) = some r := by rw [← hbq35] at H; exact H
             have Nbq35 := Aside0.mk hbq35
             clear hbq35
             by_cases c36 : bq35 = true
             ·subst c36
              rw [if_pos rfl] at H
              by_cases c37 : x6_2.length < 17592186044416
              ·rw [if_pos c37] at H
               have ag := Aside0.mk c37
               clear c37
               obtain ⟨y263, hy263⟩ : ∃ y_ : List Int, y_ = (x6_2 ++ [x44_2]) := ⟨_, rfl⟩
               replace H : (impl_partsOf.l2 k2 y263 x5_1 (x5_1.length : Int) (wrap64 (x44_2 + 1))) = some r := by first | (rw [hy263]; with_reducible exact H) | (have H2_ := (Option.bind_some _ _).symm.trans H; rw [hy263]; with_reducible exact H2_) | (have H2_ := (Option.bind_some _ _).symm.trans H; with_reducible exact H2_) | with_reducible exact H | (rw [hy263]; exact H) | exact H
               have ah := Aside0.mk hy263
               clear hy263
               have H' := Aside0.mk H
               clear H
               have p262 : 0 ≤ (x44_2 : Int) := of_decide_eq_true (by first | (with_reducible assumption) | assumption)
               have q262 : x44_2 < (x5_1.length : Int) := of_decide_eq_true (by first | (with_reducible assumption) | assumption)
               obtain ⟨ad262, e262, hx262_0⟩ := Kd.at_bool (Kd.R_reads' a4.out).2.2 x44_2 p262 q262
               (try rw [← Nbq35.out] at hx262_0)
               obtain rfl : (⟨go8, 0, none⟩ : Addr) = ad262 := (by injection e262)
               (first | simp only [add_plain] at hx262_0 | simp only [add_at] at hx262_0 | simp only [Addr.add, Nat.zero_add] at hx262_0 | skip)
               replace p262 := eq_true p262
               replace q262 := eq_true q262
               go_wp2_with (first | ((with_reducible refine gate_builtin (b := .append) (xs := #[.tmp 50, .tmp 52]) rfl ?_); at_builtin; refine Kd.R_append (Kd.int .i64) (w0 := w) w.heap.size rfl (.tmp 50) (.tmp 52) 44 2 (.int .i64 0) 8 rfl Try.underlying44 info2 rfl (by decide) (by omega) u6 x6_2 x44_2 [.int .i64 x44_2] (fun _ => True) (fun _ => False) rfl rfl ?aP (fun _ hk => hk.elim) ?aF ?aO ?aB ?aS ?aL ?_; (case aP => exact rfl); (case aB => exact HB.out); (case aF => exact (fun _ _ => trivial)); (case aO => exact a2.out); (case aS => exact (below_size HB.out)); (case aL => have := ag.out; omega); intro v264 w38 ho hb hg hat; rw [← ah.out] at ho; have n0_ := Aside0.mk (Kd.R_over' a4.out (Kd.R_typed a2.out) (by decide) hg); have n1_ := Aside0.mk (hb); have n2_ := Aside0.mk (ho); clear a4 HB a2; have a4 := n0_; have HB := n1_; have ai := n2_; clear n0_ n1_ n2_ ho hb hg hat))
               go_roundg k2
               case measure => have := HK1.out; have := HK2.out; omega
               case rel => exact ⟨(y263), (wrap64 (x44_2 + 1)), (by first | rfl | (simp; done) | (simp [*]; done)), H', ⟨by have := HK1.out; have := HK2.out; omega⟩, ⟨by (try simp only [hl5_1]); (with_reducible repeat first | apply rA_ | apply rN_ | apply rD_); exact ai.out⟩, ⟨by (try simp only [hl5_1]); (with_reducible repeat first | apply rA_ | apply rN_ | apply rD_); exact a4.out⟩, ⟨by repeat (first | (with_reducible first | exact HB.out | apply lA1_ | apply lN_ | apply lD_) | exact HB.out)⟩⟩
              ·rw [if_neg c37] at H
               exact absurd H (by simp)
             ·replace c36 := Bool.eq_false_iff.mpr c36
              subst c36
              rw [if_neg (show ¬ (false = true) by decide)] at H
              have H' := Aside0.mk H
              clear H
              have p262 : 0 ≤ (x44_2 : Int) := of_decide_eq_true (by first | (with_reducible assumption) | assumption)
              have q262 : x44_2 < (x5_1.length : Int) := of_decide_eq_true (by first | (with_reducible assumption) | assumption)
              obtain ⟨ad262, e262, hx262_0⟩ := Kd.at_bool (Kd.R_reads' a4.out).2.2 x44_2 p262 q262
              (try rw [← Nbq35.out] at hx262_0)
              obtain rfl : (⟨go8, 0, none⟩ : Addr) = ad262 := (by injection e262)
              (first | simp only [add_plain] at hx262_0 | simp only [add_at] at hx262_0 | simp only [Addr.add, Nat.zero_add] at hx262_0 | skip)
              replace p262 := eq_true p262
              replace q262 := eq_true q262
              go_wp2
              go_roundg k2
              case measure => have := HK1.out; have := HK2.out; omega
              case rel => exact ⟨(x6_2), (wrap64 (x44_2 + 1)), (by first | rfl | (simp; done) | (simp [*]; done)), H', ⟨by have := HK1.out; have := HK2.out; omega⟩, ⟨by (try simp only [hl5_1]); (with_reducible repeat first | apply rA_ | apply rN_ | apply rD_); exact a2.out⟩, ⟨by (try simp only [hl5_1]); (with_reducible repeat first | apply rA_ | apply rN_ | apply rD_); exact a4.out⟩, ⟨by repeat (first | (with_reducible first | exact HB.out | apply lA1_ | apply lN_ | apply lD_) | exact HB.out)⟩⟩
            ·rw [if_neg c34] at H
             exact absurd H (by simp)
           ·rw [if_neg c33] at H
            exact absurd H (by simp)
          ·rw [if_neg c32] at H
           have c32b0 : decide (x44_2 < (x5_1.length : Int)) = false := decide_eq_false c32
           clear c32
           obtain rfl := Option.some.inj H
           go_wp2
           go_ret
           exact ⟨_, by first | rfl | (simp [errW_none, errW_some] <;> rfl) | (simp only [← hji3]; first | rfl | (simp [errW_none, errW_some] <;> rfl)) | (simp [*, errW_none, errW_some] <;> rfl), by (with_reducible repeat first | apply rA_ | apply rN_ | apply rD_); exact a2.out, by repeat (first | (with_reducible first | exact HB.out | apply lA1_ | apply lN_ | apply lD_) | exact HB.out)⟩
    ·rw [if_neg c7] at H
     exact absurd H (by simp)
   ·rw [if_neg c6] at H
    exact absurd H (by simp)
  ·rw [if_neg c5] at H
   exact absurd H (by simp)
 ·rw [if_neg c4] at H
  exact absurd H (by simp)
end Go.Proofs.Ytpagejjjfpkmcaa.G
namespace Go.Proofs.Ytpagejjjfpkmcaa.G
open Go.RowKit Go.Proofs.YtpagejjjfpkmcaaW.PrintWords Go.Proofs.YtpagejjjfpkmcaaW.PrintLast Go.Proofs.YtpagejjjfpkmcaaW.PrintMore
attribute [local go_sem] max2_int min2_int max_two min_two max_three min_three max_four min_four   -- for this text's walks alone
set_option linter.unusedVariables false
set_option linter.unusedSimpArgs false
attribute [local go_sem high] eqA37
def impl_Term_40.l0 : Nat → List (S37) → Int → Int → Int → Int → Int → Int → Option (Int)
 | 0, _, _, _, _, _, _, _ => none
 | k + 1, x0, x7, x8, x267000, x267001, x267002, x267003 => if x8 < x7 then (if 0 ≤ x8 then (if x8 < (x0.length : Int) then (if (x267000 == ((rd_T37 x0 x8).f0) && (x267001 == ((rd_T37 x0 x8).f1) && (x267002 == ((rd_T37 x0 x8).f2) && (x267003 == ((rd_T37 x0 x8).f3))))) = true then (some x8) else (impl_Term_40.l0 k x0 x7 (wrap64 (x8 + 1)) x267000 x267001 x267002 x267003)) else (none)) else (none)) else (some (-1))
def impl_Term_40.f (k : Nat) (l0 : List (S37)) (a1_0 : Int) (a1_1 : Int) (a1_2 : Int) (a1_3 : Int) : Option (Int) := impl_Term_40.l0 k l0 (l0.length : Int) 0 a1_0 a1_1 a1_2 a1_3
set_option maxHeartbeats 8000000 in
set_option maxRecDepth 100000 in
theorem impl_Term_40.calls (k : Nat) (A0 : Option Addr) (c0 : Nat) (l0 : List (S37)) (a1_0 : Int) (a1_1 : Int) (a1_2 : Int) (a1_3 : Int) (r : Int) (w : World) (hr0 : Kd.C k37 w A0 l0.length l0) (hc0 : l0.length ≤ c0) (h : impl_Term_40.f k l0 a1_0 a1_1 a1_2 a1_3 = some r) :
  Calls Try.prog 40 #[.slice A0 l0.length c0, .agg #[.int .i64 a1_0, .int .i64 a1_1, .int .i64 a1_2, .int .i64 a1_3]] w fun e w' => e = .returned (.int .i64 r) ∧ Below w.heap.size w w' := by
 have hu37 := Try.underlying37
 have a4 := Aside0.mk hr0
 have a5 := Aside0.mk hc0
 clear hr0 hc0
 have HB := Aside0.mk (Below.refl w.heap.size w)
 have H : (impl_Term_40.l0 k l0 (l0.length : Int) 0 a1_0 a1_1 a1_2 a1_3) = some r := h
 clear h
 have H' := Aside0.mk H
 clear H
 go_enter Try.func40, Try.ntmps40
 go_wp2_with (first | ((with_reducible refine gate_dst (N := 3) rfl ?_); refine box_event ?hg (N := 3) ?hd (cs := #[.int .i64 a1_0, .int .i64 a1_1, .int .i64 a1_2, .int .i64 a1_3]) (t := 37) ?hr ?_; (case hd => rfl); (case hg => rfl); (case hr => first | (go_simp; done) | (go_simp; rfl)); intro a0 hg w3 hbox hb; have n0_ := Aside0.mk (lP_ HB.out hb); have n1_ := Aside0.mk (hbox); have n2_ := Aside0.mk ((by rw [hg]; exact (below_size HB.out) : w.heap.size ≤ a0)); have n3_ := n2_; clear HB; have HB := n0_; have a1 := n1_; have a3 := n2_; have a2 := n3_; clear n0_ n1_ n2_ n3_ hb hbox hg))
 repeat (go_quiet (first | ((with_reducible refine gate_dst (N := 3) rfl ?_); refine box_event ?hg (N := 3) ?hd (cs := #[.int .i64 a1_0, .int .i64 a1_1, .int .i64 a1_2, .int .i64 a1_3]) (t := 37) ?hr ?_; (case hd => rfl); (case hg => rfl); (case hr => first | (go_simp; done) | (go_simp; rfl)); intro a0 hg w3 hbox hb; have n0_ := Aside0.mk (lP_ (by repeat (first | (with_reducible first | exact HB.out | apply lA1_ | apply lN_ | apply lD_) | exact HB.out)) hb); have n1_ := Aside0.mk (hbox); have n2_ := Aside0.mk ((by rw [hg]; exact (below_size (by repeat (first | (with_reducible first | exact HB.out | apply lA1_ | apply lN_ | apply lD_) | exact HB.out))) : w.heap.size ≤ a0)); have n3_ := Aside0.mk ((by rw [hg]; exact (below_size (by repeat (first | (with_reducible first | exact HB.out | apply lA1_ | apply lN_ | apply lD_) | exact HB.out))) : w.heap.size ≤ a0)); clear HB; have HB := n0_; have a1 := n1_; have a3 := n2_; have a2 := n3_; clear n0_ n1_ n2_ n3_ hb hbox hg)); try go_wp2_with (first | ((with_reducible refine gate_dst (N := 3) rfl ?_); refine box_event ?hg (N := 3) ?hd (cs := #[.int .i64 a1_0, .int .i64 a1_1, .int .i64 a1_2, .int .i64 a1_3]) (t := 37) ?hr ?_; (case hd => rfl); (case hg => rfl); (case hr => first | (go_simp; done) | (go_simp; rfl)); intro a0 hg w3 hbox hb; have n0_ := Aside0.mk (lP_ HB.out hb); have n1_ := Aside0.mk (hbox); have n3_ := Aside0.mk ((by rw [hg]; exact (below_size HB.out) : w.heap.size ≤ a0)); clear HB; have HB := n0_; have a1 := n1_; have a2 := n3_; clear n0_ n1_ n3_ hb hbox hg)))
 go_loopg [8] k (fun kq v8 w' => ∃ (x8_1 : Int), v8 = .int .i64 x8_1 ∧ Aside0 (impl_Term_40.l0 kq l0 (l0.length : Int) x8_1 a1_0 a1_1 a1_2 a1_3 = some r) ∧ Aside0 (kq ≤ k) ∧ Aside0 (w'.heap[a0]? = some (.cells #[.int .i64 a1_0, .int .i64 a1_1, .int .i64 a1_2, .int .i64 a1_3] 37 (0, 0))) ∧ Aside0 (Below w.heap.size w w'))
 case atStart => exact ⟨(0), (by first | rfl | (simp; done) | (simp [*]; done)), H', ⟨Nat.le_refl _⟩, ⟨by (with_reducible repeat first | apply bN_ | apply bD_ | apply bA_); exact a1.out⟩, ⟨by repeat (first | (with_reducible first | exact HB.out | apply lA1_ | apply lN_ | apply lD_ | refine lS1_ ?_ a2.out) | exact HB.out)⟩⟩
 case round =>
  clear H'
  try clear p2
  obtain ⟨x8_1, rfl, HA, HK1, a1, HB⟩ := hrel
  cases gk with
  | zero => exact absurd HA.out (by simp [impl_Term_40.l0])
  | succ k1 =>
   have H := HA.out
   clear HA
   simp only [impl_Term_40.l0] at H
   by_cases c4 : x8_1 < (l0.length : Int)
   ·rw [if_pos c4] at H
    have c4b0 : decide (x8_1 < (l0.length : Int)) = true := decide_eq_true c4
    clear c4
    by_cases c5 : 0 ≤ x8_1
    ·rw [if_pos c5] at H
     have c5b0 : decide (0 ≤ x8_1) = true := decide_eq_true c5
     clear c5
     by_cases c6 : x8_1 < (l0.length : Int)
     ·rw [if_pos c6] at H
      have c6b0 : decide (x8_1 < (l0.length : Int)) = true := decide_eq_true c6
      clear c6
      by_cases c7 : (a1_0 == ((rd_T37 l0 x8_1).f0) && (a1_1 == ((rd_T37 l0 x8_1).f1) && (a1_2 == ((rd_T37 l0 x8_1).f2) && (a1_3 == ((rd_T37 l0 x8_1).f3))))) = true
      ·rw [if_pos c7] at H
       have c7b0 : (a1_0 == ((rd_T37 l0 x8_1).f0) && (a1_1 == ((rd_T37 l0 x8_1).f1) && (a1_2 == ((rd_T37 l0 x8_1).f2) && (a1_3 == ((rd_T37 l0 x8_1).f3))))) = true := c7
       (try (have c7b1 : decide (a1_0 = ((rd_T37 l0 x8_1).f0) && (a1_1 == ((rd_T37 l0 x8_1).f1) && (a1_2 == ((rd_T37 l0 x8_1).f2) && (a1_3 == ((rd_T37 l0 x8_1).f3))))) = true := by simpa using c7))
       (try (have c7b2 : (a1_0 == ((rd_T37 l0 x8_1).f0) && (a1_1 == ((rd_T37 l0 x8_1).f1) && (a1_2 == ((rd_T37 l0 x8_1).f2) && (a1_3 == ((rd_T37 l0 x8_1).f3))))) = true := by simpa using c7))
       clear c7
       obtain rfl := Option.some.inj H
       obtain ⟨_, _, _, _, _, _, _, _⟩ := bc4 a1.out
       have p267 : 0 ≤ (x8_1 : Int) := of_decide_eq_true (by first | (with_reducible assumption) | assumption)
       have q267 : x8_1 < (l0.length : Int) := of_decide_eq_true (by first | (with_reducible assumption) | assumption)
       obtain ⟨ad267, e267, hx267_0, hx267_1, hx267_2, hx267_3⟩ := at_T37 a4.out x8_1 p267 q267
       cases e267
       replace hx267_0 := (HB.out.cell (World.block_lt_of_cell? w _ hx267_0)).trans hx267_0
       replace hx267_1 := (HB.out.cell (World.block_lt_of_cell? w _ hx267_1)).trans hx267_1
       replace hx267_2 := (HB.out.cell (World.block_lt_of_cell? w _ hx267_2)).trans hx267_2
       replace hx267_3 := (HB.out.cell (World.block_lt_of_cell? w _ hx267_3)).trans hx267_3
       replace p267 := eq_true p267
       replace q267 := eq_true q267
       go_wp2
       repeat (go_quiet (fail); try go_wp2)
       go_ret
       exact ⟨by first | rfl | (simp [errW_none, errW_some] <;> rfl) | (simp [*, errW_none, errW_some] <;> rfl), by repeat (first | (with_reducible first | exact HB.out | apply lA1_ | apply lN_ | apply lD_ | refine lS1_ ?_ a2.out) | exact HB.out)⟩
      ·rw [if_neg c7] at H
       have c7b0 : (a1_0 == ((rd_T37 l0 x8_1).f0) && (a1_1 == ((rd_T37 l0 x8_1).f1) && (a1_2 == ((rd_T37 l0 x8_1).f2) && (a1_3 == ((rd_T37 l0 x8_1).f3))))) = false := by simpa using c7
       (try (have c7b1 : decide (a1_0 = ((rd_T37 l0 x8_1).f0) && (a1_1 == ((rd_T37 l0 x8_1).f1) && (a1_2 == ((rd_T37 l0 x8_1).f2) && (a1_3 == ((rd_T37 l0 x8_1).f3))))) = false := by simpa using c7))
       (try (have c7b2 : (a1_0 == ((rd_T37 l0 x8_1).f0) && (a1_1 == ((rd_T37 l0 x8_1).f1) && (a1_2 == ((rd_T37 l0 x8_1).f2) && (a1_3 == ((rd_T37 l0 x8_1).f3))))) = false := by simpa using c7))
       (try (have c7b3 : ¬ (a1_0 = ((rd_T37 l0 x8_1).f0) && (a1_1 == ((rd_T37 l0 x8_1).f1) && (a1_2 == ((rd_T37 l0 x8_1).f2) && (a1_3 == ((rd_T37 l0 x8_1).f3))))) := by simpa using c7))
       clear c7
       have H' := Aside0.mk H
       clear H
       obtain ⟨_, _, _, _, _, _, _, _⟩ := bc4 a1.out
       have p267 : 0 ≤ (x8_1 : Int) := of_decide_eq_true (by first | (with_reducible assumption) | assumption)
       have q267 : x8_1 < (l0.length : Int) := of_decide_eq_true (by first | (with_reducible assumption) | assumption)
       obtain ⟨ad267, e267, hx267_0, hx267_1, hx267_2, hx267_3⟩ := at_T37 a4.out x8_1 p267 q267
       cases e267
       replace hx267_0 := (HB.out.cell (World.block_lt_of_cell? w _ hx267_0)).trans hx267_0
       replace hx267_1 := (HB.out.cell (World.block_lt_of_cell? w _ hx267_1)).trans hx267_1
       replace hx267_2 := (HB.out.cell (World.block_lt_of_cell? w _ hx267_2)).trans hx267_2
       replace hx267_3 := (HB.out.cell (World.block_lt_of_cell? w _ hx267_3)).trans hx267_3
       replace p267 := eq_true p267
       replace q267 := eq_true q267
       go_wp2
       repeat (go_quiet (fail); try go_wp2)
       go_roundg k1
       case measure => have := HK1.out; omega
       case rel => exact ⟨(wrap64 (x8_1 + 1)), (by first | rfl | (simp; done) | (simp [*]; done)), H', ⟨by have := HK1.out; omega⟩, ⟨by (with_reducible repeat first | apply bN_ | apply bD_ | apply bA_); exact a1.out⟩, ⟨by repeat (first | (with_reducible first | exact HB.out | apply lA1_ | apply lN_ | apply lD_ | refine lS1_ ?_ a2.out) | exact HB.out)⟩⟩
     ·rw [if_neg c6] at H
      exact absurd H (by simp)
    ·rw [if_neg c5] at H
     exact absurd H (by simp)
   ·rw [if_neg c4] at H
    have c4b0 : decide (x8_1 < (l0.length : Int)) = false := decide_eq_false c4
    clear c4
    obtain rfl := Option.some.inj H
    go_wp2
    repeat (go_quiet (fail); try go_wp2)
    go_ret
    exact ⟨by first | rfl | (simp [errW_none, errW_some] <;> rfl) | (simp [*, errW_none, errW_some] <;> rfl), by repeat (first | (with_reducible first | exact HB.out | apply lA1_ | apply lN_ | apply lD_ | refine lS1_ ?_ a2.out) | exact HB.out)⟩
end Go.Proofs.Ytpagejjjfpkmcaa.G
namespace Go.Proofs.Ytpagejjjfpkmcaa.G
open Go.RowKit Go.Proofs.YtpagejjjfpkmcaaW.PrintWords Go.Proofs.YtpagejjjfpkmcaaW.PrintLast Go.Proofs.YtpagejjjfpkmcaaW.PrintMore
attribute [local go_sem] max2_int min2_int max_two min_two max_three min_three max_four min_four   -- for this text's walks alone
set_option linter.unusedVariables false
set_option linter.unusedSimpArgs false
def putP (l : List S37) (full : Bool) (t : S37) (i : Int) : Int × List S37 × Bool := if 0 ≤ i then (i, l, full) else if 400 ≤ l.length then (0, l, true) else if full = true then (0, l, true) else ((l.length : Int), l ++ [t], false)
def SheetV (W : World) (N S : Nat) (v : Value) (l : List S37) (full : Bool) : Prop := W.heap[S]? = some (.cells #[v, .bool full] 52 (0, 0)) ∧ N ≤ S ∧ k37.R 37 W N (fun k => k ≠ S) v l
def KeepV (w W : World) (S : Nat) (v : Value) : Prop := ∀ b, b < w.heap.size → b ≠ S → v.ownBlock ≠ some b → W.heap[b]? = w.heap[b]?
theorem keepV_below {w W W' : World} {S : Nat} {v : Value} (h : KeepV w W S v) (hs : w.heap.size ≤ W.heap.size) (hb : Below W.heap.size W W') : KeepV w W' S v := fun b h1 h2 h3 => (hb.block b (Nat.lt_of_lt_of_le h1 hs)).trans (h b h1 h2 h3)
theorem keepV_drew {w W : World} {S : Nat} {v : Value} (h : KeepV w W S v) : KeepV w W.drew S v := h
theorem keepV_set {w W : World} {S : Nat} {v : Value} (h : KeepV w W S v) (j : Nat) (u : Value) : KeepV w (W.setCell ⟨S, j, none⟩ u) S v := fun b h1 h2 h3 => (Below.heap_setCell W ⟨S, j, none⟩ u b h2).trans (h b h1 h2 h3)
theorem keepV_grown {w W W' : World} {S : Nat} {v : Value} (h : KeepV w W S v) (hs : w.heap.size ≤ W.heap.size) (hg : W.grownBy W' v.ownBlock) : KeepV w W' S v := fun b h1 h2 h3 => (hg.block b (Nat.lt_of_lt_of_le h1 hs) (fun e => h3 e.symm)).trans (h b h1 h2 h3)
set_option maxHeartbeats 8000000 in
set_option maxRecDepth 100000 in
theorem impl_sheet_put.callsV (k : Nat) (S N : Nat) (v : Value) (l : List S37) (full : Bool) (t0 t1 t2 t3 i : Int) (w : World) (hS : SheetV w N S v l full) (hN : N ≤ w.heap.size) (hi : impl_Term_40.f k l t0 t1 t2 t3 = some i) :
    Calls Try.prog 24 #[.pointer (some ⟨S, 0, none⟩), .agg #[.int .i64 t0, .int .i64 t1, .int .i64 t2, .int .i64 t3]] w fun e w' => e = .returned (.int .i64 (putP l full ⟨t0, t1, t2, t3⟩ i).1) ∧ (∃ v', SheetV w' N S v' (putP l full ⟨t0, t1, t2, t3⟩ i).2.1 (putP l full ⟨t0, t1, t2, t3⟩ i).2.2 ∧ ∀ k, v'.ownBlock = some k → v.ownBlock = some k ∨ w.heap.size ≤ k) ∧ KeepV w w' S v ∧ Below N w w' := by
  obtain ⟨hb, hns, hr⟩ := hS
  obtain ⟨A, c, rfl⟩ := Kd.R_slice hr
  have BS := Aside0.mk hb
  have HNS := Aside0.mk hns
  have HO := Aside0.mk hr
  have HN := Aside0.mk hN
  have HI := Aside0.mk hi
  have HB := Aside0.mk (Below.refl N w)
  have HV : Aside0 (KeepV w w S (.slice A l.length c)) := Aside0.mk (fun _ _ _ _ => rfl)
  clear hb hns hr hN hi
  go_enter Try.func24, Try.ntmps24
  go_wp2_with (first | ((with_reducible refine gate_dst (N := 3) rfl ?_); refine box_event ?hg (N := 3) ?hd (cs := #[.int .i64 t0, .int .i64 t1, .int .i64 t2, .int .i64 t3]) (t := 37) ?hr ?_; (case hd => rfl); (case hg => rfl); (case hr => first | (go_simp; done) | (go_simp; rfl)); intro g3 hg w2 hbox hb; have n0_ := Aside0.mk (below_stepN HB.out (Nat.le_trans HN.out HB.out.size) hb); have n1_ := Aside0.mk hbox; have n2_ := Aside0.mk (blk_below BS.out hb); have n3_ := Aside0.mk (Kd.R_below HO.out hb); have n4_ := Aside0.mk (show S ≠ g3 by rw [hg]; exact Nat.ne_of_lt (blk_lt BS.out)); have n5_ := Aside0.mk (show N ≤ g3 by rw [hg]; exact Nat.le_trans HN.out HB.out.size); have n6_ := Aside0.mk (show ∀ k, (.slice A l.length c : Value).ownBlock = some k → k ≠ g3 from fun k hk => by obtain ⟨_, hi⟩ := Kd.R_own HO.out; rw [hg]; exact Nat.ne_of_lt (own_lt hi k hk)); have v0_ := Aside0.mk (keepV_below HV.out HB.out.size hb); clear HB BS HO HV; have HV := v0_; clear v0_; have HB := n0_; have B3 := n1_; have BS := n2_; have HO := n3_; have NE3 := n4_; have GE3 := n5_; have OW3 := n6_; clear n0_ n1_ n2_ n3_ n4_ n5_ n6_ hb hbox hg))
  have n0_ := Aside0.mk (blk_drew BS.out)
  have n1_ := Aside0.mk (blk_drew B3.out)
  have n2_ := Aside0.mk (HB.out.drew)
  have n3_ := Aside0.mk (Kd.R_drew HO.out)
  clear BS B3 HB HO
  have v0_ := Aside0.mk (keepV_drew HV.out)
  clear HV
  have HV := v0_
  clear v0_
  have BS := n0_; have B3 := n1_; have HB := n2_; have HO := n3_
  clear n0_ n1_ n2_ n3_
  refine start_ (n := 7) (S := fun w' => w'.cell? ⟨S, 0, none⟩ = some (.slice A l.length c) ∧ w'.cell? ⟨g3, 0, none⟩ = some (.int .i64 t0) ∧ w'.cell? ⟨g3, 1, none⟩ = some (.int .i64 t1) ∧ w'.cell? ⟨g3, 2, none⟩ = some (.int .i64 t2) ∧ w'.cell? ⟨g3, 3, none⟩ = some (.int .i64 t3)) (ds := []) #[false, false, false, false, false, false, false] (by kernel_rfl) rfl rfl ⟨(blk_cell BS.out 0).trans rfl, (blk_cell B3.out 0).trans rfl, (blk_cell B3.out 1).trans rfl, (blk_cell B3.out 2).trans rfl, (blk_cell B3.out 3).trans rfl⟩ (fun hHeld => ?_)
  generalize w2.drew = w3 at BS B3 HB HO HV hHeld ⊢
  refine pure_ (i := 0) (N := some 6) (v := ?_) (a' := ?_) #[true, false, false, false, false, false, false] rfl rfl (by kernel_rfl) (fun _ _ _ h => h) (Or.inl ⟨by rfl, ?_⟩) ?_ ?_
  rotate_left
  · intro w'
    go_simp
    with_reducible rfl
  rotate_left
  · simp only [Act.put, lA_, lZ_, lS_, i64_w, i32_w]
    rfl
  refine pure_ (i := 1) (N := some 7) (v := ?_) (a' := ?_) #[true, true, false, false, false, false, false] rfl rfl (by kernel_rfl) (fun _ _ _ h => h) (Or.inl ⟨by rfl, ?_⟩) ?_ ?_
  rotate_left
  · intro w'
    go_simp
    with_reducible rfl
  rotate_left
  · simp only [Act.put, lA_, lZ_, lS_, i64_w, i32_w]
    rfl
  refine pure_ (i := 2) (N := some 8) (v := ?_) (a' := ?_) #[true, true, true, false, false, false, false] rfl rfl (by kernel_rfl) (fun _ _ _ h => h) (Or.inl ⟨by rfl, ?_⟩) ?_ ?_
  rotate_left
  · intro w'
    go_simp
    with_reducible rfl
  rotate_left
  · simp only [Act.put, lA_, lZ_, lS_, i64_w, i32_w]
    rfl
  refine take_ (i := 3) (N := some 9) (v := ?_) (a' := ?_) #[true, true, true, true, false, false, false] rfl rfl (by kernel_rfl) (fun _ _ _ h => h) (Or.inl ⟨by rfl, ?_⟩) hHeld ?_ ?_
  rotate_left
  · rintro w' ⟨s0, s1, s2, s3, s4⟩
    go_simp
    with_reducible rfl
  rotate_left
  · simp only [Act.put, lA_, lZ_, lS_, i64_w, i32_w]
    rfl
  refine take_ (i := 4) (N := some 10) (v := ?_) (a' := ?_) #[true, true, true, true, true, false, false] rfl rfl (by kernel_rfl) (fun _ _ _ h => h) (Or.inl ⟨by rfl, ?_⟩) hHeld ?_ ?_
  rotate_left
  · rintro w' ⟨s0, s1, s2, s3, s4⟩
    go_simp
    with_reducible rfl
  rotate_left
  · simp only [Act.put, lA_, lZ_, lS_, i64_w, i32_w]
    rfl
  refine one_ (i := 5) (N := some 11) #[true, true, true, true, true, true, false] rfl rfl (by kernel_rfl) (by decide) (fun K hK => ?_)
  refine goes_ Try.func40 (by kernel_rfl) rfl #[.slice A l.length c, .agg #[.int .i64 t0, .int .i64 t1, .int .i64 t2, .int .i64 t3]] (by rfl) rfl rfl (by (try simp only [List.map_toArray, List.map_cons, List.map_nil]); first | done | rfl) ?_
  with_reducible refine (impl_Term_40.calls k A c l t0 t1 t2 t3 i _ (Kd.R_reads' HO.out).2.2 (Kd.R_reads' HO.out).2.1 HI.out).mono ?_
  rintro e w4 ⟨rfl, hb⟩
  refine ⟨_, rfl, ?_⟩
  have n0_ := Aside0.mk (blk_below BS.out hb)
  have n1_ := Aside0.mk (blk_below B3.out hb)
  have n2_ := Aside0.mk (below_stepN HB.out (Nat.le_trans HN.out HB.out.size) hb)
  have n3_ := Aside0.mk (Kd.R_below HO.out hb)
  have v0_ := Aside0.mk (keepV_below HV.out HB.out.size hb)
  clear BS B3 HB HO HV hb
  have HV := v0_
  clear v0_
  have BS := n0_; have B3 := n1_; have HB := n2_; have HO := n3_
  clear n0_ n1_ n2_ n3_
  refine hK.out _ _ ⟨(blk_cell BS.out 0).trans rfl, (blk_cell B3.out 0).trans rfl, (blk_cell B3.out 1).trans rfl, (blk_cell B3.out 2).trans rfl, (blk_cell B3.out 3).trans rfl⟩ (fun hHeld => ?_)
  clear hK K
  refine norm_ (a' := ?_) ?_ ?_
  rotate_left
  · show Act.put _ (some 11) _ = _
    simp only [Act.put, lA_, lZ_, lS_, i64_w, i32_w]
    rfl
  refine pure_ (i := 6) (N := some 5) (v := ?_) (a' := ?_) #[true, true, true, true, true, true, true] rfl rfl (by kernel_rfl) (fun _ _ _ h => h) (Or.inl ⟨by rfl, ?_⟩) ?_ ?_
  rotate_left
  · intro w'
    go_simp
    with_reducible rfl
  rotate_left
  · simp only [Act.put, lA_, lZ_, lS_, i64_w, i32_w]
    rfl
  refine done_ (by kernel_rfl) ?_
  by_cases h0 : 0 ≤ i
  · have h1 : decide (i ≥ 0) = true := decide_eq_true h0
    have h2 : decide (0 ≤ i) = true := decide_eq_true h0
    have HE := Aside0.mk (show putP l full (⟨t0, t1, t2, t3⟩ : S37) i = (i, l, full) by unfold putP; rw [if_pos h0])
    go_wp2
    go_ret
    rw [HE.out]
    exact ⟨rfl, ⟨_, ⟨BS.out, HNS.out, HO.out⟩, fun k hk => .inl hk⟩, HV.out, HB.out⟩
  · have h1 : decide (i ≥ 0) = false := decide_eq_false h0
    have h2 : decide (0 ≤ i) = false := decide_eq_false h0
    have p0_ : w4.cell? ⟨S, 0, none⟩ = some (.slice A l.length c) := (blk_cell BS.out 0).trans rfl; have p1_ : w4.cell? ⟨S, 1, none⟩ = some (.bool full) := (blk_cell BS.out 1).trans rfl
    have q1_ := blk_frozen BS.out 1
    by_cases h4 : 400 ≤ l.length
    · have h5 : decide ((l.length : Int) ≥ 400) = true := decide_eq_true (by omega)
      have h6 : decide ((400 : Int) ≤ (l.length : Int)) = true := decide_eq_true (by omega)
      have HE := Aside0.mk (show putP l full (⟨t0, t1, t2, t3⟩ : S37) i = (0, l, true) by unfold putP; rw [if_neg h0, if_pos h4])
      go_wp2
      go_ret
      rw [HE.out]
      exact ⟨rfl, ⟨_, ⟨blk_put BS.out 1 _ rfl, HNS.out, Kd.R_far HO.out (p := ⟨S, 1, none⟩) (fun k hk => hk) _⟩, fun k hk => .inl hk⟩, keepV_set HV.out 1 _, HB.out.setCell (p := ⟨S, 1, none⟩) HNS.out _⟩
    · have h5 : decide ((l.length : Int) ≥ 400) = false := decide_eq_false (by omega)
      have h6 : decide ((400 : Int) ≤ (l.length : Int)) = false := decide_eq_false (by omega)
      cases full with
      | true =>
        have HE := Aside0.mk (show putP l true (⟨t0, t1, t2, t3⟩ : S37) i = (0, l, true) by unfold putP; rw [if_neg h0, if_neg h4, if_pos rfl])
        go_wp2
        go_ret
        rw [HE.out]
        exact ⟨rfl, ⟨_, ⟨blk_put BS.out 1 _ rfl, HNS.out, Kd.R_far HO.out (p := ⟨S, 1, none⟩) (fun k hk => hk) _⟩, fun k hk => .inl hk⟩, keepV_set HV.out 1 _, HB.out.setCell (p := ⟨S, 1, none⟩) HNS.out _⟩
      | false =>
        have HE := Aside0.mk (show putP l false (⟨t0, t1, t2, t3⟩ : S37) i = ((l.length : Int), l ++ [(⟨t0, t1, t2, t3⟩ : S37)], false) by unfold putP; rw [if_neg h0, if_neg h4, if_neg (by decide)])
        have HLL := Aside0.mk (show l.length < 400 by omega)
        go_wp2_with fail
        clear p0_ p1_ q1_
        have n0_ := Aside0.mk (blk_drew BS.out)
        have n1_ := Aside0.mk (blk_drew B3.out)
        have n2_ := Aside0.mk (HB.out.drew)
        have n3_ := Aside0.mk (Kd.R_drew HO.out)
        clear BS B3 HB HO
        have v0_ := Aside0.mk (keepV_drew HV.out)
        clear HV
        have HV := v0_
        clear v0_
        have BS := n0_; have B3 := n1_; have HB := n2_; have HO := n3_
        clear n0_ n1_ n2_ n3_
        refine start_ (n := 11) (S := fun w' => w'.cell? ⟨S, 0, none⟩ = some (.slice A l.length c) ∧ w'.cell? ⟨g3, 0, none⟩ = some (.int .i64 t0) ∧ w'.cell? ⟨g3, 1, none⟩ = some (.int .i64 t1) ∧ w'.cell? ⟨g3, 2, none⟩ = some (.int .i64 t2) ∧ w'.cell? ⟨g3, 3, none⟩ = some (.int .i64 t3)) (ds := [10]) #[false, false, false, false, false, false, false, false, false, false, false] (by kernel_rfl) rfl rfl ⟨(blk_cell BS.out 0).trans rfl, (blk_cell B3.out 0).trans rfl, (blk_cell B3.out 1).trans rfl, (blk_cell B3.out 2).trans rfl, (blk_cell B3.out 3).trans rfl⟩ (fun hHeld => ?_)
        generalize w4.drew = w5 at BS B3 HB HO HV hHeld ⊢
        refine pure_ (i := 0) (N := some 30) (v := ?_) (a' := ?_) #[true, false, false, false, false, false, false, false, false, false, false] rfl rfl (by kernel_rfl) (fun _ _ _ h => h) (Or.inl ⟨by rfl, ?_⟩) ?_ ?_
        rotate_left
        · intro w'
          go_simp
          with_reducible rfl
        rotate_left
        · simp only [Act.put, lA_, lZ_, lS_, i64_w, i32_w]
          rfl
        refine pure_ (i := 1) (N := some 31) (v := ?_) (a' := ?_) #[true, true, false, false, false, false, false, false, false, false, false] rfl rfl (by kernel_rfl) (fun _ _ _ h => h) (Or.inl ⟨by rfl, ?_⟩) ?_ ?_
        rotate_left
        · intro w'
          go_simp
          with_reducible rfl
        rotate_left
        · simp only [Act.put, lA_, lZ_, lS_, i64_w, i32_w]
          rfl
        refine pure_ (i := 2) (N := some 32) (v := ?_) (a' := ?_) #[true, true, true, false, false, false, false, false, false, false, false] rfl rfl (by kernel_rfl) (fun _ _ _ h => h) (Or.inl ⟨by rfl, ?_⟩) ?_ ?_
        rotate_left
        · intro w'
          go_simp
          with_reducible rfl
        rotate_left
        · simp only [Act.put, lA_, lZ_, lS_, i64_w, i32_w]
          rfl
        refine pure_ (i := 3) (N := some 33) (v := ?_) (a' := ?_) #[true, true, true, true, false, false, false, false, false, false, false] rfl rfl (by kernel_rfl) (fun _ _ _ h => h) (Or.inl ⟨by rfl, ?_⟩) ?_ ?_
        rotate_left
        · intro w'
          go_simp
          with_reducible rfl
        rotate_left
        · simp only [Act.put, lA_, lZ_, lS_, i64_w, i32_w]
          rfl
        refine take_ (i := 4) (N := some 34) (v := ?_) (a' := ?_) #[true, true, true, true, true, false, false, false, false, false, false] rfl rfl (by kernel_rfl) (fun _ _ _ h => h) (Or.inl ⟨by rfl, ?_⟩) hHeld ?_ ?_
        rotate_left
        · rintro w' ⟨s0, s1, s2, s3, s4⟩
          go_simp
          with_reducible rfl
        rotate_left
        · simp only [Act.put, lA_, lZ_, lS_, i64_w, i32_w]
          rfl
        refine take_ (i := 5) (N := some 35) (v := ?_) (a' := ?_) #[true, true, true, true, true, true, false, false, false, false, false] rfl rfl (by kernel_rfl) (fun _ _ _ h => h) (Or.inl ⟨by rfl, ?_⟩) hHeld ?_ ?_
        rotate_left
        · rintro w' ⟨s0, s1, s2, s3, s4⟩
          go_simp
          with_reducible rfl
        rotate_left
        · simp only [Act.put, lA_, lZ_, lS_, i64_w, i32_w]
          rfl
        refine one_ (i := 6) (N := some 36) #[true, true, true, true, true, true, true, false, false, false, false] rfl rfl (by kernel_rfl) (by decide) (fun K hK => ?_)
        refine value_ (w1 := ?_) (v := ?_) (by rfl) rfl ?_ ?_
        rotate_left 2
        · go_simp
          constructor
          · rfl
          · rfl
        refine hK.out _ _ ⟨(blk_cell (blk_alloc BS.out _) 0).trans rfl, (blk_cell (blk_alloc B3.out _) 0).trans rfl, (blk_cell (blk_alloc B3.out _) 1).trans rfl, (blk_cell (blk_alloc B3.out _) 2).trans rfl, (blk_cell (blk_alloc B3.out _) 3).trans rfl⟩ (fun hHeld => ?_)
        clear hK K
        refine norm_ (a' := ?_) ?_ ?_
        rotate_left
        · show Act.put _ (some 36) _ = _
          simp only [Act.put, lA_, lZ_, lS_, i64_w, i32_w]
          rfl
        refine one_ (i := 7) (N := some 37) #[true, true, true, true, true, true, true, true, false, false, false] rfl rfl (by kernel_rfl) (by decide) (fun K hK => ?_)
        refine Kd.R_append_step k37 (w0 := w) N (by rfl) (.tmp 34) (.tmp 36) 24 37 (.agg #[(.int .i64 0), (.int .i64 0), (.int .i64 0), (.int .i64 0)]) 32 rfl Try.underlying24 info37 rfl (by decide) (by omega) (.slice A l.length c) l (⟨t0, t1, t2, t3⟩ : S37) [.int .i64 t0, .int .i64 t1, .int .i64 t2, .int .i64 t3] (fun k => k ≠ S) (fun _ => False) rfl rfl ?aP (fun _ hk => hk.elim) ?aF ?aO ?aB ?aS ?aL ?_
        (case aP => exact k37_mkM _ _ _ (⟨t0, t1, t2, t3⟩ : S37))
        (case aB => exact HB.out)
        (case aF => exact fun k hk => Nat.ne_of_gt (Nat.lt_of_lt_of_le (blk_lt BS.out) hk))
        (case aO => exact HO.out)
        (case aS => exact Nat.le_trans HN.out HB.out.size)
        (case aL => have := HLL.out; omega)
        intro v7 w6 ho hb hg hat
        have n0_ := Aside0.mk (blk_grown BS.out hg (fun e => (HO.out.1 S e.symm) rfl))
        have n1_ := Aside0.mk (blk_grown B3.out hg (fun e => OW3.out g3 e.symm rfl))
        have v0_ := Aside0.mk (keepV_grown HV.out HB.out.size hg)
        have HAT : Aside0 (∀ k, v7.ownBlock = some k → (.slice A l.length c : Value).ownBlock = some k ∨ w.heap.size ≤ k) := Aside0.mk (fun k hk => by
          rcases hat with e | ⟨b, e, hle⟩
          · exact .inl (e ▸ hk)
          · rw [e] at hk; injection hk with hk; rw [← hk]; exact .inr (Nat.le_trans HB.out.size hle))
        clear BS B3 HB HO HV
        have HV := v0_
        clear v0_
        have BS := n0_; have B3 := n1_; have HB := Aside0.mk hb; have HO := Aside0.mk ho
        clear n0_ n1_ ho hb hg hat
        obtain ⟨A7, c7, e7⟩ := Kd.R_slice HO.out
        rw [show (l ++ [(⟨t0, t1, t2, t3⟩ : S37)]).length = l.length + 1 by simp] at e7
        subst e7
        refine hK.out _ _ ⟨(blk_cell BS.out 0).trans rfl, (blk_cell B3.out 0).trans rfl, (blk_cell B3.out 1).trans rfl, (blk_cell B3.out 2).trans rfl, (blk_cell B3.out 3).trans rfl⟩ (fun hHeld => ?_)
        clear hK K
        refine norm_ (a' := ?_) ?_ ?_
        rotate_left
        · show Act.put _ (some 37) _ = _
          simp only [Act.put, lA_, lZ_, lS_, i64_w, i32_w]
          rfl
        refine pure_ (i := 8) (N := some 38) (v := ?_) (a' := ?_) #[true, true, true, true, true, true, true, true, true, false, false] rfl rfl (by kernel_rfl) (fun _ _ _ h => h) (Or.inl ⟨by rfl, ?_⟩) ?_ ?_
        rotate_left
        · intro w'
          go_simp
          with_reducible rfl
        rotate_left
        · simp only [Act.put, lA_, lZ_, lS_, i64_w, i32_w]
          rfl
        refine pure_ (i := 9) (N := some 39) (v := ?_) (a' := ?_) #[true, true, true, true, true, true, true, true, true, true, false] rfl rfl (by kernel_rfl) (fun _ _ _ h => h) (Or.inl ⟨by rfl, ?_⟩) ?_ ?_
        rotate_left
        · intro w'
          go_simp
          with_reducible rfl
        rotate_left
        · simp only [Act.put, lA_, lZ_, lS_, i64_w, i32_w]
          rfl
        refine last_ (i := 10) (N := none) #[true, true, true, true, true, true, true, true, true, true, true] rfl rfl (by kernel_rfl) (by decide) (fun K hK => ?_)
        have hs_ : w6.cell? ⟨S, 0, none⟩ = some (.slice A l.length c) := (blk_cell BS.out 0).trans rfl
        have hf_ := blk_frozen BS.out 0
        refine skip_ (w1 := ?_) (by rfl) rfl ?_ ?_
        rotate_left
        · go_simp
          rfl
        refine hK.out _ _ ?_
        clear hK K
        refine done_ (by kernel_rfl) ?_
        have n0_ : Aside0 ((w6.setCell ⟨S, 0, none⟩ (.slice A7 (l.length + 1) c7)).heap[S]? = some (.cells #[.slice A7 (l.length + 1) c7, .bool false] 52 (0, 0))) := Aside0.mk (blk_put BS.out 0 (.slice A7 (l.length + 1) c7) rfl)
        have n2_ := Aside0.mk (HB.out.setCell (p := ⟨S, 0, none⟩) HNS.out (.slice A7 (l.length + 1) c7))
        have n3_ := Aside0.mk (Kd.R_far HO.out (p := ⟨S, 0, none⟩) (fun k hk => hk) (.slice A7 (l.length + 1) c7))
        have v0_ := Aside0.mk (keepV_set HV.out 0 (.slice A7 (l.length + 1) c7))
        clear BS HB HO HV B3 hs_ hf_
        have HV := v0_
        clear v0_
        have BS := n0_; have HB := n2_; have HO := n3_
        clear n0_ n2_ n3_
        generalize w6.setCell ⟨S, 0, none⟩ (.slice A7 (l.length + 1) c7) = w7 at BS HB HO HV ⊢
        have p0_ : w7.cell? ⟨S, 0, none⟩ = some (.slice A7 (l.length + 1) c7) := (blk_cell BS.out 0).trans rfl
        go_wp2
        go_ret
        rw [HE.out]
        exact ⟨by simp, ⟨_, ⟨BS.out, HNS.out, HO.out⟩, HAT.out⟩, HV.out, HB.out⟩
def tix (l : List S37) (x : S37) (i : Nat) : Int :=
  match (l.drop i).findIdx? fun y => eq4 x y with
  | some j => ((i + j : Nat) : Int)
  | none => -1
theorem tix_l0 (l : List S37) (hl : l.length ≤ 400) (x : S37) (d : Nat) : ∀ (k i : Nat), i + d = l.length → d < k → impl_Term_40.l0 k l (l.length : Int) i x.f0 x.f1 x.f2 x.f3 = some (tix l x i) := by
  induction d with
  | zero =>
    intro k i hi hk
    obtain ⟨k, rfl⟩ : ∃ m, k = m + 1 := ⟨k - 1, by omega⟩
    simp only [impl_Term_40.l0]; rw [if_neg (by omega)]; unfold tix; rw [List.drop_of_length_le (by omega)]; rfl
  | succ d ih =>
    intro k i hi hk
    obtain ⟨k, rfl⟩ : ∃ m, k = m + 1 := ⟨k - 1, by omega⟩
    simp only [impl_Term_40.l0]
    have hw : wrap64 ((i : Int) + 1) = (i : Int) + 1 := by unfold wrap64; omega
    rw [if_pos (by omega), if_pos (by omega), if_pos (by omega), hw]
    have e := ih k (i + 1) (by omega) (by omega)
    have e' : impl_Term_40.l0 k l (l.length : Int) ((i : Int) + 1) x.f0 x.f1 x.f2 x.f3 = some (tix l x (i + 1)) := by simpa using e
    rw [e']
    have hd : l.drop i = rd_T37 l (i : Int) :: l.drop (i + 1) := by
      rw [List.drop_eq_getElem_cons (by omega)]
      simp [rd_T37, List.getD, List.getElem?_eq_getElem (show i < l.length by omega)]
    have sw : (x.f0 == (rd_T37 l i).f0 && (x.f1 == (rd_T37 l i).f1 && (x.f2 == (rd_T37 l i).f2 && (x.f3 == (rd_T37 l i).f3)))) = eq4 x (rd_T37 l i) := rfl
    rw [sw]
    unfold tix
    rw [hd, List.findIdx?_cons]
    cases h : eq4 x (rd_T37 l i)
    · simp only [Bool.false_eq_true, if_false]
      cases (l.drop (i + 1)).findIdx? fun y => eq4 x y with
      | none => rfl
      | some j => simp; omega
    · simp
theorem tix_f (l : List S37) (hl : l.length ≤ 400) (x : S37) : impl_Term_40.f 402 l x.f0 x.f1 x.f2 x.f3 = some (tix l x 0) := by
  have h := tix_l0 l hl x l.length 402 0 (by omega) (by omega)
  have h' : impl_Term_40.l0 402 l (l.length : Int) 0 x.f0 x.f1 x.f2 x.f3 = some (tix l x 0) := by simpa using h
  exact h'
def putT (l : List S37) (full : Bool) (t : S37) : Int × List S37 × Bool := putP l full t (tix l t 0)
theorem putT_len {l : List S37} {full : Bool} {t : S37} (hl : l.length ≤ 400) : (putT l full t).2.1.length ≤ 400 := by
  unfold putT putP
  split
  · exact hl
  · split
    · exact hl
    · split
      · exact hl
      · simp; omega
def StV (T : Nat) (W : World) (N S : Nat) (v x : Value) (l : List S37) : Prop := W.heap[S]? = some (.cells #[v, x] T (0, 0)) ∧ N ≤ S ∧ k37.R 37 W N (fun k => k ≠ S) v l
def KeepT (T N : Nat) (w W : World) : Prop := Kept w W (fun k => N ≤ k ∧ ∃ cs q, w.heap[k]? = some (.cells cs q (0, 0)) ∧ (q = T ∨ q = 37))
theorem KeepT.refl (T N : Nat) (w : World) : KeepT T N w w := Kept.refl w _
theorem KeepT.trans {T N : Nat} {a b c : World} (h : KeepT T N a b) (k : KeepT T N b c) : KeepT T N a c :=
  ⟨Nat.le_trans h.1 k.1, fun i hi hn => (k.2 i (Nat.lt_of_lt_of_le hi h.1) (fun ⟨h1, cs, q, e, hq⟩ => hn ⟨h1, cs, q, (h.2 i hi hn).symm.trans e, hq⟩)).trans (h.2 i hi hn)⟩
theorem KeepT.below {T N : Nat} {w W W' : World} (h : KeepT T N w W) (hb : Below W.heap.size W W') : KeepT T N w W' := Kept.below h hb
theorem KeepT.alloc {T N : Nat} {w W : World} (h : KeepT T N w W) (o : Obj) : KeepT T N w (W.alloc o) := h.below (below_alloc (Below.refl _ _) o)
theorem KeepT.set {T N : Nat} {w W : World} (h : KeepT T N w W) {p : Addr} (hp : w.heap.size ≤ p.block) (u : Value) : KeepT T N w (W.setCell p u) :=
  ⟨Nat.le_trans h.1 (by simp), fun i hi hn => (Below.heap_setCell W p u i (by omega)).trans (h.2 i hi hn)⟩
theorem blk_keepT {T N : Nat} {w W : World} {b q : Nat} {cs : Array Value} (hb : w.heap[b]? = some (.cells cs q (0, 0))) (h : KeepT T N w W) (h1 : q ≠ T) (h2 : q ≠ 37) : W.heap[b]? = some (.cells cs q (0, 0)) :=
  blk_kept hb h (fun ⟨_, cs', q', e, hq⟩ => by
    rw [hb] at e
    injection e with e
    injection e with _ e
    subst e
    exact hq.elim h1 h2)
theorem R_keepT {T N : Nat} {w W : World} {α : Type} {d : Kd α} {e base : Nat} {ok : Nat → Prop} {v : Value} {xs : List α} (h : d.R e w base ok v xs) (hk : KeepT T N w W) (ht : ∀ q, q ∈ e :: d.E → q ≠ T ∧ q ≠ 37) : d.R e W base ok v xs :=
  Kd.R_mono (Kd.R_kept (Kd.R_bound h) hk (fun k hk' ⟨_, cs', q', e', hq⟩ => by
    obtain ⟨_, _, _, q, hq2, cells, hc⟩ := hk'
    rw [hc] at e'
    injection e' with e'
    injection e' with _ e'
    subst e'
    exact hq.elim (ht q hq2).1 (ht q hq2).2)) (fun _ hk => hk.1)
def SE (T N S : Nat) (w0 w : World) (l : List S37) (x : Value) : Prop := (∃ v, StV T w N S v x l) ∧ KeepT T N w0 w ∧ Below N w0 w
theorem StV.size {T N S : Nat} {w : World} {v x : Value} {l : List S37} (h : StV T w N S v x l) : N ≤ w.heap.size := Nat.le_trans h.2.1 (Nat.le_of_lt (blk_lt h.1))
theorem SE.start {T N S : Nat} {w : World} {v x : Value} {l : List S37} (h : StV T w N S v x l) : SE T N S w w l x := ⟨⟨v, h⟩, KeepT.refl _ _ _, Below.refl _ _⟩
theorem SE.below {T N S : Nat} {w0 w w' : World} {x : Value} {l : List S37} (h : SE T N S w0 w l x) (hb : Below w.heap.size w w') : SE T N S w0 w' l x := by
  obtain ⟨⟨v, hv⟩, hk, hB⟩ := h
  exact ⟨⟨v, blk_below hv.1 hb, hv.2.1, Kd.R_below hv.2.2 hb⟩, hk.below hb, hB.trans (hb.mono hv.size)⟩
theorem SE.alloc {T N S : Nat} {w0 w : World} {x : Value} {l : List S37} (h : SE T N S w0 w l x) (o : Obj) : SE T N S w0 (w.alloc o) l x := h.below (below_alloc (Below.refl _ _) o)
theorem SE.size {T N S : Nat} {w0 w : World} {x : Value} {l : List S37} (h : SE T N S w0 w l x) : N ≤ w.heap.size := by
  obtain ⟨⟨v, hv⟩, _⟩ := h
  exact hv.size
theorem SE.grown {T N S : Nat} {w0 w w1 : World} {x : Value} {l : List S37} {row : Option Nat} (h : SE T N S w0 w l x) (hg : w.grownBy w1 row) (h0 : N ≤ w0.heap.size) (hr : ∀ b, row = some b → w0.heap.size ≤ b ∧ ∃ cs q, w.heap[b]? = some (.cells cs q (0, 0)) ∧ q ≠ T ∧ q ≠ 37) : SE T N S w0 w1 l x := by
  have hs := h.size
  obtain ⟨⟨v, hv⟩, hk, hB⟩ := h
  refine ⟨⟨v, blk_grown hv.1 hg (fun e => ?_), hv.2.1, Kd.R_mono (Kd.R_grown (Kd.R_bound hv.2.2) hg (fun k hk e => ?_)) (fun _ hk => hk.1)⟩, ⟨Nat.le_trans hk.1 hg.size, fun i hi hn => (hg.block i (Nat.lt_of_lt_of_le hi hk.1) (fun e => by have := (hr i e.symm).1; omega)).trans (hk.2 i hi hn)⟩, hB.grown hg hs (fun k e => Nat.le_trans h0 (hr k e).1)⟩
  · obtain ⟨_, cs, q, h4, h5, h6⟩ := hr S e.symm
    rw [hv.1] at h4
    injection h4 with h4
    injection h4 with _ h4
    exact h5 h4.symm
  · obtain ⟨_, _, _, q2, hq2, cells, hc⟩ := hk
    obtain ⟨_, cs, q, h4, h5, h6⟩ := hr k e.symm
    rw [hc] at h4
    injection h4 with h4
    injection h4 with _ h4
    subst h4
    have hE : k37.E = [] := rfl
    rw [hE] at hq2
    exact h6 (by simpa using hq2)
theorem SE.from {T N S : Nat} {w0 w w' : World} {x x' : Value} {l l' : List S37} (h : SE T N S w0 w l x) (k : SE T N S w w' l' x') : SE T N S w0 w' l' x' := ⟨k.1, h.2.1.trans k.2.1, h.2.2.trans k.2.2⟩
theorem SE.call {T N S : Nat} {w0 w : World} {x x' : Value} {l l' : List S37} {P : Program} {f : FuncId} {args : Array Value} {r : Ending} (h : SE T N S w0 w l x) (hc : ∀ v, StV T w N S v x l → Calls P f args w fun e w' => e = r ∧ SE T N S w w' l' x') :
    Calls P f args w fun e w' => e = r ∧ SE T N S w0 w' l' x' ∧ KeepT T N w w' := by
  obtain ⟨⟨v, hv⟩, hr⟩ := id h
  exact (hc v hv).mono (fun e w' ⟨h1, h2⟩ => ⟨h1, h.from h2, h2.2.1⟩)
theorem se_of_V {N S : Nat} {w w' : World} {v : Value} {l l' : List S37} {x : Value} {full' : Bool} (hv : StV 52 w N S v x l) (h : (∃ v', SheetV w' N S v' l' full' ∧ ∀ k, v'.ownBlock = some k → v.ownBlock = some k ∨ w.heap.size ≤ k) ∧ KeepV w w' S v ∧ Below N w w') : SE 52 N S w w' l' (.bool full') := by
  obtain ⟨⟨v', h1, _⟩, h2, h3⟩ := h
  refine ⟨⟨v', h1⟩, ⟨h3.size, fun i hi hn => h2 i hi (fun e => ?_) (fun e => ?_)⟩, h3⟩
  · exact hn ⟨by rw [e]; exact hv.2.1, _, _, by rw [e]; exact hv.1, .inl rfl⟩
  · obtain ⟨_, ho⟩ := Kd.R_own hv.2.2
    obtain ⟨cells, hc⟩ := own_typed ho i e
    exact hn ⟨own_base ho i e, cells, _, hc, .inr rfl⟩
theorem impl_sheet_put.callsE {N S : Nat} {w0 w : World} {l : List S37} {full : Bool} (t0 t1 t2 t3 : Int) (r : Int × List S37 × Bool) (h : SE 52 N S w0 w l (.bool full)) (hl : l.length ≤ 400) (hr : putT l full ⟨t0, t1, t2, t3⟩ = r) :
    Calls Try.prog 24 #[.pointer (some ⟨S, 0, none⟩), .agg #[.int .i64 t0, .int .i64 t1, .int .i64 t2, .int .i64 t3]] w fun e w' => e = .returned (.int .i64 r.1) ∧ SE 52 N S w0 w' r.2.1 (.bool r.2.2) ∧ KeepT 52 N w w' := by
  subst hr
  exact SE.call h (fun v hv => (impl_sheet_put.callsV 402 S N v l full t0 t1 t2 t3 _ w hv hv.size (tix_f l hl ⟨t0, t1, t2, t3⟩)).mono (fun e w' ⟨h1, h2⟩ => ⟨h1, se_of_V hv h2⟩))
set_option maxHeartbeats 4000000 in
set_option maxRecDepth 100000 in
theorem impl_sheet_both.callsE {N S : Nat} {w0 w : World} {l : List S37} {full : Bool} (a b : Int) (r : Int × List S37 × Bool) (h : SE 52 N S w0 w l (.bool full)) (hl : l.length ≤ 400) (hr : putT l full ⟨7, if b < a then b else a, if a < b then b else a, 0⟩ = r) :
    Calls Try.prog 23 #[.pointer (some ⟨S, 0, none⟩), .int .i64 a, .int .i64 b] w fun e w' => e = .returned (.int .i64 r.1) ∧ SE 52 N S w0 w' r.2.1 (.bool r.2.2) ∧ KeepT 52 N w w' := by
  subst hr
  refine SE.call h (fun v hv => ?_)
  have HC := Aside0.mk (impl_sheet_put.callsV 402 S N v l full 7 (if b < a then b else a) (if a < b then b else a) 0 _ w hv hv.size (tix_f l hl ⟨7, if b < a then b else a, if a < b then b else a, 0⟩))
  unfold putT
  have HV := Aside0.mk hv
  clear h hv
  generalize putP l full ⟨7, if b < a then b else a, if a < b then b else a, 0⟩ (tix l ⟨7, if b < a then b else a, if a < b then b else a, 0⟩ 0) = r at HC ⊢
  by_cases h1 : b < a
  · have h2 : ¬ a < b := by omega
    simp only [if_pos h1, if_neg h2] at HC
    go_enter Try.func23, Try.ntmps23
    go_wp2_with (go_at_call 24; refine HC.out.mono ?_; rintro e w' ⟨rfl, hs⟩)
    go_ret
    exact ⟨rfl, se_of_V HV.out hs⟩
  · by_cases h2 : a < b
    · simp only [if_neg h1, if_pos h2] at HC
      go_enter Try.func23, Try.ntmps23
      go_wp2_with (go_at_call 24; refine HC.out.mono ?_; rintro e w' ⟨rfl, hs⟩)
      go_ret
      exact ⟨rfl, se_of_V HV.out hs⟩
    · simp only [if_neg h1, if_neg h2] at HC
      go_enter Try.func23, Try.ntmps23
      go_wp2_with (go_at_call 24; refine HC.out.mono ?_; rintro e w' ⟨rfl, hs⟩)
      go_ret
      exact ⟨rfl, se_of_V HV.out hs⟩
set_option maxHeartbeats 4000000 in
set_option maxRecDepth 100000 in
theorem impl_sheet_told.calls (S N : Nat) (l : List S37) (full : Bool) (at_ : Int) (w : World) (hS : Sheet w N S l full) (hN : N ≤ w.heap.size) :
    Calls Try.prog 25 #[.pointer (some ⟨S, 0, none⟩), .int .i64 at_] w fun e w' => ∃ v, e = .returned (.agg #[.int .i64 (if full = true then 2 else 0), .int .i64 (if full = true then 0 else at_), v]) ∧ k37.R 37 w' N (fun _ => True) v (if full = true then [] else l) ∧ Below N w w' := by
  obtain ⟨v, hb, hns, hr⟩ := hS
  obtain ⟨A, c, rfl⟩ := Kd.R_slice hr
  have BS := Aside0.mk hb
  have HNS := Aside0.mk hns
  have HO := Aside0.mk hr
  have HN := Aside0.mk hN
  have HB := Aside0.mk (Below.refl N w)
  clear hb hns hr hN
  cases full with
  | true =>
    go_enter Try.func25, Try.ntmps25
    go_wp2_with (first | ((with_reducible refine gate_dst (N := 4) rfl ?_); refine box_event ?hg (N := 4) ?hd (cs := #[.int .i64 0, .int .i64 0, .slice none 0 0]) (t := 26) ?hr ?_; (case hd => rfl); (case hg => rfl); (case hr => first | (go_simp; done) | (go_simp; rfl)); intro g4 hg w2 hbox hb; have n0_ := Aside0.mk (below_stepN HB.out (Nat.le_trans HN.out HB.out.size) hb); have n1_ := Aside0.mk hbox; have n2_ := Aside0.mk (blk_below BS.out hb); have n3_ := Aside0.mk (Kd.R_below HO.out hb); have n4_ := Aside0.mk (show S ≠ g4 by rw [hg]; exact Nat.ne_of_lt (blk_lt BS.out)); have n5_ := Aside0.mk (show N ≤ g4 by rw [hg]; exact Nat.le_trans HN.out HB.out.size); have n6_ := Aside0.mk (show ∀ k, (.slice A l.length c : Value).ownBlock = some k → k ≠ g4 from fun k hk => by obtain ⟨_, hi⟩ := Kd.R_own HO.out; rw [hg]; exact Nat.ne_of_lt (own_lt hi k hk)); clear HB BS HO; have HB := n0_; have B4 := n1_; have BS := n2_; have HO := n3_; have NE4 := n4_; have GE4 := n5_; have OW4 := n6_; clear n0_ n1_ n2_ n3_ n4_ n5_ n6_ hb hbox hg; have p0_ : w2.cell? ⟨S, 0, none⟩ = some (.slice A l.length c) := (blk_cell BS.out 0).trans rfl; have p1_ : w2.cell? ⟨S, 1, none⟩ = some (.bool true) := (blk_cell BS.out 1).trans rfl; have q0_ : w2.cell? ⟨g4, 0, none⟩ = some (.int .i64 0) := (blk_cell B4.out 0).trans rfl; have q1_ : w2.cell? ⟨g4, 1, none⟩ = some (.int .i64 0) := (blk_cell B4.out 1).trans rfl; have q2_ : w2.cell? ⟨g4, 2, none⟩ = some (.slice none 0 0) := (blk_cell B4.out 2).trans rfl; have f0_ := blk_frozen B4.out 0; have f1_ := blk_frozen B4.out 1; have f2_ := blk_frozen B4.out 2; have hne_ := NE4.out; have hne2_ := NE4.out.symm))
    refine bodyPost_ret (results_cell_row rfl _ _ g4 26 #[.int .i64 2, .int .i64 0, .slice none 0 0] (0, 0) _ rfl (blk_put (blk_put (blk_put B4.out 0 _ rfl) 1 _ rfl) 2 _ rfl) Try.underlying26 rfl (by kernel_rfl)) rfl ?_
    exact ⟨_, rfl, Kd.R_nil _ _ _ _ _, ((HB.out.setCell (p := ⟨g4, 0, none⟩) GE4.out _).setCell (p := ⟨g4, 1, none⟩) GE4.out _).setCell (p := ⟨g4, 2, none⟩) GE4.out _⟩
  | false =>
    go_enter Try.func25, Try.ntmps25
    go_wp2_with (first | ((with_reducible refine gate_dst (N := 4) rfl ?_); refine box_event ?hg (N := 4) ?hd (cs := #[.int .i64 0, .int .i64 0, .slice none 0 0]) (t := 26) ?hr ?_; (case hd => rfl); (case hg => rfl); (case hr => first | (go_simp; done) | (go_simp; rfl)); intro g4 hg w2 hbox hb; have n0_ := Aside0.mk (below_stepN HB.out (Nat.le_trans HN.out HB.out.size) hb); have n1_ := Aside0.mk hbox; have n2_ := Aside0.mk (blk_below BS.out hb); have n3_ := Aside0.mk (Kd.R_below HO.out hb); have n4_ := Aside0.mk (show S ≠ g4 by rw [hg]; exact Nat.ne_of_lt (blk_lt BS.out)); have n5_ := Aside0.mk (show N ≤ g4 by rw [hg]; exact Nat.le_trans HN.out HB.out.size); have n6_ := Aside0.mk (show ∀ k, (.slice A l.length c : Value).ownBlock = some k → k ≠ g4 from fun k hk => by obtain ⟨_, hi⟩ := Kd.R_own HO.out; rw [hg]; exact Nat.ne_of_lt (own_lt hi k hk)); clear HB BS HO; have HB := n0_; have B4 := n1_; have BS := n2_; have HO := n3_; have NE4 := n4_; have GE4 := n5_; have OW4 := n6_; clear n0_ n1_ n2_ n3_ n4_ n5_ n6_ hb hbox hg; have p0_ : w2.cell? ⟨S, 0, none⟩ = some (.slice A l.length c) := (blk_cell BS.out 0).trans rfl; have p1_ : w2.cell? ⟨S, 1, none⟩ = some (.bool false) := (blk_cell BS.out 1).trans rfl; have q0_ : w2.cell? ⟨g4, 0, none⟩ = some (.int .i64 0) := (blk_cell B4.out 0).trans rfl; have q1_ : w2.cell? ⟨g4, 1, none⟩ = some (.int .i64 0) := (blk_cell B4.out 1).trans rfl; have q2_ : w2.cell? ⟨g4, 2, none⟩ = some (.slice none 0 0) := (blk_cell B4.out 2).trans rfl; have f0_ := blk_frozen B4.out 0; have f1_ := blk_frozen B4.out 1; have f2_ := blk_frozen B4.out 2; have hne_ := NE4.out; have hne2_ := NE4.out.symm))
    refine bodyPost_ret (results_cell_row rfl _ _ g4 26 #[.int .i64 0, .int .i64 at_, .slice A l.length c] (0, 0) _ rfl (blk_put (blk_put (blk_put B4.out 0 _ rfl) 1 _ rfl) 2 _ rfl) Try.underlying26 rfl (by kernel_rfl)) rfl ?_
    refine ⟨_, rfl, ?_, ((HB.out.setCell (p := ⟨g4, 0, none⟩) GE4.out _).setCell (p := ⟨g4, 1, none⟩) GE4.out _).setCell (p := ⟨g4, 2, none⟩) GE4.out _⟩
    exact Kd.R_mono (Kd.R_far (Kd.R_far (Kd.R_far (R_not HO.out OW4.out) (p := ⟨g4, 0, none⟩) (fun k hk => hk) _) (p := ⟨g4, 1, none⟩) (fun k hk => hk) _) (p := ⟨g4, 2, none⟩) (fun k hk => hk) _) (fun _ _ => trivial)
end Go.Proofs.Ytpagejjjfpkmcaa.G
