/- Part 4 of the proof of FnExactNetFault: what the functions on its road do, and the plain laws. -/
import Derived.Test.YtbjnjjjhdjichaaCFnExactNetFault3
import Derived.Shelf.Abstract
namespace Go.Proofs.Ytbjnjjjhdjichaa.G
open Go.RowKit Go.Proofs.YtbjnjjjhdjichaaW.PrintWords Go.Proofs.YtbjnjjjhdjichaaW.PrintLast Go.Proofs.YtbjnjjjhdjichaaW.PrintMore
attribute [local go_sem] max2_int min2_int max_two min_two max_three min_three max_four min_four   -- for this text's walks alone
set_option linter.unusedVariables false
set_option linter.unusedSimpArgs false
section
theorem repsG_ {w : World} {base : Nat} {ok : Nat → Prop} : ∀ xs : List Int, Reps ((Kd.int .i64).M w base ok) (Kd.int .i64).sz xs (xs.map (Value.int .i64))
  | xs => ⟨by simp [Kd.int, Kd.scalar], fun j p h => by
    obtain ⟨hj, rfl⟩ := List.getElem?_eq_some_iff.1 h
    show ((xs.map (Value.int .i64)).drop (j * 1)).take 1 = [Value.int .i64 xs[j]]
    rw [Nat.mul_one, List.drop_eq_getElem_cons (by simpa using hj)]
    simp⟩
set_option maxHeartbeats 4000000 in
set_option maxRecDepth 100000 in
theorem impl_TalkFault_1.calls (A0 : Option Addr) (n c0 K B : Nat) (kb : Bool) (x : Int) (hn : n ≤ 9223372036854775807) (W : World) (hk : W.cell? ⟨K, 0, none⟩ = some (.bool kb)) (hc : W.cell? ⟨B, 0, none⟩ = some (.slice A0 n c0)) :
    Calls Try.prog 76 (#[.int .i64 x] ++ #[.pointer (some ⟨K, 0, none⟩), .pointer (some ⟨B, 0, none⟩)]) W fun e w' => e = .returned (.bool (if kb = true then !decide (0 ≤ x ∧ x ≤ (n : Int) - 1) else x != -1)) ∧ Below W.heap.size W w' := by
 cases kb with
 | true =>
  have hC := fun W' => impl_isPlace.callsF A0 n c0 x hn W'
  rw [if_pos rfl]
  generalize decide (0 ≤ x ∧ x ≤ (n : Int) - 1) = r at hC ⊢
  cases r with
  | true =>
   go_enter Try.func76, Try.ntmps76
   go_wp2_with (go_at_call 32; refine (hC _).mono ?_; rintro e w' ⟨rfl, hb⟩; have hk2 : w'.cell? ⟨K, 0, none⟩ = some (.bool true) := (hb.cell (World.block_lt_of_cell? W _ hk)).trans hk)
   go_ret
   exact ⟨rfl, hb⟩
  | false =>
   go_enter Try.func76, Try.ntmps76
   go_wp2_with (go_at_call 32; refine (hC _).mono ?_; rintro e w' ⟨rfl, hb⟩; have hk2 : w'.cell? ⟨K, 0, none⟩ = some (.bool true) := (hb.cell (World.block_lt_of_cell? W _ hk)).trans hk)
   go_ret
   exact ⟨rfl, hb⟩
 | false =>
  rw [if_neg (by decide)]
  go_enter Try.func76, Try.ntmps76
  go_wp2
  go_ret
  exact ⟨rfl, Below.refl _ _⟩
set_option maxHeartbeats 8000000 in
set_option maxRecDepth 100000 in
theorem impl_Talk_places.calls (g : Nat) (x0 x1 x2 x3 x4 x5 x6 x7 x8 x9 x10 x11 x12 x13 x14 x15 x16 x17 x18 x19 : Int) (w : World) (hI : w.heap[g]? = some (.cells #[.int .i64 x0, .int .i64 x1, .int .i64 x2, .int .i64 x3, .int .i64 x4, .int .i64 x5, .int .i64 x6, .int .i64 x7, .int .i64 x8, .int .i64 x9, .int .i64 x10, .int .i64 x11, .int .i64 x12, .int .i64 x13, .int .i64 x14, .int .i64 x15, .int .i64 x16, .int .i64 x17, .int .i64 x18, .int .i64 x19] 83 (0, 0))) :
    Calls Try.prog 75 #[.pointer (some ⟨g, 0, none⟩)] w fun e w' => ∃ v1 v2 v3 : Value, e = .returned (.agg #[v1, v2, v3]) ∧ Kd.R (Kd.int .i64) 2 w' w.heap.size (fun _ => True) v1 [x5, x7, x9] ∧ Kd.R (Kd.int .i64) 2 w' w.heap.size (fun _ => True) v2 [x6, x8, x10, x11, x12, x13, x14] ∧ Kd.R (Kd.int .i64) 2 w' w.heap.size (fun _ => True) v3 [x15, x16] ∧ Below w.heap.size w w' := by
 have BG := Z_ hI
 clear hI
 have HB := Z_ (Below.refl w.heap.size w)
 have hu1 := Try.underlying121
 have hu2 := Try.underlying83
 have hu3 := Try.underlying79
 obtain ⟨_, _, _, _, _, _, _, _, _, _, _, _, _, _, _, _, _, _, _, _, _, _, _, _, _, _, _, _, _, _, _, _, _, _, _, _, _, _, _, _⟩ := bc20 BG.out
 go_enter Try.func75, Try.ntmps75
 go_wp2_with (first | ((with_reducible refine gD_ 2 rfl ?_); refine bx_ #[.slice none 0 0, .slice none 0 0, .slice none 0 0] 121 ?_; intro g2 hg wg2 hbox hb; have n0_ := Z_ (bB_ BG.out hb); have gne := Z_ ((by rw [hg]; exact Nat.ne_of_lt (blk_lt BG.out)) : g ≠ g2); have n2_ := Z_ (lP_ HB.out hb); have n3_ := Z_ hbox; have Sg2 := Z_ ((by rw [hg]; exact (below_size HB.out) : w.heap.size ≤ g2)); clear BG; clear HB hbox hb hg; have HB := n2_; have BG := n0_; have B2 := n3_; clear n0_; obtain ⟨_, _, _, _, _, _, _, _, _, _, _, _, _, _, _, _, _, _, _, _, _, _, _, _, _, _, _, _, _, _, _, _, _, _, _, _, _, _, _, _⟩ := bc20 BG.out; clear n2_ n3_) | ((with_reducible refine gD_ 3 rfl ?_); refine bx_ #[.int .i64 0, .int .i64 0, .int .i64 0, .int .i64 0] 79 ?_; intro g3 hg wg3 hbox hb; have n0_ := Z_ (bB_ BG.out hb); have n1_ := Z_ (bB_ B2.out hb); have gne2 := Z_ ((by rw [hg]; exact Nat.ne_of_lt (blk_lt BG.out)) : g ≠ g3); have gne3 := Z_ ((by rw [hg]; exact Nat.ne_of_lt (blk_lt B2.out)) : g2 ≠ g3); have n2_ := Z_ (lP_ HB.out hb); have n3_ := Z_ hbox; have Sg3 := Z_ ((by rw [hg]; exact (below_size HB.out) : w.heap.size ≤ g3)); clear BG B2; clear HB hbox hb hg; have HB := n2_; have BG := n0_; have B2 := n1_; have B3 := n3_; clear n0_ n1_; obtain ⟨_, _, _, _, _, _⟩ := bc3 B2.out; obtain ⟨_, _, _, _, _, _, _, _, _, _, _, _, _, _, _, _, _, _, _, _, _, _, _, _, _, _, _, _, _, _, _, _, _, _, _, _, _, _, _, _⟩ := bc20 BG.out; obtain ⟨_, _, _, _, _, _, _, _⟩ := bc4 B3.out; have q1 := gne.out; have q2 := gne2.out; have q3 := gne3.out; have q1s := gne.out.symm; have q2s := gne2.out.symm; have q3s := gne3.out.symm; clear n2_ n3_) | ((with_reducible refine gate_store (t := 79) rfl ?_); refine store_box_ (by rfl) (by rfl) (by rfl) (by rfl) (by rfl) (g := g3) (t := 79) (old := #[.int .i64 0, .int .i64 0, .int .i64 0, .int .i64 0]) B3.out (by rfl) (by kernel_rfl) (by rfl) ?_; intro wS hst hU; replace BG := Z_ (bU_ hU BG.out gne2.out); replace B2 := Z_ (bU_ hU B2.out gne3.out); replace HB := Z_ (lU_ hU HB.out Sg3.out); replace B3 := Z_ hst; clear hst hU; obtain ⟨_, _, _, _, _, _⟩ := bc3 B2.out; obtain ⟨_, _, _, _, _, _, _, _, _, _, _, _, _, _, _, _, _, _, _, _, _, _, _, _, _, _, _, _, _, _, _, _, _, _, _, _, _, _, _, _⟩ := bc20 BG.out; obtain ⟨_, _, _, _, _, _, _, _⟩ := bc4 B3.out))
 have n0_ := Z_ (bD_ BG.out)
 have n1_ := Z_ (bD_ B2.out)
 have n2_ := Z_ (bD_ B3.out)
 have n3_ := Z_ (lD_ HB.out)
 clear BG B2 B3 HB
 have BG := n0_
 have B2 := n1_
 have B3 := n2_
 have HB := n3_
 clear n0_ n1_ n2_ n3_
 refine start_ (n := 45) (S := fun w' => w'.cell? ⟨g, 5, none⟩ = some (.int .i64 x5) ∧ w'.cell? ⟨g, 7, none⟩ = some (.int .i64 x7) ∧ w'.cell? ⟨g, 9, none⟩ = some (.int .i64 x9) ∧ w'.cell? ⟨g, 6, none⟩ = some (.int .i64 x6) ∧ w'.cell? ⟨g, 8, none⟩ = some (.int .i64 x8) ∧ w'.cell? ⟨g, 10, none⟩ = some (.int .i64 x10) ∧ w'.cell? ⟨g, 15, none⟩ = some (.int .i64 x15) ∧ w'.cell? ⟨g, 16, none⟩ = some (.int .i64 x16) ∧ w'.cell? ⟨g3, 0, none⟩ = some (.int .i64 x11) ∧ w'.cell? ⟨g3, 1, none⟩ = some (.int .i64 x12) ∧ w'.cell? ⟨g3, 2, none⟩ = some (.int .i64 x13) ∧ w'.cell? ⟨g3, 3, none⟩ = some (.int .i64 x14)) (ds := [44]) #[false, false, false, false, false, false, false, false, false, false, false, false, false, false, false, false, false, false, false, false, false, false, false, false, false, false, false, false, false, false, false, false, false, false, false, false, false, false, false, false, false, false, false, false, false] (by kernel_rfl) rfl rfl ⟨(blk_cell BG.out 5).trans rfl, (blk_cell BG.out 7).trans rfl, (blk_cell BG.out 9).trans rfl, (blk_cell BG.out 6).trans rfl, (blk_cell BG.out 8).trans rfl, (blk_cell BG.out 10).trans rfl, (blk_cell BG.out 15).trans rfl, (blk_cell BG.out 16).trans rfl, (blk_cell B3.out 0).trans rfl, (blk_cell B3.out 1).trans rfl, (blk_cell B3.out 2).trans rfl, (blk_cell B3.out 3).trans rfl⟩ (fun hHeld => ?_)
 generalize wS.drew = wD at BG B2 B3 HB hHeld ⊢
 refine pure_ (i := 0) (N := some 8) (v := ?_) (a' := ?_) #[true, false, false, false, false, false, false, false, false, false, false, false, false, false, false, false, false, false, false, false, false, false, false, false, false, false, false, false, false, false, false, false, false, false, false, false, false, false, false, false, false, false, false, false, false] rfl rfl (by kernel_rfl) (fun _ _ _ h => h) (Or.inl ⟨by rfl, ?_⟩) ?_ ?_
 rotate_left
 ·intro w'
  go_simp
  first | done | (with_reducible rfl)
 rotate_left
 ·simp only [Act.put, lA_, lZ_, lS_, i64_w, i32_w]
  rfl
 refine pure_ (i := 1) (N := some 9) (v := ?_) (a' := ?_) #[true, true, false, false, false, false, false, false, false, false, false, false, false, false, false, false, false, false, false, false, false, false, false, false, false, false, false, false, false, false, false, false, false, false, false, false, false, false, false, false, false, false, false, false, false] rfl rfl (by kernel_rfl) (fun _ _ _ h => h) (Or.inl ⟨by rfl, ?_⟩) ?_ ?_
 rotate_left
 ·intro w'
  go_simp
  first | done | (with_reducible rfl)
 rotate_left
 ·simp only [Act.put, lA_, lZ_, lS_, i64_w, i32_w]
  rfl
 refine pure_ (i := 2) (N := some 10) (v := ?_) (a' := ?_) #[true, true, true, false, false, false, false, false, false, false, false, false, false, false, false, false, false, false, false, false, false, false, false, false, false, false, false, false, false, false, false, false, false, false, false, false, false, false, false, false, false, false, false, false, false] rfl rfl (by kernel_rfl) (fun _ _ _ h => h) (Or.inl ⟨by rfl, ?_⟩) ?_ ?_
 rotate_left
 ·intro w'
  go_simp
  first | done | (with_reducible rfl)
 rotate_left
 ·simp only [Act.put, lA_, lZ_, lS_, i64_w, i32_w]
  rfl
 refine take_ (i := 3) (N := some 11) (v := ?_) (a' := ?_) #[true, true, true, true, false, false, false, false, false, false, false, false, false, false, false, false, false, false, false, false, false, false, false, false, false, false, false, false, false, false, false, false, false, false, false, false, false, false, false, false, false, false, false, false, false] rfl rfl (by kernel_rfl) (fun _ _ _ h => h) (Or.inl ⟨by rfl, ?_⟩) hHeld ?_ ?_
 rotate_left
 ·rintro w' ⟨s0, s1, s2, s3, s4, s5, s6, s7, s8, s9, s10, s11⟩
  go_simp
  with_reducible rfl
 rotate_left
 ·simp only [Act.put, lA_, lZ_, lS_, i64_w, i32_w]
  rfl
 refine pure_ (i := 4) (N := some 12) (v := ?_) (a' := ?_) #[true, true, true, true, true, false, false, false, false, false, false, false, false, false, false, false, false, false, false, false, false, false, false, false, false, false, false, false, false, false, false, false, false, false, false, false, false, false, false, false, false, false, false, false, false] rfl rfl (by kernel_rfl) (fun _ _ _ h => h) (Or.inl ⟨by rfl, ?_⟩) ?_ ?_
 rotate_left
 ·intro w'
  go_simp
  first | done | (with_reducible rfl)
 rotate_left
 ·simp only [Act.put, lA_, lZ_, lS_, i64_w, i32_w]
  rfl
 refine pure_ (i := 5) (N := some 13) (v := ?_) (a' := ?_) #[true, true, true, true, true, true, false, false, false, false, false, false, false, false, false, false, false, false, false, false, false, false, false, false, false, false, false, false, false, false, false, false, false, false, false, false, false, false, false, false, false, false, false, false, false] rfl rfl (by kernel_rfl) (fun _ _ _ h => h) (Or.inl ⟨by rfl, ?_⟩) ?_ ?_
 rotate_left
 ·intro w'
  go_simp
  first | done | (with_reducible rfl)
 rotate_left
 ·simp only [Act.put, lA_, lZ_, lS_, i64_w, i32_w]
  rfl
 refine pure_ (i := 6) (N := some 14) (v := ?_) (a' := ?_) #[true, true, true, true, true, true, true, false, false, false, false, false, false, false, false, false, false, false, false, false, false, false, false, false, false, false, false, false, false, false, false, false, false, false, false, false, false, false, false, false, false, false, false, false, false] rfl rfl (by kernel_rfl) (fun _ _ _ h => h) (Or.inl ⟨by rfl, ?_⟩) ?_ ?_
 rotate_left
 ·intro w'
  go_simp
  first | done | (with_reducible rfl)
 rotate_left
 ·simp only [Act.put, lA_, lZ_, lS_, i64_w, i32_w]
  rfl
 refine take_ (i := 7) (N := some 15) (v := ?_) (a' := ?_) #[true, true, true, true, true, true, true, true, false, false, false, false, false, false, false, false, false, false, false, false, false, false, false, false, false, false, false, false, false, false, false, false, false, false, false, false, false, false, false, false, false, false, false, false, false] rfl rfl (by kernel_rfl) (fun _ _ _ h => h) (Or.inl ⟨by rfl, ?_⟩) hHeld ?_ ?_
 rotate_left
 ·rintro w' ⟨s0, s1, s2, s3, s4, s5, s6, s7, s8, s9, s10, s11⟩
  go_simp
  with_reducible rfl
 rotate_left
 ·simp only [Act.put, lA_, lZ_, lS_, i64_w, i32_w]
  rfl
 refine pure_ (i := 8) (N := some 16) (v := ?_) (a' := ?_) #[true, true, true, true, true, true, true, true, true, false, false, false, false, false, false, false, false, false, false, false, false, false, false, false, false, false, false, false, false, false, false, false, false, false, false, false, false, false, false, false, false, false, false, false, false] rfl rfl (by kernel_rfl) (fun _ _ _ h => h) (Or.inl ⟨by rfl, ?_⟩) ?_ ?_
 rotate_left
 ·intro w'
  go_simp
  first | done | (with_reducible rfl)
 rotate_left
 ·simp only [Act.put, lA_, lZ_, lS_, i64_w, i32_w]
  rfl
 refine pure_ (i := 9) (N := some 17) (v := ?_) (a' := ?_) #[true, true, true, true, true, true, true, true, true, true, false, false, false, false, false, false, false, false, false, false, false, false, false, false, false, false, false, false, false, false, false, false, false, false, false, false, false, false, false, false, false, false, false, false, false] rfl rfl (by kernel_rfl) (fun _ _ _ h => h) (Or.inl ⟨by rfl, ?_⟩) ?_ ?_
 rotate_left
 ·intro w'
  go_simp
  first | done | (with_reducible rfl)
 rotate_left
 ·simp only [Act.put, lA_, lZ_, lS_, i64_w, i32_w]
  rfl
 refine pure_ (i := 10) (N := some 18) (v := ?_) (a' := ?_) #[true, true, true, true, true, true, true, true, true, true, true, false, false, false, false, false, false, false, false, false, false, false, false, false, false, false, false, false, false, false, false, false, false, false, false, false, false, false, false, false, false, false, false, false, false] rfl rfl (by kernel_rfl) (fun _ _ _ h => h) (Or.inl ⟨by rfl, ?_⟩) ?_ ?_
 rotate_left
 ·intro w'
  go_simp
  first | done | (with_reducible rfl)
 rotate_left
 ·simp only [Act.put, lA_, lZ_, lS_, i64_w, i32_w]
  rfl
 refine take_ (i := 11) (N := some 19) (v := ?_) (a' := ?_) #[true, true, true, true, true, true, true, true, true, true, true, true, false, false, false, false, false, false, false, false, false, false, false, false, false, false, false, false, false, false, false, false, false, false, false, false, false, false, false, false, false, false, false, false, false] rfl rfl (by kernel_rfl) (fun _ _ _ h => h) (Or.inl ⟨by rfl, ?_⟩) hHeld ?_ ?_
 rotate_left
 ·rintro w' ⟨s0, s1, s2, s3, s4, s5, s6, s7, s8, s9, s10, s11⟩
  go_simp
  with_reducible rfl
 rotate_left
 ·simp only [Act.put, lA_, lZ_, lS_, i64_w, i32_w]
  rfl
 refine pure_ (i := 13) (N := some 21) (v := ?_) (a' := ?_) #[true, true, true, true, true, true, true, true, true, true, true, true, false, true, false, false, false, false, false, false, false, false, false, false, false, false, false, false, false, false, false, false, false, false, false, false, false, false, false, false, false, false, false, false, false] rfl rfl (by kernel_rfl) (fun _ _ _ h => h) (Or.inl ⟨by rfl, ?_⟩) ?_ ?_
 rotate_left
 ·intro w'
  go_simp
  first | done | (with_reducible rfl)
 rotate_left
 ·simp only [Act.put, lA_, lZ_, lS_, i64_w, i32_w]
  rfl
 refine pure_ (i := 14) (N := some 22) (v := ?_) (a' := ?_) #[true, true, true, true, true, true, true, true, true, true, true, true, false, true, true, false, false, false, false, false, false, false, false, false, false, false, false, false, false, false, false, false, false, false, false, false, false, false, false, false, false, false, false, false, false] rfl rfl (by kernel_rfl) (fun _ _ _ h => h) (Or.inl ⟨by rfl, ?_⟩) ?_ ?_
 rotate_left
 ·intro w'
  go_simp
  first | done | (with_reducible rfl)
 rotate_left
 ·simp only [Act.put, lA_, lZ_, lS_, i64_w, i32_w]
  rfl
 refine pure_ (i := 15) (N := some 23) (v := ?_) (a' := ?_) #[true, true, true, true, true, true, true, true, true, true, true, true, false, true, true, true, false, false, false, false, false, false, false, false, false, false, false, false, false, false, false, false, false, false, false, false, false, false, false, false, false, false, false, false, false] rfl rfl (by kernel_rfl) (fun _ _ _ h => h) (Or.inl ⟨by rfl, ?_⟩) ?_ ?_
 rotate_left
 ·intro w'
  go_simp
  first | done | (with_reducible rfl)
 rotate_left
 ·simp only [Act.put, lA_, lZ_, lS_, i64_w, i32_w]
  rfl
 refine take_ (i := 16) (N := some 24) (v := ?_) (a' := ?_) #[true, true, true, true, true, true, true, true, true, true, true, true, false, true, true, true, true, false, false, false, false, false, false, false, false, false, false, false, false, false, false, false, false, false, false, false, false, false, false, false, false, false, false, false, false] rfl rfl (by kernel_rfl) (fun _ _ _ h => h) (Or.inl ⟨by rfl, ?_⟩) hHeld ?_ ?_
 rotate_left
 ·rintro w' ⟨s0, s1, s2, s3, s4, s5, s6, s7, s8, s9, s10, s11⟩
  go_simp
  with_reducible rfl
 rotate_left
 ·simp only [Act.put, lA_, lZ_, lS_, i64_w, i32_w]
  rfl
 refine pure_ (i := 17) (N := some 25) (v := ?_) (a' := ?_) #[true, true, true, true, true, true, true, true, true, true, true, true, false, true, true, true, true, true, false, false, false, false, false, false, false, false, false, false, false, false, false, false, false, false, false, false, false, false, false, false, false, false, false, false, false] rfl rfl (by kernel_rfl) (fun _ _ _ h => h) (Or.inl ⟨by rfl, ?_⟩) ?_ ?_
 rotate_left
 ·intro w'
  go_simp
  first | done | (with_reducible rfl)
 rotate_left
 ·simp only [Act.put, lA_, lZ_, lS_, i64_w, i32_w]
  rfl
 refine pure_ (i := 18) (N := some 26) (v := ?_) (a' := ?_) #[true, true, true, true, true, true, true, true, true, true, true, true, false, true, true, true, true, true, true, false, false, false, false, false, false, false, false, false, false, false, false, false, false, false, false, false, false, false, false, false, false, false, false, false, false] rfl rfl (by kernel_rfl) (fun _ _ _ h => h) (Or.inl ⟨by rfl, ?_⟩) ?_ ?_
 rotate_left
 ·intro w'
  go_simp
  first | done | (with_reducible rfl)
 rotate_left
 ·simp only [Act.put, lA_, lZ_, lS_, i64_w, i32_w]
  rfl
 refine pure_ (i := 19) (N := some 27) (v := ?_) (a' := ?_) #[true, true, true, true, true, true, true, true, true, true, true, true, false, true, true, true, true, true, true, true, false, false, false, false, false, false, false, false, false, false, false, false, false, false, false, false, false, false, false, false, false, false, false, false, false] rfl rfl (by kernel_rfl) (fun _ _ _ h => h) (Or.inl ⟨by rfl, ?_⟩) ?_ ?_
 rotate_left
 ·intro w'
  go_simp
  first | done | (with_reducible rfl)
 rotate_left
 ·simp only [Act.put, lA_, lZ_, lS_, i64_w, i32_w]
  rfl
 refine take_ (i := 20) (N := some 28) (v := ?_) (a' := ?_) #[true, true, true, true, true, true, true, true, true, true, true, true, false, true, true, true, true, true, true, true, true, false, false, false, false, false, false, false, false, false, false, false, false, false, false, false, false, false, false, false, false, false, false, false, false] rfl rfl (by kernel_rfl) (fun _ _ _ h => h) (Or.inl ⟨by rfl, ?_⟩) hHeld ?_ ?_
 rotate_left
 ·rintro w' ⟨s0, s1, s2, s3, s4, s5, s6, s7, s8, s9, s10, s11⟩
  go_simp
  with_reducible rfl
 rotate_left
 ·simp only [Act.put, lA_, lZ_, lS_, i64_w, i32_w]
  rfl
 refine pure_ (i := 21) (N := some 29) (v := ?_) (a' := ?_) #[true, true, true, true, true, true, true, true, true, true, true, true, false, true, true, true, true, true, true, true, true, true, false, false, false, false, false, false, false, false, false, false, false, false, false, false, false, false, false, false, false, false, false, false, false] rfl rfl (by kernel_rfl) (fun _ _ _ h => h) (Or.inl ⟨by rfl, ?_⟩) ?_ ?_
 rotate_left
 ·intro w'
  go_simp
  first | done | (with_reducible rfl)
 rotate_left
 ·simp only [Act.put, lA_, lZ_, lS_, i64_w, i32_w]
  rfl
 refine pure_ (i := 22) (N := some 30) (v := ?_) (a' := ?_) #[true, true, true, true, true, true, true, true, true, true, true, true, false, true, true, true, true, true, true, true, true, true, true, false, false, false, false, false, false, false, false, false, false, false, false, false, false, false, false, false, false, false, false, false, false] rfl rfl (by kernel_rfl) (fun _ _ _ h => h) (Or.inl ⟨by rfl, ?_⟩) ?_ ?_
 rotate_left
 ·intro w'
  go_simp
  first | done | (with_reducible rfl)
 rotate_left
 ·simp only [Act.put, lA_, lZ_, lS_, i64_w, i32_w]
  rfl
 refine pure_ (i := 23) (N := some 31) (v := ?_) (a' := ?_) #[true, true, true, true, true, true, true, true, true, true, true, true, false, true, true, true, true, true, true, true, true, true, true, true, false, false, false, false, false, false, false, false, false, false, false, false, false, false, false, false, false, false, false, false, false] rfl rfl (by kernel_rfl) (fun _ _ _ h => h) (Or.inl ⟨by rfl, ?_⟩) ?_ ?_
 rotate_left
 ·intro w'
  go_simp
  first | done | (with_reducible rfl)
 rotate_left
 ·simp only [Act.put, lA_, lZ_, lS_, i64_w, i32_w]
  rfl
 refine take_ (i := 24) (N := some 32) (v := ?_) (a' := ?_) #[true, true, true, true, true, true, true, true, true, true, true, true, false, true, true, true, true, true, true, true, true, true, true, true, true, false, false, false, false, false, false, false, false, false, false, false, false, false, false, false, false, false, false, false, false] rfl rfl (by kernel_rfl) (fun _ _ _ h => h) (Or.inl ⟨by rfl, ?_⟩) hHeld ?_ ?_
 rotate_left
 ·rintro w' ⟨s0, s1, s2, s3, s4, s5, s6, s7, s8, s9, s10, s11⟩
  go_simp
  with_reducible rfl
 rotate_left
 ·simp only [Act.put, lA_, lZ_, lS_, i64_w, i32_w]
  rfl
 refine pure_ (i := 25) (N := some 33) (v := ?_) (a' := ?_) #[true, true, true, true, true, true, true, true, true, true, true, true, false, true, true, true, true, true, true, true, true, true, true, true, true, true, false, false, false, false, false, false, false, false, false, false, false, false, false, false, false, false, false, false, false] rfl rfl (by kernel_rfl) (fun _ _ _ h => h) (Or.inl ⟨by rfl, ?_⟩) ?_ ?_
 rotate_left
 ·intro w'
  go_simp
  first | done | (with_reducible rfl)
 rotate_left
 ·simp only [Act.put, lA_, lZ_, lS_, i64_w, i32_w]
  rfl
 refine take_ (i := 26) (N := some 34) (v := ?_) (a' := ?_) #[true, true, true, true, true, true, true, true, true, true, true, true, false, true, true, true, true, true, true, true, true, true, true, true, true, true, true, false, false, false, false, false, false, false, false, false, false, false, false, false, false, false, false, false, false] rfl rfl (by kernel_rfl) (fun _ _ _ h => h) (Or.inl ⟨by rfl, ?_⟩) hHeld ?_ ?_
 rotate_left
 ·rintro w' ⟨s0, s1, s2, s3, s4, s5, s6, s7, s8, s9, s10, s11⟩
  go_simp
  with_reducible rfl
 rotate_left
 ·simp only [Act.put, lA_, lZ_, lS_, i64_w, i32_w]
  rfl
 refine pure_ (i := 27) (N := some 35) (v := ?_) (a' := ?_) #[true, true, true, true, true, true, true, true, true, true, true, true, false, true, true, true, true, true, true, true, true, true, true, true, true, true, true, true, false, false, false, false, false, false, false, false, false, false, false, false, false, false, false, false, false] rfl rfl (by kernel_rfl) (fun _ _ _ h => h) (Or.inl ⟨by rfl, ?_⟩) ?_ ?_
 rotate_left
 ·intro w'
  go_simp
  first | done | (with_reducible rfl)
 rotate_left
 ·simp only [Act.put, lA_, lZ_, lS_, i64_w, i32_w]
  rfl
 refine take_ (i := 28) (N := some 36) (v := ?_) (a' := ?_) #[true, true, true, true, true, true, true, true, true, true, true, true, false, true, true, true, true, true, true, true, true, true, true, true, true, true, true, true, true, false, false, false, false, false, false, false, false, false, false, false, false, false, false, false, false] rfl rfl (by kernel_rfl) (fun _ _ _ h => h) (Or.inl ⟨by rfl, ?_⟩) hHeld ?_ ?_
 rotate_left
 ·rintro w' ⟨s0, s1, s2, s3, s4, s5, s6, s7, s8, s9, s10, s11⟩
  go_simp
  with_reducible rfl
 rotate_left
 ·simp only [Act.put, lA_, lZ_, lS_, i64_w, i32_w]
  rfl
 refine pure_ (i := 29) (N := some 37) (v := ?_) (a' := ?_) #[true, true, true, true, true, true, true, true, true, true, true, true, false, true, true, true, true, true, true, true, true, true, true, true, true, true, true, true, true, true, false, false, false, false, false, false, false, false, false, false, false, false, false, false, false] rfl rfl (by kernel_rfl) (fun _ _ _ h => h) (Or.inl ⟨by rfl, ?_⟩) ?_ ?_
 rotate_left
 ·intro w'
  go_simp
  first | done | (with_reducible rfl)
 rotate_left
 ·simp only [Act.put, lA_, lZ_, lS_, i64_w, i32_w]
  rfl
 refine take_ (i := 30) (N := some 38) (v := ?_) (a' := ?_) #[true, true, true, true, true, true, true, true, true, true, true, true, false, true, true, true, true, true, true, true, true, true, true, true, true, true, true, true, true, true, true, false, false, false, false, false, false, false, false, false, false, false, false, false, false] rfl rfl (by kernel_rfl) (fun _ _ _ h => h) (Or.inl ⟨by rfl, ?_⟩) hHeld ?_ ?_
 rotate_left
 ·rintro w' ⟨s0, s1, s2, s3, s4, s5, s6, s7, s8, s9, s10, s11⟩
  go_simp
  with_reducible rfl
 rotate_left
 ·simp only [Act.put, lA_, lZ_, lS_, i64_w, i32_w]
  rfl
 refine pure_ (i := 31) (N := some 39) (v := ?_) (a' := ?_) #[true, true, true, true, true, true, true, true, true, true, true, true, false, true, true, true, true, true, true, true, true, true, true, true, true, true, true, true, true, true, true, true, false, false, false, false, false, false, false, false, false, false, false, false, false] rfl rfl (by kernel_rfl) (fun _ _ _ h => h) (Or.inl ⟨by rfl, ?_⟩) ?_ ?_
 rotate_left
 ·intro w'
  go_simp
  first | done | (with_reducible rfl)
 rotate_left
 ·simp only [Act.put, lA_, lZ_, lS_, i64_w, i32_w]
  rfl
 refine take_ (i := 32) (N := some 40) (v := ?_) (a' := ?_) #[true, true, true, true, true, true, true, true, true, true, true, true, false, true, true, true, true, true, true, true, true, true, true, true, true, true, true, true, true, true, true, true, true, false, false, false, false, false, false, false, false, false, false, false, false] rfl rfl (by kernel_rfl) (fun _ _ _ h => h) (Or.inl ⟨by rfl, ?_⟩) hHeld ?_ ?_
 rotate_left
 ·rintro w' ⟨s0, s1, s2, s3, s4, s5, s6, s7, s8, s9, s10, s11⟩
  go_simp
  with_reducible rfl
 rotate_left
 ·simp only [Act.put, lA_, lZ_, lS_, i64_w, i32_w]
  rfl
 refine pure_ (i := 34) (N := some 42) (v := ?_) (a' := ?_) #[true, true, true, true, true, true, true, true, true, true, true, true, false, true, true, true, true, true, true, true, true, true, true, true, true, true, true, true, true, true, true, true, true, false, true, false, false, false, false, false, false, false, false, false, false] rfl rfl (by kernel_rfl) (fun _ _ _ h => h) (Or.inl ⟨by rfl, ?_⟩) ?_ ?_
 rotate_left
 ·intro w'
  go_simp
  first | done | (with_reducible rfl)
 rotate_left
 ·simp only [Act.put, lA_, lZ_, lS_, i64_w, i32_w]
  rfl
 refine pure_ (i := 35) (N := some 43) (v := ?_) (a' := ?_) #[true, true, true, true, true, true, true, true, true, true, true, true, false, true, true, true, true, true, true, true, true, true, true, true, true, true, true, true, true, true, true, true, true, false, true, true, false, false, false, false, false, false, false, false, false] rfl rfl (by kernel_rfl) (fun _ _ _ h => h) (Or.inl ⟨by rfl, ?_⟩) ?_ ?_
 rotate_left
 ·intro w'
  go_simp
  first | done | (with_reducible rfl)
 rotate_left
 ·simp only [Act.put, lA_, lZ_, lS_, i64_w, i32_w]
  rfl
 refine pure_ (i := 36) (N := some 44) (v := ?_) (a' := ?_) #[true, true, true, true, true, true, true, true, true, true, true, true, false, true, true, true, true, true, true, true, true, true, true, true, true, true, true, true, true, true, true, true, true, false, true, true, true, false, false, false, false, false, false, false, false] rfl rfl (by kernel_rfl) (fun _ _ _ h => h) (Or.inl ⟨by rfl, ?_⟩) ?_ ?_
 rotate_left
 ·intro w'
  go_simp
  first | done | (with_reducible rfl)
 rotate_left
 ·simp only [Act.put, lA_, lZ_, lS_, i64_w, i32_w]
  rfl
 refine take_ (i := 37) (N := some 45) (v := ?_) (a' := ?_) #[true, true, true, true, true, true, true, true, true, true, true, true, false, true, true, true, true, true, true, true, true, true, true, true, true, true, true, true, true, true, true, true, true, false, true, true, true, true, false, false, false, false, false, false, false] rfl rfl (by kernel_rfl) (fun _ _ _ h => h) (Or.inl ⟨by rfl, ?_⟩) hHeld ?_ ?_
 rotate_left
 ·rintro w' ⟨s0, s1, s2, s3, s4, s5, s6, s7, s8, s9, s10, s11⟩
  go_simp
  with_reducible rfl
 rotate_left
 ·simp only [Act.put, lA_, lZ_, lS_, i64_w, i32_w]
  rfl
 refine pure_ (i := 38) (N := some 46) (v := ?_) (a' := ?_) #[true, true, true, true, true, true, true, true, true, true, true, true, false, true, true, true, true, true, true, true, true, true, true, true, true, true, true, true, true, true, true, true, true, false, true, true, true, true, true, false, false, false, false, false, false] rfl rfl (by kernel_rfl) (fun _ _ _ h => h) (Or.inl ⟨by rfl, ?_⟩) ?_ ?_
 rotate_left
 ·intro w'
  go_simp
  first | done | (with_reducible rfl)
 rotate_left
 ·simp only [Act.put, lA_, lZ_, lS_, i64_w, i32_w]
  rfl
 refine pure_ (i := 39) (N := some 47) (v := ?_) (a' := ?_) #[true, true, true, true, true, true, true, true, true, true, true, true, false, true, true, true, true, true, true, true, true, true, true, true, true, true, true, true, true, true, true, true, true, false, true, true, true, true, true, true, false, false, false, false, false] rfl rfl (by kernel_rfl) (fun _ _ _ h => h) (Or.inl ⟨by rfl, ?_⟩) ?_ ?_
 rotate_left
 ·intro w'
  go_simp
  first | done | (with_reducible rfl)
 rotate_left
 ·simp only [Act.put, lA_, lZ_, lS_, i64_w, i32_w]
  rfl
 refine pure_ (i := 40) (N := some 48) (v := ?_) (a' := ?_) #[true, true, true, true, true, true, true, true, true, true, true, true, false, true, true, true, true, true, true, true, true, true, true, true, true, true, true, true, true, true, true, true, true, false, true, true, true, true, true, true, true, false, false, false, false] rfl rfl (by kernel_rfl) (fun _ _ _ h => h) (Or.inl ⟨by rfl, ?_⟩) ?_ ?_
 rotate_left
 ·intro w'
  go_simp
  first | done | (with_reducible rfl)
 rotate_left
 ·simp only [Act.put, lA_, lZ_, lS_, i64_w, i32_w]
  rfl
 refine take_ (i := 41) (N := some 49) (v := ?_) (a' := ?_) #[true, true, true, true, true, true, true, true, true, true, true, true, false, true, true, true, true, true, true, true, true, true, true, true, true, true, true, true, true, true, true, true, true, false, true, true, true, true, true, true, true, true, false, false, false] rfl rfl (by kernel_rfl) (fun _ _ _ h => h) (Or.inl ⟨by rfl, ?_⟩) hHeld ?_ ?_
 rotate_left
 ·rintro w' ⟨s0, s1, s2, s3, s4, s5, s6, s7, s8, s9, s10, s11⟩
  go_simp
  with_reducible rfl
 rotate_left
 ·simp only [Act.put, lA_, lZ_, lS_, i64_w, i32_w]
  rfl
 refine join_ (σ := Value × Value × Value) 2 #[true, true, true, true, true, true, true, true, true, true, true, true, true, true, true, true, true, true, true, true, true, true, true, true, true, true, true, true, true, true, true, true, true, true, true, true, true, true, true, true, true, true, true, false, false] (fun s_ => [(20, s_.1), (41, s_.2.1), (50, s_.2.2)]) (fun s_ W => (W.cell? ⟨g, 5, none⟩ = some (.int .i64 x5) ∧ W.cell? ⟨g, 7, none⟩ = some (.int .i64 x7) ∧ W.cell? ⟨g, 9, none⟩ = some (.int .i64 x9) ∧ W.cell? ⟨g, 6, none⟩ = some (.int .i64 x6) ∧ W.cell? ⟨g, 8, none⟩ = some (.int .i64 x8) ∧ W.cell? ⟨g, 10, none⟩ = some (.int .i64 x10) ∧ W.cell? ⟨g, 15, none⟩ = some (.int .i64 x15) ∧ W.cell? ⟨g, 16, none⟩ = some (.int .i64 x16) ∧ W.cell? ⟨g3, 0, none⟩ = some (.int .i64 x11) ∧ W.cell? ⟨g3, 1, none⟩ = some (.int .i64 x12) ∧ W.cell? ⟨g3, 2, none⟩ = some (.int .i64 x13) ∧ W.cell? ⟨g3, 3, none⟩ = some (.int .i64 x14)) ∧ Kd.R (Kd.int .i64) 2 W w.heap.size (fun _ => True) s_.1 [x5, x7, x9] ∧ Kd.R (Kd.int .i64) 2 W w.heap.size (fun _ => True) s_.2.1 [x6, x8, x10, x11, x12, x13, x14] ∧ Kd.R (Kd.int .i64) 2 W w.heap.size (fun _ => True) s_.2.2 [x15, x16] ∧ W.heap[g2]? = some (.cells #[.slice none 0 0, .slice none 0 0, .slice none 0 0] 121 (0, 0)) ∧ Below w.heap.size w W) ?_ ?_
 rotate_left
 ·intro hCont
  refine three_ (i := 12) (j := 33) (k := 42) (Ni := some 20) (Nj := some 41) (Nk := some 50) #[true, true, true, true, true, true, true, true, true, true, true, true, true, true, true, true, true, true, true, true, true, true, true, true, true, true, true, true, true, true, true, true, true, false, true, true, true, true, true, true, true, true, false, false, false] #[true, true, true, true, true, true, true, true, true, true, true, true, false, true, true, true, true, true, true, true, true, true, true, true, true, true, true, true, true, true, true, true, true, true, true, true, true, true, true, true, true, true, false, false, false] #[true, true, true, true, true, true, true, true, true, true, true, true, false, true, true, true, true, true, true, true, true, true, true, true, true, true, true, true, true, true, true, true, true, false, true, true, true, true, true, true, true, true, true, false, false] rfl rfl rfl rfl rfl rfl (by kernel_rfl) (by decide) (by decide) (by decide) (fun K hK => ?_) (fun K hK => ?_) (fun K hK => ?_)
  ·skip
   refine Kd.R_lit_step (Kd.int .i64) _ 2 ?hg (N := 20) ?hd (xs := ([x5, x7, x9] : List Int)) (inner := [.int .i64 x5, .int .i64 x7, .int .i64 x9]) (ok := fun _ => True) (okp := fun _ => True) ?hr ?hp (fun _ hk => hk) trivial (Below.refl _ _) (Nat.le_refl _) (by simp) ?_; (case hd => rfl); (case hg => rfl); (case hr => first | (go_simp; done) | (go_simp; rfl)); (case hp => exact repsG_ _)
   intro v20 wE20 ho hb hg_ hnew_
   clear hg_ hnew_
   have R20 := Z_ (Kd.R_lower ho (below_size HB.out))
   have n0_ := Z_ (bB_ BG.out hb)
   have n1_ := Z_ (bB_ B2.out hb)
   have n2_ := Z_ (bB_ B3.out hb)
   have n3_ := Z_ (lP_ HB.out hb)
   clear BG B2 B3 HB ho hb
   have BG := n0_
   have B2 := n1_
   have B3 := n2_
   have HB := n3_
   clear n0_ n1_ n2_ n3_
   refine hK.out _ _ ⟨(blk_cell BG.out 5).trans rfl, (blk_cell BG.out 7).trans rfl, (blk_cell BG.out 9).trans rfl, (blk_cell BG.out 6).trans rfl, (blk_cell BG.out 8).trans rfl, (blk_cell BG.out 10).trans rfl, (blk_cell BG.out 15).trans rfl, (blk_cell BG.out 16).trans rfl, (blk_cell B3.out 0).trans rfl, (blk_cell B3.out 1).trans rfl, (blk_cell B3.out 2).trans rfl, (blk_cell B3.out 3).trans rfl⟩ (fun hHeld => ?_)
   clear hK K
   refine norm_ (a' := ?_) ?_ ?_
   rotate_left
   ·show Act.put _ (some 20) _ = _
    simp only [Act.put, lA_, lZ_, lS_, i64_w, i32_w]
    rfl
   refine two_ (i := 33) (j := 42) (Ni := some 41) (Nj := some 50) #[true, true, true, true, true, true, true, true, true, true, true, true, true, true, true, true, true, true, true, true, true, true, true, true, true, true, true, true, true, true, true, true, true, true, true, true, true, true, true, true, true, true, false, false, false] #[true, true, true, true, true, true, true, true, true, true, true, true, true, true, true, true, true, true, true, true, true, true, true, true, true, true, true, true, true, true, true, true, true, false, true, true, true, true, true, true, true, true, true, false, false] rfl rfl rfl rfl (by kernel_rfl) (by decide) (by decide) (fun K hK => ?_) (fun K hK => ?_)
   ·skip
    refine Kd.R_lit_step (Kd.int .i64) _ 2 ?hg (N := 41) ?hd (xs := ([x6, x8, x10, x11, x12, x13, x14] : List Int)) (inner := [.int .i64 x6, .int .i64 x8, .int .i64 x10, .int .i64 x11, .int .i64 x12, .int .i64 x13, .int .i64 x14]) (ok := fun _ => True) (okp := fun _ => True) ?hr ?hp (fun _ hk => hk) trivial (Below.refl _ _) (Nat.le_refl _) (by simp) ?_; (case hd => rfl); (case hg => rfl); (case hr => first | (go_simp; done) | (go_simp; rfl)); (case hp => exact repsG_ _)
    intro v41 wE41 ho hb hg_ hnew_
    clear hg_ hnew_
    have R41 := Z_ (Kd.R_lower ho (below_size HB.out))
    have n9_ := Z_ (Kd.R_below R20.out hb)
    clear R20
    have R20 := n9_
    clear n9_
    have n0_ := Z_ (bB_ BG.out hb)
    have n1_ := Z_ (bB_ B2.out hb)
    have n2_ := Z_ (bB_ B3.out hb)
    have n3_ := Z_ (lP_ HB.out hb)
    clear BG B2 B3 HB ho hb
    have BG := n0_
    have B2 := n1_
    have B3 := n2_
    have HB := n3_
    clear n0_ n1_ n2_ n3_
    refine hK.out _ _ ⟨(blk_cell BG.out 5).trans rfl, (blk_cell BG.out 7).trans rfl, (blk_cell BG.out 9).trans rfl, (blk_cell BG.out 6).trans rfl, (blk_cell BG.out 8).trans rfl, (blk_cell BG.out 10).trans rfl, (blk_cell BG.out 15).trans rfl, (blk_cell BG.out 16).trans rfl, (blk_cell B3.out 0).trans rfl, (blk_cell B3.out 1).trans rfl, (blk_cell B3.out 2).trans rfl, (blk_cell B3.out 3).trans rfl⟩ (fun hHeld => ?_)
    clear hK K
    refine norm_ (a' := ?_) ?_ ?_
    rotate_left
    ·show Act.put _ (some 41) _ = _
     simp only [Act.put, lA_, lZ_, lS_, i64_w, i32_w]
     rfl
    refine one_ (i := 42) (N := some 50) #[true, true, true, true, true, true, true, true, true, true, true, true, true, true, true, true, true, true, true, true, true, true, true, true, true, true, true, true, true, true, true, true, true, true, true, true, true, true, true, true, true, true, true, false, false] rfl rfl (by kernel_rfl) (by decide) (fun K hK => ?_)
    refine Kd.R_lit_step (Kd.int .i64) _ 2 ?hg (N := 50) ?hd (xs := ([x15, x16] : List Int)) (inner := [.int .i64 x15, .int .i64 x16]) (ok := fun _ => True) (okp := fun _ => True) ?hr ?hp (fun _ hk => hk) trivial (Below.refl _ _) (Nat.le_refl _) (by simp) ?_; (case hd => rfl); (case hg => rfl); (case hr => first | (go_simp; done) | (go_simp; rfl)); (case hp => exact repsG_ _)
    intro v50 wE50 ho hb hg_ hnew_
    clear hg_ hnew_
    have R50 := Z_ (Kd.R_lower ho (below_size HB.out))
    have n9_ := Z_ (Kd.R_below R20.out hb)
    clear R20
    have R20 := n9_
    clear n9_
    have n9_ := Z_ (Kd.R_below R41.out hb)
    clear R41
    have R41 := n9_
    clear n9_
    have n0_ := Z_ (bB_ BG.out hb)
    have n1_ := Z_ (bB_ B2.out hb)
    have n2_ := Z_ (bB_ B3.out hb)
    have n3_ := Z_ (lP_ HB.out hb)
    clear BG B2 B3 HB ho hb
    have BG := n0_
    have B2 := n1_
    have B3 := n2_
    have HB := n3_
    clear n0_ n1_ n2_ n3_
    refine hK.out _ _ ⟨(blk_cell BG.out 5).trans rfl, (blk_cell BG.out 7).trans rfl, (blk_cell BG.out 9).trans rfl, (blk_cell BG.out 6).trans rfl, (blk_cell BG.out 8).trans rfl, (blk_cell BG.out 10).trans rfl, (blk_cell BG.out 15).trans rfl, (blk_cell BG.out 16).trans rfl, (blk_cell B3.out 0).trans rfl, (blk_cell B3.out 1).trans rfl, (blk_cell B3.out 2).trans rfl, (blk_cell B3.out 3).trans rfl⟩ (fun hHeld => ?_)
    clear hK K
    refine norm_ (a' := ?_) ?_ ?_
    rotate_left
    ·show Act.put _ (some 50) _ = _
     simp only [Act.put, lA_, lZ_, lS_, i64_w, i32_w]
     rfl
    exact norm_ (by simp only [putAll, Act.put, lA_, lZ_, lS_]) (hCont (v20, v41, v50) _ ⟨hHeld, R20.out, R41.out, R50.out, B2.out, HB.out⟩)
   ·skip
    refine Kd.R_lit_step (Kd.int .i64) _ 2 ?hg (N := 50) ?hd (xs := ([x15, x16] : List Int)) (inner := [.int .i64 x15, .int .i64 x16]) (ok := fun _ => True) (okp := fun _ => True) ?hr ?hp (fun _ hk => hk) trivial (Below.refl _ _) (Nat.le_refl _) (by simp) ?_; (case hd => rfl); (case hg => rfl); (case hr => first | (go_simp; done) | (go_simp; rfl)); (case hp => exact repsG_ _)
    intro v50 wE50 ho hb hg_ hnew_
    clear hg_ hnew_
    have R50 := Z_ (Kd.R_lower ho (below_size HB.out))
    have n9_ := Z_ (Kd.R_below R20.out hb)
    clear R20
    have R20 := n9_
    clear n9_
    have n0_ := Z_ (bB_ BG.out hb)
    have n1_ := Z_ (bB_ B2.out hb)
    have n2_ := Z_ (bB_ B3.out hb)
    have n3_ := Z_ (lP_ HB.out hb)
    clear BG B2 B3 HB ho hb
    have BG := n0_
    have B2 := n1_
    have B3 := n2_
    have HB := n3_
    clear n0_ n1_ n2_ n3_
    refine hK.out _ _ ⟨(blk_cell BG.out 5).trans rfl, (blk_cell BG.out 7).trans rfl, (blk_cell BG.out 9).trans rfl, (blk_cell BG.out 6).trans rfl, (blk_cell BG.out 8).trans rfl, (blk_cell BG.out 10).trans rfl, (blk_cell BG.out 15).trans rfl, (blk_cell BG.out 16).trans rfl, (blk_cell B3.out 0).trans rfl, (blk_cell B3.out 1).trans rfl, (blk_cell B3.out 2).trans rfl, (blk_cell B3.out 3).trans rfl⟩ (fun hHeld => ?_)
    clear hK K
    refine norm_ (a' := ?_) ?_ ?_
    rotate_left
    ·show Act.put _ (some 50) _ = _
     simp only [Act.put, lA_, lZ_, lS_, i64_w, i32_w]
     rfl
    refine one_ (i := 33) (N := some 41) #[true, true, true, true, true, true, true, true, true, true, true, true, true, true, true, true, true, true, true, true, true, true, true, true, true, true, true, true, true, true, true, true, true, true, true, true, true, true, true, true, true, true, true, false, false] rfl rfl (by kernel_rfl) (by decide) (fun K hK => ?_)
    refine Kd.R_lit_step (Kd.int .i64) _ 2 ?hg (N := 41) ?hd (xs := ([x6, x8, x10, x11, x12, x13, x14] : List Int)) (inner := [.int .i64 x6, .int .i64 x8, .int .i64 x10, .int .i64 x11, .int .i64 x12, .int .i64 x13, .int .i64 x14]) (ok := fun _ => True) (okp := fun _ => True) ?hr ?hp (fun _ hk => hk) trivial (Below.refl _ _) (Nat.le_refl _) (by simp) ?_; (case hd => rfl); (case hg => rfl); (case hr => first | (go_simp; done) | (go_simp; rfl)); (case hp => exact repsG_ _)
    intro v41 wE41 ho hb hg_ hnew_
    clear hg_ hnew_
    have R41 := Z_ (Kd.R_lower ho (below_size HB.out))
    have n9_ := Z_ (Kd.R_below R20.out hb)
    clear R20
    have R20 := n9_
    clear n9_
    have n9_ := Z_ (Kd.R_below R50.out hb)
    clear R50
    have R50 := n9_
    clear n9_
    have n0_ := Z_ (bB_ BG.out hb)
    have n1_ := Z_ (bB_ B2.out hb)
    have n2_ := Z_ (bB_ B3.out hb)
    have n3_ := Z_ (lP_ HB.out hb)
    clear BG B2 B3 HB ho hb
    have BG := n0_
    have B2 := n1_
    have B3 := n2_
    have HB := n3_
    clear n0_ n1_ n2_ n3_
    refine hK.out _ _ ⟨(blk_cell BG.out 5).trans rfl, (blk_cell BG.out 7).trans rfl, (blk_cell BG.out 9).trans rfl, (blk_cell BG.out 6).trans rfl, (blk_cell BG.out 8).trans rfl, (blk_cell BG.out 10).trans rfl, (blk_cell BG.out 15).trans rfl, (blk_cell BG.out 16).trans rfl, (blk_cell B3.out 0).trans rfl, (blk_cell B3.out 1).trans rfl, (blk_cell B3.out 2).trans rfl, (blk_cell B3.out 3).trans rfl⟩ (fun hHeld => ?_)
    clear hK K
    refine norm_ (a' := ?_) ?_ ?_
    rotate_left
    ·show Act.put _ (some 41) _ = _
     simp only [Act.put, lA_, lZ_, lS_, i64_w, i32_w]
     rfl
    exact norm_ (by simp only [putAll, Act.put, lA_, lZ_, lS_]) (hCont (v20, v41, v50) _ ⟨hHeld, R20.out, R41.out, R50.out, B2.out, HB.out⟩)
  ·skip
   refine Kd.R_lit_step (Kd.int .i64) _ 2 ?hg (N := 41) ?hd (xs := ([x6, x8, x10, x11, x12, x13, x14] : List Int)) (inner := [.int .i64 x6, .int .i64 x8, .int .i64 x10, .int .i64 x11, .int .i64 x12, .int .i64 x13, .int .i64 x14]) (ok := fun _ => True) (okp := fun _ => True) ?hr ?hp (fun _ hk => hk) trivial (Below.refl _ _) (Nat.le_refl _) (by simp) ?_; (case hd => rfl); (case hg => rfl); (case hr => first | (go_simp; done) | (go_simp; rfl)); (case hp => exact repsG_ _)
   intro v41 wE41 ho hb hg_ hnew_
   clear hg_ hnew_
   have R41 := Z_ (Kd.R_lower ho (below_size HB.out))
   have n0_ := Z_ (bB_ BG.out hb)
   have n1_ := Z_ (bB_ B2.out hb)
   have n2_ := Z_ (bB_ B3.out hb)
   have n3_ := Z_ (lP_ HB.out hb)
   clear BG B2 B3 HB ho hb
   have BG := n0_
   have B2 := n1_
   have B3 := n2_
   have HB := n3_
   clear n0_ n1_ n2_ n3_
   refine hK.out _ _ ⟨(blk_cell BG.out 5).trans rfl, (blk_cell BG.out 7).trans rfl, (blk_cell BG.out 9).trans rfl, (blk_cell BG.out 6).trans rfl, (blk_cell BG.out 8).trans rfl, (blk_cell BG.out 10).trans rfl, (blk_cell BG.out 15).trans rfl, (blk_cell BG.out 16).trans rfl, (blk_cell B3.out 0).trans rfl, (blk_cell B3.out 1).trans rfl, (blk_cell B3.out 2).trans rfl, (blk_cell B3.out 3).trans rfl⟩ (fun hHeld => ?_)
   clear hK K
   refine norm_ (a' := ?_) ?_ ?_
   rotate_left
   ·show Act.put _ (some 41) _ = _
    simp only [Act.put, lA_, lZ_, lS_, i64_w, i32_w]
    rfl
   refine two_ (i := 12) (j := 42) (Ni := some 20) (Nj := some 50) #[true, true, true, true, true, true, true, true, true, true, true, true, true, true, true, true, true, true, true, true, true, true, true, true, true, true, true, true, true, true, true, true, true, true, true, true, true, true, true, true, true, true, false, false, false] #[true, true, true, true, true, true, true, true, true, true, true, true, false, true, true, true, true, true, true, true, true, true, true, true, true, true, true, true, true, true, true, true, true, true, true, true, true, true, true, true, true, true, true, false, false] rfl rfl rfl rfl (by kernel_rfl) (by decide) (by decide) (fun K hK => ?_) (fun K hK => ?_)
   ·skip
    refine Kd.R_lit_step (Kd.int .i64) _ 2 ?hg (N := 20) ?hd (xs := ([x5, x7, x9] : List Int)) (inner := [.int .i64 x5, .int .i64 x7, .int .i64 x9]) (ok := fun _ => True) (okp := fun _ => True) ?hr ?hp (fun _ hk => hk) trivial (Below.refl _ _) (Nat.le_refl _) (by simp) ?_; (case hd => rfl); (case hg => rfl); (case hr => first | (go_simp; done) | (go_simp; rfl)); (case hp => exact repsG_ _)
    intro v20 wE20 ho hb hg_ hnew_
    clear hg_ hnew_
    have R20 := Z_ (Kd.R_lower ho (below_size HB.out))
    have n9_ := Z_ (Kd.R_below R41.out hb)
    clear R41
    have R41 := n9_
    clear n9_
    have n0_ := Z_ (bB_ BG.out hb)
    have n1_ := Z_ (bB_ B2.out hb)
    have n2_ := Z_ (bB_ B3.out hb)
    have n3_ := Z_ (lP_ HB.out hb)
    clear BG B2 B3 HB ho hb
    have BG := n0_
    have B2 := n1_
    have B3 := n2_
    have HB := n3_
    clear n0_ n1_ n2_ n3_
    refine hK.out _ _ ⟨(blk_cell BG.out 5).trans rfl, (blk_cell BG.out 7).trans rfl, (blk_cell BG.out 9).trans rfl, (blk_cell BG.out 6).trans rfl, (blk_cell BG.out 8).trans rfl, (blk_cell BG.out 10).trans rfl, (blk_cell BG.out 15).trans rfl, (blk_cell BG.out 16).trans rfl, (blk_cell B3.out 0).trans rfl, (blk_cell B3.out 1).trans rfl, (blk_cell B3.out 2).trans rfl, (blk_cell B3.out 3).trans rfl⟩ (fun hHeld => ?_)
    clear hK K
    refine norm_ (a' := ?_) ?_ ?_
    rotate_left
    ·show Act.put _ (some 20) _ = _
     simp only [Act.put, lA_, lZ_, lS_, i64_w, i32_w]
     rfl
    refine one_ (i := 42) (N := some 50) #[true, true, true, true, true, true, true, true, true, true, true, true, true, true, true, true, true, true, true, true, true, true, true, true, true, true, true, true, true, true, true, true, true, true, true, true, true, true, true, true, true, true, true, false, false] rfl rfl (by kernel_rfl) (by decide) (fun K hK => ?_)
    refine Kd.R_lit_step (Kd.int .i64) _ 2 ?hg (N := 50) ?hd (xs := ([x15, x16] : List Int)) (inner := [.int .i64 x15, .int .i64 x16]) (ok := fun _ => True) (okp := fun _ => True) ?hr ?hp (fun _ hk => hk) trivial (Below.refl _ _) (Nat.le_refl _) (by simp) ?_; (case hd => rfl); (case hg => rfl); (case hr => first | (go_simp; done) | (go_simp; rfl)); (case hp => exact repsG_ _)
    intro v50 wE50 ho hb hg_ hnew_
    clear hg_ hnew_
    have R50 := Z_ (Kd.R_lower ho (below_size HB.out))
    have n9_ := Z_ (Kd.R_below R41.out hb)
    clear R41
    have R41 := n9_
    clear n9_
    have n9_ := Z_ (Kd.R_below R20.out hb)
    clear R20
    have R20 := n9_
    clear n9_
    have n0_ := Z_ (bB_ BG.out hb)
    have n1_ := Z_ (bB_ B2.out hb)
    have n2_ := Z_ (bB_ B3.out hb)
    have n3_ := Z_ (lP_ HB.out hb)
    clear BG B2 B3 HB ho hb
    have BG := n0_
    have B2 := n1_
    have B3 := n2_
    have HB := n3_
    clear n0_ n1_ n2_ n3_
    refine hK.out _ _ ⟨(blk_cell BG.out 5).trans rfl, (blk_cell BG.out 7).trans rfl, (blk_cell BG.out 9).trans rfl, (blk_cell BG.out 6).trans rfl, (blk_cell BG.out 8).trans rfl, (blk_cell BG.out 10).trans rfl, (blk_cell BG.out 15).trans rfl, (blk_cell BG.out 16).trans rfl, (blk_cell B3.out 0).trans rfl, (blk_cell B3.out 1).trans rfl, (blk_cell B3.out 2).trans rfl, (blk_cell B3.out 3).trans rfl⟩ (fun hHeld => ?_)
    clear hK K
    refine norm_ (a' := ?_) ?_ ?_
    rotate_left
    ·show Act.put _ (some 50) _ = _
     simp only [Act.put, lA_, lZ_, lS_, i64_w, i32_w]
     rfl
    exact norm_ (by simp only [putAll, Act.put, lA_, lZ_, lS_]) (hCont (v20, v41, v50) _ ⟨hHeld, R20.out, R41.out, R50.out, B2.out, HB.out⟩)
   ·skip
    refine Kd.R_lit_step (Kd.int .i64) _ 2 ?hg (N := 50) ?hd (xs := ([x15, x16] : List Int)) (inner := [.int .i64 x15, .int .i64 x16]) (ok := fun _ => True) (okp := fun _ => True) ?hr ?hp (fun _ hk => hk) trivial (Below.refl _ _) (Nat.le_refl _) (by simp) ?_; (case hd => rfl); (case hg => rfl); (case hr => first | (go_simp; done) | (go_simp; rfl)); (case hp => exact repsG_ _)
    intro v50 wE50 ho hb hg_ hnew_
    clear hg_ hnew_
    have R50 := Z_ (Kd.R_lower ho (below_size HB.out))
    have n9_ := Z_ (Kd.R_below R41.out hb)
    clear R41
    have R41 := n9_
    clear n9_
    have n0_ := Z_ (bB_ BG.out hb)
    have n1_ := Z_ (bB_ B2.out hb)
    have n2_ := Z_ (bB_ B3.out hb)
    have n3_ := Z_ (lP_ HB.out hb)
    clear BG B2 B3 HB ho hb
    have BG := n0_
    have B2 := n1_
    have B3 := n2_
    have HB := n3_
    clear n0_ n1_ n2_ n3_
    refine hK.out _ _ ⟨(blk_cell BG.out 5).trans rfl, (blk_cell BG.out 7).trans rfl, (blk_cell BG.out 9).trans rfl, (blk_cell BG.out 6).trans rfl, (blk_cell BG.out 8).trans rfl, (blk_cell BG.out 10).trans rfl, (blk_cell BG.out 15).trans rfl, (blk_cell BG.out 16).trans rfl, (blk_cell B3.out 0).trans rfl, (blk_cell B3.out 1).trans rfl, (blk_cell B3.out 2).trans rfl, (blk_cell B3.out 3).trans rfl⟩ (fun hHeld => ?_)
    clear hK K
    refine norm_ (a' := ?_) ?_ ?_
    rotate_left
    ·show Act.put _ (some 50) _ = _
     simp only [Act.put, lA_, lZ_, lS_, i64_w, i32_w]
     rfl
    refine one_ (i := 12) (N := some 20) #[true, true, true, true, true, true, true, true, true, true, true, true, true, true, true, true, true, true, true, true, true, true, true, true, true, true, true, true, true, true, true, true, true, true, true, true, true, true, true, true, true, true, true, false, false] rfl rfl (by kernel_rfl) (by decide) (fun K hK => ?_)
    refine Kd.R_lit_step (Kd.int .i64) _ 2 ?hg (N := 20) ?hd (xs := ([x5, x7, x9] : List Int)) (inner := [.int .i64 x5, .int .i64 x7, .int .i64 x9]) (ok := fun _ => True) (okp := fun _ => True) ?hr ?hp (fun _ hk => hk) trivial (Below.refl _ _) (Nat.le_refl _) (by simp) ?_; (case hd => rfl); (case hg => rfl); (case hr => first | (go_simp; done) | (go_simp; rfl)); (case hp => exact repsG_ _)
    intro v20 wE20 ho hb hg_ hnew_
    clear hg_ hnew_
    have R20 := Z_ (Kd.R_lower ho (below_size HB.out))
    have n9_ := Z_ (Kd.R_below R41.out hb)
    clear R41
    have R41 := n9_
    clear n9_
    have n9_ := Z_ (Kd.R_below R50.out hb)
    clear R50
    have R50 := n9_
    clear n9_
    have n0_ := Z_ (bB_ BG.out hb)
    have n1_ := Z_ (bB_ B2.out hb)
    have n2_ := Z_ (bB_ B3.out hb)
    have n3_ := Z_ (lP_ HB.out hb)
    clear BG B2 B3 HB ho hb
    have BG := n0_
    have B2 := n1_
    have B3 := n2_
    have HB := n3_
    clear n0_ n1_ n2_ n3_
    refine hK.out _ _ ⟨(blk_cell BG.out 5).trans rfl, (blk_cell BG.out 7).trans rfl, (blk_cell BG.out 9).trans rfl, (blk_cell BG.out 6).trans rfl, (blk_cell BG.out 8).trans rfl, (blk_cell BG.out 10).trans rfl, (blk_cell BG.out 15).trans rfl, (blk_cell BG.out 16).trans rfl, (blk_cell B3.out 0).trans rfl, (blk_cell B3.out 1).trans rfl, (blk_cell B3.out 2).trans rfl, (blk_cell B3.out 3).trans rfl⟩ (fun hHeld => ?_)
    clear hK K
    refine norm_ (a' := ?_) ?_ ?_
    rotate_left
    ·show Act.put _ (some 20) _ = _
     simp only [Act.put, lA_, lZ_, lS_, i64_w, i32_w]
     rfl
    exact norm_ (by simp only [putAll, Act.put, lA_, lZ_, lS_]) (hCont (v20, v41, v50) _ ⟨hHeld, R20.out, R41.out, R50.out, B2.out, HB.out⟩)
  ·skip
   refine Kd.R_lit_step (Kd.int .i64) _ 2 ?hg (N := 50) ?hd (xs := ([x15, x16] : List Int)) (inner := [.int .i64 x15, .int .i64 x16]) (ok := fun _ => True) (okp := fun _ => True) ?hr ?hp (fun _ hk => hk) trivial (Below.refl _ _) (Nat.le_refl _) (by simp) ?_; (case hd => rfl); (case hg => rfl); (case hr => first | (go_simp; done) | (go_simp; rfl)); (case hp => exact repsG_ _)
   intro v50 wE50 ho hb hg_ hnew_
   clear hg_ hnew_
   have R50 := Z_ (Kd.R_lower ho (below_size HB.out))
   have n0_ := Z_ (bB_ BG.out hb)
   have n1_ := Z_ (bB_ B2.out hb)
   have n2_ := Z_ (bB_ B3.out hb)
   have n3_ := Z_ (lP_ HB.out hb)
   clear BG B2 B3 HB ho hb
   have BG := n0_
   have B2 := n1_
   have B3 := n2_
   have HB := n3_
   clear n0_ n1_ n2_ n3_
   refine hK.out _ _ ⟨(blk_cell BG.out 5).trans rfl, (blk_cell BG.out 7).trans rfl, (blk_cell BG.out 9).trans rfl, (blk_cell BG.out 6).trans rfl, (blk_cell BG.out 8).trans rfl, (blk_cell BG.out 10).trans rfl, (blk_cell BG.out 15).trans rfl, (blk_cell BG.out 16).trans rfl, (blk_cell B3.out 0).trans rfl, (blk_cell B3.out 1).trans rfl, (blk_cell B3.out 2).trans rfl, (blk_cell B3.out 3).trans rfl⟩ (fun hHeld => ?_)
   clear hK K
   refine norm_ (a' := ?_) ?_ ?_
   rotate_left
   ·show Act.put _ (some 50) _ = _
    simp only [Act.put, lA_, lZ_, lS_, i64_w, i32_w]
    rfl
   refine two_ (i := 12) (j := 33) (Ni := some 20) (Nj := some 41) #[true, true, true, true, true, true, true, true, true, true, true, true, true, true, true, true, true, true, true, true, true, true, true, true, true, true, true, true, true, true, true, true, true, false, true, true, true, true, true, true, true, true, true, false, false] #[true, true, true, true, true, true, true, true, true, true, true, true, false, true, true, true, true, true, true, true, true, true, true, true, true, true, true, true, true, true, true, true, true, true, true, true, true, true, true, true, true, true, true, false, false] rfl rfl rfl rfl (by kernel_rfl) (by decide) (by decide) (fun K hK => ?_) (fun K hK => ?_)
   ·skip
    refine Kd.R_lit_step (Kd.int .i64) _ 2 ?hg (N := 20) ?hd (xs := ([x5, x7, x9] : List Int)) (inner := [.int .i64 x5, .int .i64 x7, .int .i64 x9]) (ok := fun _ => True) (okp := fun _ => True) ?hr ?hp (fun _ hk => hk) trivial (Below.refl _ _) (Nat.le_refl _) (by simp) ?_; (case hd => rfl); (case hg => rfl); (case hr => first | (go_simp; done) | (go_simp; rfl)); (case hp => exact repsG_ _)
    intro v20 wE20 ho hb hg_ hnew_
    clear hg_ hnew_
    have R20 := Z_ (Kd.R_lower ho (below_size HB.out))
    have n9_ := Z_ (Kd.R_below R50.out hb)
    clear R50
    have R50 := n9_
    clear n9_
    have n0_ := Z_ (bB_ BG.out hb)
    have n1_ := Z_ (bB_ B2.out hb)
    have n2_ := Z_ (bB_ B3.out hb)
    have n3_ := Z_ (lP_ HB.out hb)
    clear BG B2 B3 HB ho hb
    have BG := n0_
    have B2 := n1_
    have B3 := n2_
    have HB := n3_
    clear n0_ n1_ n2_ n3_
    refine hK.out _ _ ⟨(blk_cell BG.out 5).trans rfl, (blk_cell BG.out 7).trans rfl, (blk_cell BG.out 9).trans rfl, (blk_cell BG.out 6).trans rfl, (blk_cell BG.out 8).trans rfl, (blk_cell BG.out 10).trans rfl, (blk_cell BG.out 15).trans rfl, (blk_cell BG.out 16).trans rfl, (blk_cell B3.out 0).trans rfl, (blk_cell B3.out 1).trans rfl, (blk_cell B3.out 2).trans rfl, (blk_cell B3.out 3).trans rfl⟩ (fun hHeld => ?_)
    clear hK K
    refine norm_ (a' := ?_) ?_ ?_
    rotate_left
    ·show Act.put _ (some 20) _ = _
     simp only [Act.put, lA_, lZ_, lS_, i64_w, i32_w]
     rfl
    refine one_ (i := 33) (N := some 41) #[true, true, true, true, true, true, true, true, true, true, true, true, true, true, true, true, true, true, true, true, true, true, true, true, true, true, true, true, true, true, true, true, true, true, true, true, true, true, true, true, true, true, true, false, false] rfl rfl (by kernel_rfl) (by decide) (fun K hK => ?_)
    refine Kd.R_lit_step (Kd.int .i64) _ 2 ?hg (N := 41) ?hd (xs := ([x6, x8, x10, x11, x12, x13, x14] : List Int)) (inner := [.int .i64 x6, .int .i64 x8, .int .i64 x10, .int .i64 x11, .int .i64 x12, .int .i64 x13, .int .i64 x14]) (ok := fun _ => True) (okp := fun _ => True) ?hr ?hp (fun _ hk => hk) trivial (Below.refl _ _) (Nat.le_refl _) (by simp) ?_; (case hd => rfl); (case hg => rfl); (case hr => first | (go_simp; done) | (go_simp; rfl)); (case hp => exact repsG_ _)
    intro v41 wE41 ho hb hg_ hnew_
    clear hg_ hnew_
    have R41 := Z_ (Kd.R_lower ho (below_size HB.out))
    have n9_ := Z_ (Kd.R_below R50.out hb)
    clear R50
    have R50 := n9_
    clear n9_
    have n9_ := Z_ (Kd.R_below R20.out hb)
    clear R20
    have R20 := n9_
    clear n9_
    have n0_ := Z_ (bB_ BG.out hb)
    have n1_ := Z_ (bB_ B2.out hb)
    have n2_ := Z_ (bB_ B3.out hb)
    have n3_ := Z_ (lP_ HB.out hb)
    clear BG B2 B3 HB ho hb
    have BG := n0_
    have B2 := n1_
    have B3 := n2_
    have HB := n3_
    clear n0_ n1_ n2_ n3_
    refine hK.out _ _ ⟨(blk_cell BG.out 5).trans rfl, (blk_cell BG.out 7).trans rfl, (blk_cell BG.out 9).trans rfl, (blk_cell BG.out 6).trans rfl, (blk_cell BG.out 8).trans rfl, (blk_cell BG.out 10).trans rfl, (blk_cell BG.out 15).trans rfl, (blk_cell BG.out 16).trans rfl, (blk_cell B3.out 0).trans rfl, (blk_cell B3.out 1).trans rfl, (blk_cell B3.out 2).trans rfl, (blk_cell B3.out 3).trans rfl⟩ (fun hHeld => ?_)
    clear hK K
    refine norm_ (a' := ?_) ?_ ?_
    rotate_left
    ·show Act.put _ (some 41) _ = _
     simp only [Act.put, lA_, lZ_, lS_, i64_w, i32_w]
     rfl
    exact norm_ (by simp only [putAll, Act.put, lA_, lZ_, lS_]) (hCont (v20, v41, v50) _ ⟨hHeld, R20.out, R41.out, R50.out, B2.out, HB.out⟩)
   ·skip
    refine Kd.R_lit_step (Kd.int .i64) _ 2 ?hg (N := 41) ?hd (xs := ([x6, x8, x10, x11, x12, x13, x14] : List Int)) (inner := [.int .i64 x6, .int .i64 x8, .int .i64 x10, .int .i64 x11, .int .i64 x12, .int .i64 x13, .int .i64 x14]) (ok := fun _ => True) (okp := fun _ => True) ?hr ?hp (fun _ hk => hk) trivial (Below.refl _ _) (Nat.le_refl _) (by simp) ?_; (case hd => rfl); (case hg => rfl); (case hr => first | (go_simp; done) | (go_simp; rfl)); (case hp => exact repsG_ _)
    intro v41 wE41 ho hb hg_ hnew_
    clear hg_ hnew_
    have R41 := Z_ (Kd.R_lower ho (below_size HB.out))
    have n9_ := Z_ (Kd.R_below R50.out hb)
    clear R50
    have R50 := n9_
    clear n9_
    have n0_ := Z_ (bB_ BG.out hb)
    have n1_ := Z_ (bB_ B2.out hb)
    have n2_ := Z_ (bB_ B3.out hb)
    have n3_ := Z_ (lP_ HB.out hb)
    clear BG B2 B3 HB ho hb
    have BG := n0_
    have B2 := n1_
    have B3 := n2_
    have HB := n3_
    clear n0_ n1_ n2_ n3_
    refine hK.out _ _ ⟨(blk_cell BG.out 5).trans rfl, (blk_cell BG.out 7).trans rfl, (blk_cell BG.out 9).trans rfl, (blk_cell BG.out 6).trans rfl, (blk_cell BG.out 8).trans rfl, (blk_cell BG.out 10).trans rfl, (blk_cell BG.out 15).trans rfl, (blk_cell BG.out 16).trans rfl, (blk_cell B3.out 0).trans rfl, (blk_cell B3.out 1).trans rfl, (blk_cell B3.out 2).trans rfl, (blk_cell B3.out 3).trans rfl⟩ (fun hHeld => ?_)
    clear hK K
    refine norm_ (a' := ?_) ?_ ?_
    rotate_left
    ·show Act.put _ (some 41) _ = _
     simp only [Act.put, lA_, lZ_, lS_, i64_w, i32_w]
     rfl
    refine one_ (i := 12) (N := some 20) #[true, true, true, true, true, true, true, true, true, true, true, true, true, true, true, true, true, true, true, true, true, true, true, true, true, true, true, true, true, true, true, true, true, true, true, true, true, true, true, true, true, true, true, false, false] rfl rfl (by kernel_rfl) (by decide) (fun K hK => ?_)
    refine Kd.R_lit_step (Kd.int .i64) _ 2 ?hg (N := 20) ?hd (xs := ([x5, x7, x9] : List Int)) (inner := [.int .i64 x5, .int .i64 x7, .int .i64 x9]) (ok := fun _ => True) (okp := fun _ => True) ?hr ?hp (fun _ hk => hk) trivial (Below.refl _ _) (Nat.le_refl _) (by simp) ?_; (case hd => rfl); (case hg => rfl); (case hr => first | (go_simp; done) | (go_simp; rfl)); (case hp => exact repsG_ _)
    intro v20 wE20 ho hb hg_ hnew_
    clear hg_ hnew_
    have R20 := Z_ (Kd.R_lower ho (below_size HB.out))
    have n9_ := Z_ (Kd.R_below R50.out hb)
    clear R50
    have R50 := n9_
    clear n9_
    have n9_ := Z_ (Kd.R_below R41.out hb)
    clear R41
    have R41 := n9_
    clear n9_
    have n0_ := Z_ (bB_ BG.out hb)
    have n1_ := Z_ (bB_ B2.out hb)
    have n2_ := Z_ (bB_ B3.out hb)
    have n3_ := Z_ (lP_ HB.out hb)
    clear BG B2 B3 HB ho hb
    have BG := n0_
    have B2 := n1_
    have B3 := n2_
    have HB := n3_
    clear n0_ n1_ n2_ n3_
    refine hK.out _ _ ⟨(blk_cell BG.out 5).trans rfl, (blk_cell BG.out 7).trans rfl, (blk_cell BG.out 9).trans rfl, (blk_cell BG.out 6).trans rfl, (blk_cell BG.out 8).trans rfl, (blk_cell BG.out 10).trans rfl, (blk_cell BG.out 15).trans rfl, (blk_cell BG.out 16).trans rfl, (blk_cell B3.out 0).trans rfl, (blk_cell B3.out 1).trans rfl, (blk_cell B3.out 2).trans rfl, (blk_cell B3.out 3).trans rfl⟩ (fun hHeld => ?_)
    clear hK K
    refine norm_ (a' := ?_) ?_ ?_
    rotate_left
    ·show Act.put _ (some 20) _ = _
     simp only [Act.put, lA_, lZ_, lS_, i64_w, i32_w]
     rfl
    exact norm_ (by simp only [putAll, Act.put, lA_, lZ_, lS_]) (hCont (v20, v41, v50) _ ⟨hHeld, R20.out, R41.out, R50.out, B2.out, HB.out⟩)
 rintro ⟨v20, v41, v50⟩ wJ ⟨hHeld, r20, r41, r50, b2, hb⟩
 clear BG B2 B3 HB
 have R20 := Z_ r20
 have R41 := Z_ r41
 have R50 := Z_ r50
 have B2 := Z_ b2
 have HB := Z_ hb
 clear r20 r41 r50 b2 hb
 obtain ⟨A20, c20, e20⟩ := Kd.R_slice R20.out
 subst e20
 obtain ⟨A41, c41, e41⟩ := Kd.R_slice R41.out
 subst e41
 obtain ⟨A50, c50, e50⟩ := Kd.R_slice R50.out
 subst e50
 refine norm_ (a' := ?_) ?_ ?_
 rotate_left
 ·simp only [putAll, Act.put, lA_, lZ_, lS_]
  rfl
 refine pure_ (i := 43) (N := some 51) (v := ?_) (a' := ?_) #[true, true, true, true, true, true, true, true, true, true, true, true, true, true, true, true, true, true, true, true, true, true, true, true, true, true, true, true, true, true, true, true, true, true, true, true, true, true, true, true, true, true, true, true, false] rfl rfl (by kernel_rfl) (fun _ _ _ h => h) (Or.inl ⟨by rfl, ?_⟩) ?_ ?_
 rotate_left
 ·intro w'
  go_simp
  first | done | (with_reducible rfl)
 rotate_left
 ·simp only [Act.put, lA_, lZ_, lS_, i64_w, i32_w]
  rfl
 refine last_ (i := 44) (N := none) #[true, true, true, true, true, true, true, true, true, true, true, true, true, true, true, true, true, true, true, true, true, true, true, true, true, true, true, true, true, true, true, true, true, true, true, true, true, true, true, true, true, true, true, true, true] rfl rfl (by kernel_rfl) (by decide) (fun K hK => ?_)
 obtain ⟨_, _, _, _, _, _⟩ := bc3 B2.out
 refine skip_ (w1 := ?_) (by rfl) rfl ?_ ?_
 rotate_left
 ·go_simp
  rfl
 refine hK.out _ _ ?_
 clear hK K
 refine done_ (by kernel_rfl) ?_
 try go_wp2
 refine bodyPost_ret (results_cell_row rfl _ _ g2 121 #[.slice A20 3 c20, .slice A41 7 c41, .slice A50 2 c50] (0, 0) _ rfl (by apply fill3; exact B2.out) Try.underlying121 rfl (by kernel_rfl)) rfl ?_
 refine ⟨_, _, _, rfl, ?_, ?_, ?_, lS1_ (lS1_ (lS1_ HB.out Sg2.out) Sg2.out) Sg2.out⟩
 ·exact Kd.R_mono (rfar3 (g := g2) (Kd.R_types R20.out B2.out (by decide)) (fun _ hk => hk.2)) (fun _ hk => trivial)
 ·exact Kd.R_mono (rfar3 (g := g2) (Kd.R_types R41.out B2.out (by decide)) (fun _ hk => hk.2)) (fun _ hk => trivial)
 ·exact Kd.R_mono (rfar3 (g := g2) (Kd.R_types R50.out B2.out (by decide)) (fun _ hk => hk.2)) (fun _ hk => trivial)
def tkP (l0 : List S76) (b : Bool) (x : Int) : Bool := if b = true then notIn l0 x else x != -1
def tkAny (l0 : List S76) (st i : Int) (xs : List Int) : Bool := xs.any (tkP l0 (decide (st > i)))
def impl_TalkFault.f (k : Nat) (l0 : List S76) (x0 x1 x2 x3 x4 x5 x6 x7 x8 x9 x10 x11 x12 x13 x14 x15 x16 x17 x18 x19 : Int) : Option Int :=
  if (decide (0 ≤ x0 ∧ x0 ≤ 9) && decide (1 ≤ x1 ∧ x1 ≤ 2) && decide (1 ≤ x2 ∧ x2 ≤ 3) && decide (0 ≤ x3 ∧ x3 ≤ 9999) && decide (0 ≤ x4 ∧ x4 ≤ 9999) && decide (0 ≤ x17 ∧ x17 ≤ 9999)) = true then (impl_WindowFault.f k x18 x19).bind fun c => (if c = 0 then ((impl_Talk_formOk.f k x0 x1 x2 x3 x4 x5 x6 x7 x8 x9 x10 x11 x12 x13 x14 x15 x16 x17 x18 x19).bind fun b => (if b.1 = true then (if (tkAny l0 x2 0 [x5, x7, x9] || tkAny l0 x2 1 [x6, x8, x10, x11, x12, x13, x14] || tkAny l0 x2 2 [x15, x16]) = true then some 3 else (if (rd_T76 l0 x7).f0 = 2 then (if 2 ≤ x2 then (if (rd_T76 l0 x8).f0 = 6 then some 0 else some 1) else some 0) else some 1)) else some 1)) else some c) else some 3
theorem formOk_same {k : Nat} {x0 x1 x2 x3 x4 x5 x6 x7 x8 x9 x10 x11 x12 x13 x14 x15 x16 x17 x18 x19 : Int} {b : Bool} {y0 y1 y2 y3 y4 y5 y6 y7 y8 y9 y10 y11 y12 y13 y14 y15 y16 y17 y18 y19 : Int} (h : impl_Talk_formOk.f k x0 x1 x2 x3 x4 x5 x6 x7 x8 x9 x10 x11 x12 x13 x14 x15 x16 x17 x18 x19 = some (b, y0, y1, y2, y3, y4, y5, y6, y7, y8, y9, y10, y11, y12, y13, y14, y15, y16, y17, y18, y19)) : x0 = y0 ∧ x1 = y1 ∧ x2 = y2 ∧ x3 = y3 ∧ x4 = y4 ∧ x5 = y5 ∧ x6 = y6 ∧ x7 = y7 ∧ x8 = y8 ∧ x9 = y9 ∧ x10 = y10 ∧ x11 = y11 ∧ x12 = y12 ∧ x13 = y13 ∧ x14 = y14 ∧ x15 = y15 ∧ x16 = y16 ∧ x17 = y17 ∧ x18 = y18 ∧ x19 = y19 := by
  have hj1 : ∀ (k : Nat) (a c : Bool), impl_Talk_formOk.j1 k a c x0 x1 x2 x3 x4 x5 x6 x7 x8 x9 x10 x11 x12 x13 x14 x15 x16 x17 x18 x19 = some (b, y0, y1, y2, y3, y4, y5, y6, y7, y8, y9, y10, y11, y12, y13, y14, y15, y16, y17, y18, y19) → (x0 = y0 ∧ x1 = y1 ∧ x2 = y2 ∧ x3 = y3 ∧ x4 = y4 ∧ x5 = y5 ∧ x6 = y6 ∧ x7 = y7 ∧ x8 = y8 ∧ x9 = y9 ∧ x10 = y10 ∧ x11 = y11 ∧ x12 = y12 ∧ x13 = y13 ∧ x14 = y14 ∧ x15 = y15 ∧ x16 = y16 ∧ x17 = y17 ∧ x18 = y18 ∧ x19 = y19) := by
    intro k a c h
    cases k with
    | zero => simp [impl_Talk_formOk.j1] at h
    | succ k =>
      rw [impl_Talk_formOk.j1] at h
      repeat' split at h
      all_goals first | (simp only [Option.some.injEq, Prod.mk.injEq] at h; obtain ⟨_, rfl, rfl, rfl, rfl, rfl, rfl, rfl, rfl, rfl, rfl, rfl, rfl, rfl, rfl, rfl, rfl, rfl, rfl, rfl, rfl⟩ := h; simp) | (cases h)
  have hj0 : ∀ (k : Nat) (a c : Bool), impl_Talk_formOk.j0 k a c x0 x1 x2 x3 x4 x5 x6 x7 x8 x9 x10 x11 x12 x13 x14 x15 x16 x17 x18 x19 = some (b, y0, y1, y2, y3, y4, y5, y6, y7, y8, y9, y10, y11, y12, y13, y14, y15, y16, y17, y18, y19) → (x0 = y0 ∧ x1 = y1 ∧ x2 = y2 ∧ x3 = y3 ∧ x4 = y4 ∧ x5 = y5 ∧ x6 = y6 ∧ x7 = y7 ∧ x8 = y8 ∧ x9 = y9 ∧ x10 = y10 ∧ x11 = y11 ∧ x12 = y12 ∧ x13 = y13 ∧ x14 = y14 ∧ x15 = y15 ∧ x16 = y16 ∧ x17 = y17 ∧ x18 = y18 ∧ x19 = y19) := by
    intro k a c h
    cases k with
    | zero => simp [impl_Talk_formOk.j0] at h
    | succ k =>
      rw [impl_Talk_formOk.j0] at h
      repeat' split at h
      all_goals first | exact hj1 _ _ _ h | (simp only [Option.some.injEq, Prod.mk.injEq] at h; obtain ⟨_, rfl, rfl, rfl, rfl, rfl, rfl, rfl, rfl, rfl, rfl, rfl, rfl, rfl, rfl, rfl, rfl, rfl, rfl, rfl, rfl⟩ := h; simp) | (cases h)
  unfold impl_Talk_formOk.f at h
  split at h
  · exact hj0 _ _ _ h
  · exact hj0 _ _ _ h
set_option maxHeartbeats 8000000 in
set_option maxRecDepth 100000 in
theorem impl_TalkFault.calls (k : Nat) (A0 : Option Addr) (c0 : Nat) (l0 : List S76) (x0 x1 x2 x3 x4 x5 x6 x7 x8 x9 x10 x11 x12 x13 x14 x15 x16 x17 x18 x19 r : Int) (w : World) (hr0 : Kd.C k76 w A0 l0.length l0) (hc0 : l0.length ≤ c0) (h : impl_TalkFault.f k l0 x0 x1 x2 x3 x4 x5 x6 x7 x8 x9 x10 x11 x12 x13 x14 x15 x16 x17 x18 x19 = some r) :
    Calls Try.prog 68 #[.slice A0 l0.length c0, .agg #[.int .i64 x0, .int .i64 x1, .int .i64 x2, .int .i64 x3, .int .i64 x4, .int .i64 x5, .int .i64 x6, .int .i64 x7, .int .i64 x8, .int .i64 x9, .int .i64 x10, .int .i64 x11, .int .i64 x12, .int .i64 x13, .int .i64 x14, .int .i64 x15, .int .i64 x16, .int .i64 x17, .int .i64 x18, .int .i64 x19]] w fun e w' => e = .returned (.int .i64 r) ∧ Below w.heap.size w w' := by
 have hmf : ∀ (fn : Fn) (first cap : Array Value) (w : World), (Instr.makeFunc fn first cap).run Try.prog w = .ok (.func fn first cap) w := fun _ _ _ _ => rfl
 have hu1 := Try.underlying30
 have hu2 := Try.underlying83
 have hu3 := Try.underlying76
 unfold impl_TalkFault.f at h
 have HR0 := Z_ hr0
 have HN0 := Z_ hr0.2.1
 have HB := Z_ (Below.refl w.heap.size w)
 clear hr0
 obtain ⟨b1, hb1⟩ : ∃ b, b = decide (0 ≤ x0 ∧ x0 ≤ 9) := ⟨_, rfl⟩
 rw [← hb1] at h
 have H1 := Z_ (show impl_in.f x0 0 9 = some b1 by rw [hb1]; exact impl_in_eq _ _ _)
 clear hb1
 obtain ⟨b2, hb2⟩ : ∃ b, b = decide (1 ≤ x1 ∧ x1 ≤ 2) := ⟨_, rfl⟩
 rw [← hb2] at h
 have H2 := Z_ (show impl_in.f x1 1 2 = some b2 by rw [hb2]; exact impl_in_eq _ _ _)
 clear hb2
 obtain ⟨b3, hb3⟩ : ∃ b, b = decide (1 ≤ x2 ∧ x2 ≤ 3) := ⟨_, rfl⟩
 rw [← hb3] at h
 have H3 := Z_ (show impl_in.f x2 1 3 = some b3 by rw [hb3]; exact impl_in_eq _ _ _)
 have HS := Z_ (show b3 = true → 1 ≤ x2 ∧ x2 ≤ 3 by rw [hb3]; exact of_decide_eq_true)
 clear hb3
 obtain ⟨b4, hb4⟩ : ∃ b, b = decide (0 ≤ x3 ∧ x3 ≤ 9999) := ⟨_, rfl⟩
 rw [← hb4] at h
 have H4 := Z_ (show impl_isName.f x3 = some b4 by unfold impl_isName.f; rw [impl_in_eq, hb4]; rfl)
 clear hb4
 obtain ⟨b5, hb5⟩ : ∃ b, b = decide (0 ≤ x4 ∧ x4 ≤ 9999) := ⟨_, rfl⟩
 rw [← hb5] at h
 have H5 := Z_ (show impl_isName.f x4 = some b5 by unfold impl_isName.f; rw [impl_in_eq, hb5]; rfl)
 clear hb5
 obtain ⟨b6, hb6⟩ : ∃ b, b = decide (0 ≤ x17 ∧ x17 ≤ 9999) := ⟨_, rfl⟩
 rw [← hb6] at h
 have H6 := Z_ (show impl_in.f x17 0 9999 = some b6 by rw [hb6]; exact impl_in_eq _ _ _)
 clear hb6
 cases b1 with
 | false =>
  rw [if_neg (by simp)] at h
  obtain rfl := Option.some.inj h
  go_enter Try.func68, Try.ntmps68
  go_wp2_with (first | ((with_reducible refine gD_ 2 rfl ?_); refine bx_ #[.slice A0 l0.length c0] 30 ?_; intro g2 hg wg2 hbox hb; have n2_ := Z_ (lP_ HB.out hb); have n3_ := Z_ hbox; have Sg2 := Z_ ((by rw [hg]; exact (below_size HB.out) : w.heap.size ≤ g2)); clear HB hbox hb hg; have HB := n2_; have BK2 := n3_; have c2_ : wg2.cell? ⟨g2, 0, none⟩ = some (.slice A0 l0.length c0) := (blk_cell BK2.out 0).trans rfl; clear n2_ n3_) | ((with_reducible refine gD_ 3 rfl ?_); refine bx_ #[.int .i64 x0, .int .i64 x1, .int .i64 x2, .int .i64 x3, .int .i64 x4, .int .i64 x5, .int .i64 x6, .int .i64 x7, .int .i64 x8, .int .i64 x9, .int .i64 x10, .int .i64 x11, .int .i64 x12, .int .i64 x13, .int .i64 x14, .int .i64 x15, .int .i64 x16, .int .i64 x17, .int .i64 x18, .int .i64 x19] 83 ?_; intro g3 hg wg3 hbox hb; clear c2_; have n0_ := Z_ (bB_ BK2.out hb); have NE := Z_ ((by rw [hg]; exact Nat.ne_of_lt (blk_lt BK2.out)) : g2 ≠ g3); have n2_ := Z_ (lP_ HB.out hb); have n3_ := Z_ hbox; have Sg3 := Z_ ((by rw [hg]; exact (below_size HB.out) : w.heap.size ≤ g3)); clear BK2; clear HB hbox hb hg; have HB := n2_; have BK2 := n0_; have BK3 := n3_; clear n0_; obtain ⟨_, _, _, _, _, _, _, _, _, _, _, _, _, _, _, _, _, _, _, _, _, _, _, _, _, _, _, _, _, _, _, _, _, _, _, _, _, _, _, _⟩ := bc20 BK3.out; clear n2_ n3_) | (go_at_call 31; (first | (with_reducible refine (impl_in.calls x0 0 9 false _ H1.out).mono ?_)); rintro e w9_ ⟨rfl, ⟨nd, rfl⟩⟩))
  go_ret
  exact ⟨rfl, (by repeat (first | exact HB.out | apply lN_ | apply lD_))⟩
 | true =>
  cases b2 with
  | false =>
   rw [if_neg (by simp)] at h
   obtain rfl := Option.some.inj h
   go_enter Try.func68, Try.ntmps68
   go_wp2_with (first | ((with_reducible refine gD_ 2 rfl ?_); refine bx_ #[.slice A0 l0.length c0] 30 ?_; intro g2 hg wg2 hbox hb; have n2_ := Z_ (lP_ HB.out hb); have n3_ := Z_ hbox; have Sg2 := Z_ ((by rw [hg]; exact (below_size HB.out) : w.heap.size ≤ g2)); clear HB hbox hb hg; have HB := n2_; have BK2 := n3_; have c2_ : wg2.cell? ⟨g2, 0, none⟩ = some (.slice A0 l0.length c0) := (blk_cell BK2.out 0).trans rfl; clear n2_ n3_) | ((with_reducible refine gD_ 3 rfl ?_); refine bx_ #[.int .i64 x0, .int .i64 x1, .int .i64 x2, .int .i64 x3, .int .i64 x4, .int .i64 x5, .int .i64 x6, .int .i64 x7, .int .i64 x8, .int .i64 x9, .int .i64 x10, .int .i64 x11, .int .i64 x12, .int .i64 x13, .int .i64 x14, .int .i64 x15, .int .i64 x16, .int .i64 x17, .int .i64 x18, .int .i64 x19] 83 ?_; intro g3 hg wg3 hbox hb; clear c2_; have n0_ := Z_ (bB_ BK2.out hb); have NE := Z_ ((by rw [hg]; exact Nat.ne_of_lt (blk_lt BK2.out)) : g2 ≠ g3); have n2_ := Z_ (lP_ HB.out hb); have n3_ := Z_ hbox; have Sg3 := Z_ ((by rw [hg]; exact (below_size HB.out) : w.heap.size ≤ g3)); clear BK2; clear HB hbox hb hg; have HB := n2_; have BK2 := n0_; have BK3 := n3_; clear n0_; obtain ⟨_, _, _, _, _, _, _, _, _, _, _, _, _, _, _, _, _, _, _, _, _, _, _, _, _, _, _, _, _, _, _, _, _, _, _, _, _, _, _, _⟩ := bc20 BK3.out; clear n2_ n3_) | (go_at_call 31; (first | (with_reducible refine (impl_in.calls x0 0 9 true _ H1.out).mono ?_) | (with_reducible refine (impl_in.calls x1 1 2 false _ H2.out).mono ?_)); rintro e w9_ ⟨rfl, ⟨nd, rfl⟩⟩))
   go_ret
   exact ⟨rfl, (by repeat (first | exact HB.out | apply lN_ | apply lD_))⟩
  | true =>
   cases b3 with
   | false =>
    rw [if_neg (by simp)] at h
    obtain rfl := Option.some.inj h
    go_enter Try.func68, Try.ntmps68
    go_wp2_with (first | ((with_reducible refine gD_ 2 rfl ?_); refine bx_ #[.slice A0 l0.length c0] 30 ?_; intro g2 hg wg2 hbox hb; have n2_ := Z_ (lP_ HB.out hb); have n3_ := Z_ hbox; have Sg2 := Z_ ((by rw [hg]; exact (below_size HB.out) : w.heap.size ≤ g2)); clear HB hbox hb hg; have HB := n2_; have BK2 := n3_; have c2_ : wg2.cell? ⟨g2, 0, none⟩ = some (.slice A0 l0.length c0) := (blk_cell BK2.out 0).trans rfl; clear n2_ n3_) | ((with_reducible refine gD_ 3 rfl ?_); refine bx_ #[.int .i64 x0, .int .i64 x1, .int .i64 x2, .int .i64 x3, .int .i64 x4, .int .i64 x5, .int .i64 x6, .int .i64 x7, .int .i64 x8, .int .i64 x9, .int .i64 x10, .int .i64 x11, .int .i64 x12, .int .i64 x13, .int .i64 x14, .int .i64 x15, .int .i64 x16, .int .i64 x17, .int .i64 x18, .int .i64 x19] 83 ?_; intro g3 hg wg3 hbox hb; clear c2_; have n0_ := Z_ (bB_ BK2.out hb); have NE := Z_ ((by rw [hg]; exact Nat.ne_of_lt (blk_lt BK2.out)) : g2 ≠ g3); have n2_ := Z_ (lP_ HB.out hb); have n3_ := Z_ hbox; have Sg3 := Z_ ((by rw [hg]; exact (below_size HB.out) : w.heap.size ≤ g3)); clear BK2; clear HB hbox hb hg; have HB := n2_; have BK2 := n0_; have BK3 := n3_; clear n0_; obtain ⟨_, _, _, _, _, _, _, _, _, _, _, _, _, _, _, _, _, _, _, _, _, _, _, _, _, _, _, _, _, _, _, _, _, _, _, _, _, _, _, _⟩ := bc20 BK3.out; clear n2_ n3_) | (go_at_call 31; (first | (with_reducible refine (impl_in.calls x0 0 9 true _ H1.out).mono ?_) | (with_reducible refine (impl_in.calls x1 1 2 true _ H2.out).mono ?_) | (with_reducible refine (impl_in.calls x2 1 3 false _ H3.out).mono ?_)); rintro e w9_ ⟨rfl, ⟨nd, rfl⟩⟩))
    go_ret
    exact ⟨rfl, (by repeat (first | exact HB.out | apply lN_ | apply lD_))⟩
   | true =>
    cases b4 with
    | false =>
     rw [if_neg (by simp)] at h
     obtain rfl := Option.some.inj h
     go_enter Try.func68, Try.ntmps68
     go_wp2_with (first | ((with_reducible refine gD_ 2 rfl ?_); refine bx_ #[.slice A0 l0.length c0] 30 ?_; intro g2 hg wg2 hbox hb; have n2_ := Z_ (lP_ HB.out hb); have n3_ := Z_ hbox; have Sg2 := Z_ ((by rw [hg]; exact (below_size HB.out) : w.heap.size ≤ g2)); clear HB hbox hb hg; have HB := n2_; have BK2 := n3_; have c2_ : wg2.cell? ⟨g2, 0, none⟩ = some (.slice A0 l0.length c0) := (blk_cell BK2.out 0).trans rfl; clear n2_ n3_) | ((with_reducible refine gD_ 3 rfl ?_); refine bx_ #[.int .i64 x0, .int .i64 x1, .int .i64 x2, .int .i64 x3, .int .i64 x4, .int .i64 x5, .int .i64 x6, .int .i64 x7, .int .i64 x8, .int .i64 x9, .int .i64 x10, .int .i64 x11, .int .i64 x12, .int .i64 x13, .int .i64 x14, .int .i64 x15, .int .i64 x16, .int .i64 x17, .int .i64 x18, .int .i64 x19] 83 ?_; intro g3 hg wg3 hbox hb; clear c2_; have n0_ := Z_ (bB_ BK2.out hb); have NE := Z_ ((by rw [hg]; exact Nat.ne_of_lt (blk_lt BK2.out)) : g2 ≠ g3); have n2_ := Z_ (lP_ HB.out hb); have n3_ := Z_ hbox; have Sg3 := Z_ ((by rw [hg]; exact (below_size HB.out) : w.heap.size ≤ g3)); clear BK2; clear HB hbox hb hg; have HB := n2_; have BK2 := n0_; have BK3 := n3_; clear n0_; obtain ⟨_, _, _, _, _, _, _, _, _, _, _, _, _, _, _, _, _, _, _, _, _, _, _, _, _, _, _, _, _, _, _, _, _, _, _, _, _, _, _, _⟩ := bc20 BK3.out; clear n2_ n3_) | (go_at_call 31; (first | (with_reducible refine (impl_in.calls x0 0 9 true _ H1.out).mono ?_) | (with_reducible refine (impl_in.calls x1 1 2 true _ H2.out).mono ?_) | (with_reducible refine (impl_in.calls x2 1 3 true _ H3.out).mono ?_)); rintro e w9_ ⟨rfl, ⟨nd, rfl⟩⟩) | (go_at_call 72; (first | (with_reducible refine (impl_isName.calls x3 false _ H4.out).mono ?_)); rintro e w9_ ⟨rfl, ⟨nd, rfl⟩⟩))
     go_ret
     exact ⟨rfl, (by repeat (first | exact HB.out | apply lN_ | apply lD_))⟩
    | true =>
     cases b5 with
     | false =>
      rw [if_neg (by simp)] at h
      obtain rfl := Option.some.inj h
      go_enter Try.func68, Try.ntmps68
      go_wp2_with (first | ((with_reducible refine gD_ 2 rfl ?_); refine bx_ #[.slice A0 l0.length c0] 30 ?_; intro g2 hg wg2 hbox hb; have n2_ := Z_ (lP_ HB.out hb); have n3_ := Z_ hbox; have Sg2 := Z_ ((by rw [hg]; exact (below_size HB.out) : w.heap.size ≤ g2)); clear HB hbox hb hg; have HB := n2_; have BK2 := n3_; have c2_ : wg2.cell? ⟨g2, 0, none⟩ = some (.slice A0 l0.length c0) := (blk_cell BK2.out 0).trans rfl; clear n2_ n3_) | ((with_reducible refine gD_ 3 rfl ?_); refine bx_ #[.int .i64 x0, .int .i64 x1, .int .i64 x2, .int .i64 x3, .int .i64 x4, .int .i64 x5, .int .i64 x6, .int .i64 x7, .int .i64 x8, .int .i64 x9, .int .i64 x10, .int .i64 x11, .int .i64 x12, .int .i64 x13, .int .i64 x14, .int .i64 x15, .int .i64 x16, .int .i64 x17, .int .i64 x18, .int .i64 x19] 83 ?_; intro g3 hg wg3 hbox hb; clear c2_; have n0_ := Z_ (bB_ BK2.out hb); have NE := Z_ ((by rw [hg]; exact Nat.ne_of_lt (blk_lt BK2.out)) : g2 ≠ g3); have n2_ := Z_ (lP_ HB.out hb); have n3_ := Z_ hbox; have Sg3 := Z_ ((by rw [hg]; exact (below_size HB.out) : w.heap.size ≤ g3)); clear BK2; clear HB hbox hb hg; have HB := n2_; have BK2 := n0_; have BK3 := n3_; clear n0_; obtain ⟨_, _, _, _, _, _, _, _, _, _, _, _, _, _, _, _, _, _, _, _, _, _, _, _, _, _, _, _, _, _, _, _, _, _, _, _, _, _, _, _⟩ := bc20 BK3.out; clear n2_ n3_) | (go_at_call 31; (first | (with_reducible refine (impl_in.calls x0 0 9 true _ H1.out).mono ?_) | (with_reducible refine (impl_in.calls x1 1 2 true _ H2.out).mono ?_) | (with_reducible refine (impl_in.calls x2 1 3 true _ H3.out).mono ?_)); rintro e w9_ ⟨rfl, ⟨nd, rfl⟩⟩) | (go_at_call 72; (first | (with_reducible refine (impl_isName.calls x3 true _ H4.out).mono ?_) | (with_reducible refine (impl_isName.calls x4 false _ H5.out).mono ?_)); rintro e w9_ ⟨rfl, ⟨nd, rfl⟩⟩))
      go_ret
      exact ⟨rfl, (by repeat (first | exact HB.out | apply lN_ | apply lD_))⟩
     | true =>
      cases b6 with
      | false =>
       rw [if_neg (by simp)] at h
       obtain rfl := Option.some.inj h
       go_enter Try.func68, Try.ntmps68
       go_wp2_with (first | ((with_reducible refine gD_ 2 rfl ?_); refine bx_ #[.slice A0 l0.length c0] 30 ?_; intro g2 hg wg2 hbox hb; have n2_ := Z_ (lP_ HB.out hb); have n3_ := Z_ hbox; have Sg2 := Z_ ((by rw [hg]; exact (below_size HB.out) : w.heap.size ≤ g2)); clear HB hbox hb hg; have HB := n2_; have BK2 := n3_; have c2_ : wg2.cell? ⟨g2, 0, none⟩ = some (.slice A0 l0.length c0) := (blk_cell BK2.out 0).trans rfl; clear n2_ n3_) | ((with_reducible refine gD_ 3 rfl ?_); refine bx_ #[.int .i64 x0, .int .i64 x1, .int .i64 x2, .int .i64 x3, .int .i64 x4, .int .i64 x5, .int .i64 x6, .int .i64 x7, .int .i64 x8, .int .i64 x9, .int .i64 x10, .int .i64 x11, .int .i64 x12, .int .i64 x13, .int .i64 x14, .int .i64 x15, .int .i64 x16, .int .i64 x17, .int .i64 x18, .int .i64 x19] 83 ?_; intro g3 hg wg3 hbox hb; clear c2_; have n0_ := Z_ (bB_ BK2.out hb); have NE := Z_ ((by rw [hg]; exact Nat.ne_of_lt (blk_lt BK2.out)) : g2 ≠ g3); have n2_ := Z_ (lP_ HB.out hb); have n3_ := Z_ hbox; have Sg3 := Z_ ((by rw [hg]; exact (below_size HB.out) : w.heap.size ≤ g3)); clear BK2; clear HB hbox hb hg; have HB := n2_; have BK2 := n0_; have BK3 := n3_; clear n0_; obtain ⟨_, _, _, _, _, _, _, _, _, _, _, _, _, _, _, _, _, _, _, _, _, _, _, _, _, _, _, _, _, _, _, _, _, _, _, _, _, _, _, _⟩ := bc20 BK3.out; clear n2_ n3_) | (go_at_call 31; (first | (with_reducible refine (impl_in.calls x0 0 9 true _ H1.out).mono ?_) | (with_reducible refine (impl_in.calls x1 1 2 true _ H2.out).mono ?_) | (with_reducible refine (impl_in.calls x2 1 3 true _ H3.out).mono ?_) | (with_reducible refine (impl_in.calls x17 0 9999 false _ H6.out).mono ?_)); rintro e w9_ ⟨rfl, ⟨nd, rfl⟩⟩) | (go_at_call 72; (first | (with_reducible refine (impl_isName.calls x3 true _ H4.out).mono ?_) | (with_reducible refine (impl_isName.calls x4 true _ H5.out).mono ?_)); rintro e w9_ ⟨rfl, ⟨nd, rfl⟩⟩))
       go_ret
       exact ⟨rfl, (by repeat (first | exact HB.out | apply lN_ | apply lD_))⟩
      | true =>
       rw [if_pos (by simp)] at h
       have HS2 := Z_ (HS.out rfl)
       obtain ⟨c, hc, h⟩ := Option.bind_eq_some_iff.mp h
       have HW := Z_ hc
       clear hc
       by_cases hz : c = 0
       rotate_left
       ·rw [if_neg hz] at h
        obtain rfl := Option.some.inj h
        have hz0 : (c == 0) = false := by simpa using hz
        have hz1 : (c != 0) = true := by simpa using hz
        go_enter Try.func68, Try.ntmps68
        go_wp2_with (first | ((with_reducible refine gD_ 2 rfl ?_); refine bx_ #[.slice A0 l0.length c0] 30 ?_; intro g2 hg wg2 hbox hb; have n2_ := Z_ (lP_ HB.out hb); have n3_ := Z_ hbox; have Sg2 := Z_ ((by rw [hg]; exact (below_size HB.out) : w.heap.size ≤ g2)); clear HB hbox hb hg; have HB := n2_; have BK2 := n3_; have c2_ : wg2.cell? ⟨g2, 0, none⟩ = some (.slice A0 l0.length c0) := (blk_cell BK2.out 0).trans rfl; clear n2_ n3_) | ((with_reducible refine gD_ 3 rfl ?_); refine bx_ #[.int .i64 x0, .int .i64 x1, .int .i64 x2, .int .i64 x3, .int .i64 x4, .int .i64 x5, .int .i64 x6, .int .i64 x7, .int .i64 x8, .int .i64 x9, .int .i64 x10, .int .i64 x11, .int .i64 x12, .int .i64 x13, .int .i64 x14, .int .i64 x15, .int .i64 x16, .int .i64 x17, .int .i64 x18, .int .i64 x19] 83 ?_; intro g3 hg wg3 hbox hb; clear c2_; have n0_ := Z_ (bB_ BK2.out hb); have NE := Z_ ((by rw [hg]; exact Nat.ne_of_lt (blk_lt BK2.out)) : g2 ≠ g3); have n2_ := Z_ (lP_ HB.out hb); have n3_ := Z_ hbox; have Sg3 := Z_ ((by rw [hg]; exact (below_size HB.out) : w.heap.size ≤ g3)); clear BK2; clear HB hbox hb hg; have HB := n2_; have BK2 := n0_; have BK3 := n3_; clear n0_; obtain ⟨_, _, _, _, _, _, _, _, _, _, _, _, _, _, _, _, _, _, _, _, _, _, _, _, _, _, _, _, _, _, _, _, _, _, _, _, _, _, _, _⟩ := bc20 BK3.out; clear n2_ n3_) | (go_at_call 31; (first | (with_reducible refine (impl_in.calls x0 0 9 true _ H1.out).mono ?_) | (with_reducible refine (impl_in.calls x1 1 2 true _ H2.out).mono ?_) | (with_reducible refine (impl_in.calls x2 1 3 true _ H3.out).mono ?_) | (with_reducible refine (impl_in.calls x17 0 9999 true _ H6.out).mono ?_)); rintro e w9_ ⟨rfl, ⟨nd, rfl⟩⟩) | (go_at_call 72; (first | (with_reducible refine (impl_isName.calls x3 true _ H4.out).mono ?_) | (with_reducible refine (impl_isName.calls x4 true _ H5.out).mono ?_)); rintro e w9_ ⟨rfl, ⟨nd, rfl⟩⟩) | (go_at_call 73; (with_reducible refine (impl_WindowFault.calls k x18 x19 c _ HW.out).mono ?_); rintro e w4_ ⟨rfl, hb⟩; replace BK2 := Z_ (bB_ (by repeat (first | exact BK2.out | apply bN_ | apply bD_)) hb); replace BK3 := Z_ (bB_ (by repeat (first | exact BK3.out | apply bN_ | apply bD_)) hb); replace HB := Z_ (lP_ (by repeat (first | exact HB.out | apply lN_ | apply lD_)) hb); clear hb; obtain ⟨_, _, _, _, _, _, _, _, _, _, _, _, _, _, _, _, _, _, _, _, _, _, _, _, _, _, _, _, _, _, _, _, _, _, _, _, _, _, _, _⟩ := bc20 BK3.out))
        go_ret
        exact ⟨rfl, (by repeat (first | exact HB.out | apply lN_ | apply lD_))⟩
       rw [if_pos hz] at h
       subst hz
       obtain ⟨⟨fb, y0, y1, y2, y3, y4, y5, y6, y7, y8, y9, y10, y11, y12, y13, y14, y15, y16, y17, y18, y19⟩, hf, h⟩ := Option.bind_eq_some_iff.mp h
       obtain ⟨rfl, rfl, rfl, rfl, rfl, rfl, rfl, rfl, rfl, rfl, rfl, rfl, rfl, rfl, rfl, rfl, rfl, rfl, rfl, rfl⟩ := formOk_same hf
       have HF := Z_ hf
       clear hf
       try dsimp only at h
       cases fb with
       | false =>
        rw [if_neg (by simp)] at h
        obtain rfl := Option.some.inj h
        go_enter Try.func68, Try.ntmps68
        go_wp2_with (first | ((with_reducible refine gD_ 2 rfl ?_); refine bx_ #[.slice A0 l0.length c0] 30 ?_; intro g2 hg wg2 hbox hb; have n2_ := Z_ (lP_ HB.out hb); have n3_ := Z_ hbox; have Sg2 := Z_ ((by rw [hg]; exact (below_size HB.out) : w.heap.size ≤ g2)); clear HB hbox hb hg; have HB := n2_; have BK2 := n3_; have c2_ : wg2.cell? ⟨g2, 0, none⟩ = some (.slice A0 l0.length c0) := (blk_cell BK2.out 0).trans rfl; clear n2_ n3_) | ((with_reducible refine gD_ 3 rfl ?_); refine bx_ #[.int .i64 x0, .int .i64 x1, .int .i64 x2, .int .i64 x3, .int .i64 x4, .int .i64 x5, .int .i64 x6, .int .i64 x7, .int .i64 x8, .int .i64 x9, .int .i64 x10, .int .i64 x11, .int .i64 x12, .int .i64 x13, .int .i64 x14, .int .i64 x15, .int .i64 x16, .int .i64 x17, .int .i64 x18, .int .i64 x19] 83 ?_; intro g3 hg wg3 hbox hb; clear c2_; have n0_ := Z_ (bB_ BK2.out hb); have NE := Z_ ((by rw [hg]; exact Nat.ne_of_lt (blk_lt BK2.out)) : g2 ≠ g3); have n2_ := Z_ (lP_ HB.out hb); have n3_ := Z_ hbox; have Sg3 := Z_ ((by rw [hg]; exact (below_size HB.out) : w.heap.size ≤ g3)); clear BK2; clear HB hbox hb hg; have HB := n2_; have BK2 := n0_; have BK3 := n3_; clear n0_; obtain ⟨_, _, _, _, _, _, _, _, _, _, _, _, _, _, _, _, _, _, _, _, _, _, _, _, _, _, _, _, _, _, _, _, _, _, _, _, _, _, _, _⟩ := bc20 BK3.out; clear n2_ n3_) | (go_at_call 31; (first | (with_reducible refine (impl_in.calls x0 0 9 true _ H1.out).mono ?_) | (with_reducible refine (impl_in.calls x1 1 2 true _ H2.out).mono ?_) | (with_reducible refine (impl_in.calls x2 1 3 true _ H3.out).mono ?_) | (with_reducible refine (impl_in.calls x17 0 9999 true _ H6.out).mono ?_)); rintro e w9_ ⟨rfl, ⟨nd, rfl⟩⟩) | (go_at_call 72; (first | (with_reducible refine (impl_isName.calls x3 true _ H4.out).mono ?_) | (with_reducible refine (impl_isName.calls x4 true _ H5.out).mono ?_)); rintro e w9_ ⟨rfl, ⟨nd, rfl⟩⟩) | (go_at_call 73; (with_reducible refine (impl_WindowFault.calls k x18 x19 0 _ HW.out).mono ?_); rintro e w4_ ⟨rfl, hb⟩; replace BK2 := Z_ (bB_ (by repeat (first | exact BK2.out | apply bN_ | apply bD_)) hb); replace BK3 := Z_ (bB_ (by repeat (first | exact BK3.out | apply bN_ | apply bD_)) hb); replace HB := Z_ (lP_ (by repeat (first | exact HB.out | apply lN_ | apply lD_)) hb); clear hb; obtain ⟨_, _, _, _, _, _, _, _, _, _, _, _, _, _, _, _, _, _, _, _, _, _, _, _, _, _, _, _, _, _, _, _, _, _, _, _, _, _, _, _⟩ := bc20 BK3.out) | (go_at_call 74; (with_reducible refine (impl_Talk_formOk.calls k g3 x0 x1 x2 x3 x4 x5 x6 x7 x8 x9 x10 x11 x12 x13 x14 x15 x16 x17 x18 x19 false x0 x1 x2 x3 x4 x5 x6 x7 x8 x9 x10 x11 x12 x13 x14 x15 x16 x17 x18 x19 w _ ?hI ?hB HF.out).mono ?_); (case hI => exact ⟨(by repeat (first | exact BK3.out | apply bN_ | apply bD_)), Sg3.out⟩); (case hB => exact (by repeat (first | exact HB.out | apply lN_ | apply lD_))); rintro e w5_ ⟨rfl, hI, hB, hk⟩; replace BK2 := Z_ ((hk.2 g2 (blk_lt (by repeat (first | exact BK2.out | apply bN_ | apply bD_))) NE.out (by simp)).trans (by repeat (first | exact BK2.out | apply bN_ | apply bD_))); replace BK3 := Z_ hI.1; replace HB := Z_ hB; clear hI hB hk; obtain ⟨_, _, _, _, _, _, _, _, _, _, _, _, _, _, _, _, _, _, _, _, _, _, _, _, _, _, _, _, _, _, _, _, _, _, _, _, _, _, _, _⟩ := bc20 BK3.out))
        go_ret
        exact ⟨rfl, (by repeat (first | exact HB.out | apply lN_ | apply lD_))⟩
       | true =>
        rw [if_pos rfl] at h
        obtain ⟨q0, hq0⟩ : ∃ b, b = tkAny l0 x2 0 [x5, x7, x9] := ⟨_, rfl⟩
        obtain ⟨q1, hq1⟩ : ∃ b, b = tkAny l0 x2 1 [x6, x8, x10, x11, x12, x13, x14] := ⟨_, rfl⟩
        obtain ⟨q2, hq2⟩ : ∃ b, b = tkAny l0 x2 2 [x15, x16] := ⟨_, rfl⟩
        rw [← hq0, ← hq1, ← hq2] at h
        have HQ0 := Z_ hq0.symm
        clear hq0
        have HQ1 := Z_ hq1.symm
        clear hq1
        have HQ2 := Z_ hq2.symm
        clear hq2
        have H := Z_ h
        clear h
        go_enter Try.func68, Try.ntmps68
        go_wp2_with (first | ((with_reducible refine gD_ 2 rfl ?_); refine bx_ #[.slice A0 l0.length c0] 30 ?_; intro g2 hg wg2 hbox hb; have n2_ := Z_ (lP_ HB.out hb); have n3_ := Z_ hbox; have Sg2 := Z_ ((by rw [hg]; exact (below_size HB.out) : w.heap.size ≤ g2)); clear HB hbox hb hg; have HB := n2_; have BK2 := n3_; have c2_ : wg2.cell? ⟨g2, 0, none⟩ = some (.slice A0 l0.length c0) := (blk_cell BK2.out 0).trans rfl; clear n2_ n3_) | ((with_reducible refine gD_ 3 rfl ?_); refine bx_ #[.int .i64 x0, .int .i64 x1, .int .i64 x2, .int .i64 x3, .int .i64 x4, .int .i64 x5, .int .i64 x6, .int .i64 x7, .int .i64 x8, .int .i64 x9, .int .i64 x10, .int .i64 x11, .int .i64 x12, .int .i64 x13, .int .i64 x14, .int .i64 x15, .int .i64 x16, .int .i64 x17, .int .i64 x18, .int .i64 x19] 83 ?_; intro g3 hg wg3 hbox hb; clear c2_; have n0_ := Z_ (bB_ BK2.out hb); have NE := Z_ ((by rw [hg]; exact Nat.ne_of_lt (blk_lt BK2.out)) : g2 ≠ g3); have n2_ := Z_ (lP_ HB.out hb); have n3_ := Z_ hbox; have Sg3 := Z_ ((by rw [hg]; exact (below_size HB.out) : w.heap.size ≤ g3)); clear BK2; clear HB hbox hb hg; have HB := n2_; have BK2 := n0_; have BK3 := n3_; clear n0_; obtain ⟨_, _, _, _, _, _, _, _, _, _, _, _, _, _, _, _, _, _, _, _, _, _, _, _, _, _, _, _, _, _, _, _, _, _, _, _, _, _, _, _⟩ := bc20 BK3.out; clear n2_ n3_) | (go_at_call 31; (first | (with_reducible refine (impl_in.calls x0 0 9 true _ H1.out).mono ?_) | (with_reducible refine (impl_in.calls x1 1 2 true _ H2.out).mono ?_) | (with_reducible refine (impl_in.calls x2 1 3 true _ H3.out).mono ?_) | (with_reducible refine (impl_in.calls x17 0 9999 true _ H6.out).mono ?_)); rintro e w9_ ⟨rfl, ⟨nd, rfl⟩⟩) | (go_at_call 72; (first | (with_reducible refine (impl_isName.calls x3 true _ H4.out).mono ?_) | (with_reducible refine (impl_isName.calls x4 true _ H5.out).mono ?_)); rintro e w9_ ⟨rfl, ⟨nd, rfl⟩⟩) | (go_at_call 73; (with_reducible refine (impl_WindowFault.calls k x18 x19 0 _ HW.out).mono ?_); rintro e w4_ ⟨rfl, hb⟩; replace BK2 := Z_ (bB_ (by repeat (first | exact BK2.out | apply bN_ | apply bD_)) hb); replace BK3 := Z_ (bB_ (by repeat (first | exact BK3.out | apply bN_ | apply bD_)) hb); replace HB := Z_ (lP_ (by repeat (first | exact HB.out | apply lN_ | apply lD_)) hb); clear hb; obtain ⟨_, _, _, _, _, _, _, _, _, _, _, _, _, _, _, _, _, _, _, _, _, _, _, _, _, _, _, _, _, _, _, _, _, _, _, _, _, _, _, _⟩ := bc20 BK3.out) | (go_at_call 74; (with_reducible refine (impl_Talk_formOk.calls k g3 x0 x1 x2 x3 x4 x5 x6 x7 x8 x9 x10 x11 x12 x13 x14 x15 x16 x17 x18 x19 true x0 x1 x2 x3 x4 x5 x6 x7 x8 x9 x10 x11 x12 x13 x14 x15 x16 x17 x18 x19 w _ ?hI ?hB HF.out).mono ?_); (case hI => exact ⟨(by repeat (first | exact BK3.out | apply bN_ | apply bD_)), Sg3.out⟩); (case hB => exact (by repeat (first | exact HB.out | apply lN_ | apply lD_))); rintro e w5_ ⟨rfl, hI, hB, hk⟩; replace BK2 := Z_ ((hk.2 g2 (blk_lt (by repeat (first | exact BK2.out | apply bN_ | apply bD_))) NE.out (by simp)).trans (by repeat (first | exact BK2.out | apply bN_ | apply bD_))); replace BK3 := Z_ hI.1; replace HB := Z_ hB; clear hI hB hk; obtain ⟨_, _, _, _, _, _, _, _, _, _, _, _, _, _, _, _, _, _, _, _, _, _, _, _, _, _, _, _, _, _, _, _, _, _, _, _, _, _, _, _⟩ := bc20 BK3.out) | (go_at_call 75; (with_reducible refine (impl_Talk_places.calls g3 x0 x1 x2 x3 x4 x5 x6 x7 x8 x9 x10 x11 x12 x13 x14 x15 x16 x17 x18 x19 _ (by repeat (first | exact BK3.out | apply bN_ | apply bD_))).mono ?_); rintro e w6_ ⟨v1, v2, v3, rfl, r1, r2, r3, hb⟩; replace BK2 := Z_ (bB_ (by repeat (first | exact BK2.out | apply bN_ | apply bD_)) hb); replace BK3 := Z_ (bB_ (by repeat (first | exact BK3.out | apply bN_ | apply bD_)) hb); replace HB := Z_ (lP_ (by repeat (first | exact HB.out | apply lN_ | apply lD_)) hb); clear hb; obtain ⟨_, _, _, _, _, _, _, _, _, _, _, _, _, _, _, _, _, _, _, _, _, _, _, _, _, _, _, _, _, _, _, _, _, _, _, _, _, _, _, _⟩ := bc20 BK3.out; obtain ⟨A1, c1, e1⟩ := Kd.R_slice r1; subst e1; obtain ⟨A2, c2, e2⟩ := Kd.R_slice r2; subst e2; obtain ⟨A3, c3, e3⟩ := Kd.R_slice r3; subst e3; have C1 := Z_ (Kd.R_reads' r1).2.2; have C2 := Z_ (Kd.R_reads' r2).2.2; have C3 := Z_ (Kd.R_reads' r3).2.2; clear r1 r2 r3))
        go_loopg [52] 3 (fun gg s52 wr => ∃ kk : Nat, kk ≤ 3 ∧ 3 - kk ≤ gg ∧ s52 = .int .i64 kk ∧ Aside0 (∀ j : Nat, j < kk → (if j = 0 then q0 else if j = 1 then q1 else q2) = false) ∧ Aside0 (Below w6_.heap.size w6_ wr))
        case atStart => exact ⟨0, by omega, by omega, rfl, ⟨fun j hj => absurd hj (by omega)⟩, ⟨Below.refl _ _⟩⟩
        case round =>
         obtain ⟨kk, hk3, hgg, rfl, HP, HL⟩ := hrel
         have BW2 := Z_ (HL.out.block g2 (blk_lt BK2.out) |>.trans BK2.out)
         have BW3 := Z_ (HL.out.block g3 (blk_lt BK3.out) |>.trans BK3.out)
         have HBW := Z_ (lP_ HB.out HL.out)
         obtain ⟨_, _, _, _, _, _, _, _, _, _, _, _, _, _, _, _, _, _, _, _, _, _, _, _, _, _, _, _, _, _, _, _, _, _, _, _, _, _, _, _⟩ := bc20 BW3.out
         have c2_ : wr.cell? ⟨g2, 0, none⟩ = some (.slice A0 l0.length c0) := (blk_cell BW2.out 0).trans rfl
         by_cases hlt : kk < 3
         have hix0 : ∀ W : World, (Instr.index 121 (.agg #[.slice A1 3 c1, .slice A2 7 c2, .slice A3 2 c3]) (.int .i64 0)).run Try.prog W = .ok (.slice A1 3 c1) W := by intro W; first | kernel_rfl | (go_simp; rfl)
         have hix1 : ∀ W : World, (Instr.index 121 (.agg #[.slice A1 3 c1, .slice A2 7 c2, .slice A3 2 c3]) (.int .i64 1)).run Try.prog W = .ok (.slice A2 7 c2) W := by intro W; first | kernel_rfl | (go_simp; rfl)
         have hix2 : ∀ W : World, (Instr.index 121 (.agg #[.slice A1 3 c1, .slice A2 7 c2, .slice A3 2 c3]) (.int .i64 2)).run Try.prog W = .ok (.slice A3 2 c3) W := by intro W; first | kernel_rfl | (go_simp; rfl)
         ·obtain rfl | rfl | rfl : kk = 0 ∨ kk = 1 ∨ kk = 2 := by omega
          ·cases q0 with
           | true =>
            obtain rfl : 3 = r := by simpa using H.out
            go_wp2_with (first | ((with_reducible refine gD_ 8 rfl ?_); refine bx_ #[.bool false] 4 ?_; intro g8 hg w8_ hbox hb; have n0_ := Z_ (bB_ BW2.out hb); have n1_ := Z_ (bB_ BW3.out hb); have n2_ := Z_ (lP_ HL.out hb); have n3_ := Z_ hbox; have S8 := Z_ ((by rw [hg]; exact (below_size HL.out) : w6_.heap.size ≤ g8)); have N82 := Z_ ((by rw [hg]; exact Nat.ne_of_lt (blk_lt BW2.out) : g2 ≠ g8)); have N83 := Z_ ((by rw [hg]; exact Nat.ne_of_lt (blk_lt BW3.out) : g3 ≠ g8)); clear c2_ BW2 BW3 HL hbox hb hg; have BW2 := n0_; have BW3 := n1_; have HL := n2_; have B8 := n3_; clear n0_ n1_ n2_ n3_; obtain ⟨_, _, _, _, _, _, _, _, _, _, _, _, _, _, _, _, _, _, _, _, _, _, _, _, _, _, _, _, _, _, _, _, _, _, _, _, _, _, _, _⟩ := bc20 BW3.out; have c8_ : w8_.cell? ⟨g8, 0, none⟩ = some (.bool false) := (blk_cell B8.out 0).trans rfl; have z8_ := blk_frozen B8.out 0; have m82 := N82.out; have m83 := N83.out; have m28 := N82.out.symm; have m38 := N83.out.symm) | (go_at_call 63; refine (slices_ContainsFunc_int64_int64.calls 76 #[.pointer (some ⟨g8, 0, none⟩), .pointer (some ⟨g2, 0, none⟩)] (tkP l0 (decide (x2 > 0))) A1 c1 [x5, x7, x9] _ (enters_of Try.func76 (by kernel_rfl) rfl) (fun W x _ hB => (impl_TalkFault_1.calls A0 l0.length c0 g8 g2 (decide (x2 > 0)) x HN0.out W ((hB.cell (p := ⟨g8, 0, none⟩) (blk_lt (blk_put (cs' := #[.bool (decide (x2 > 0))]) B8.out 0 (.bool (decide (x2 > 0))) rfl))).trans ((blk_cell (blk_put (cs' := #[.bool (decide (x2 > 0))]) B8.out 0 (.bool (decide (x2 > 0))) rfl) 0).trans rfl)) ((hB.cell (p := ⟨g2, 0, none⟩) (blk_lt (bF_ BW2.out N82.out _))).trans ((blk_cell (bF_ BW2.out N82.out _) 0).trans rfl))).mono (fun _ _ h => ⟨h.1, below_step hB h.2⟩)) (Kd.C_below C1.out (lS1_ HL.out S8.out)) (by simp)).mono ?_; rintro e w9 ⟨he, hb⟩; rw [show ([x5, x7, x9] : List Int).any (tkP l0 (decide (x2 > 0))) = true from HQ0.out] at he; subst he; replace HL := Z_ (below_step (lS1_ HL.out S8.out) hb); clear hb))
            go_ret
            exact ⟨rfl, lP_ HB.out HL.out⟩
           | false =>
            go_wp2_with (first | ((with_reducible refine gD_ 8 rfl ?_); refine bx_ #[.bool false] 4 ?_; intro g8 hg w8_ hbox hb; have n0_ := Z_ (bB_ BW2.out hb); have n1_ := Z_ (bB_ BW3.out hb); have n2_ := Z_ (lP_ HL.out hb); have n3_ := Z_ hbox; have S8 := Z_ ((by rw [hg]; exact (below_size HL.out) : w6_.heap.size ≤ g8)); have N82 := Z_ ((by rw [hg]; exact Nat.ne_of_lt (blk_lt BW2.out) : g2 ≠ g8)); have N83 := Z_ ((by rw [hg]; exact Nat.ne_of_lt (blk_lt BW3.out) : g3 ≠ g8)); clear c2_ BW2 BW3 HL hbox hb hg; have BW2 := n0_; have BW3 := n1_; have HL := n2_; have B8 := n3_; clear n0_ n1_ n2_ n3_; obtain ⟨_, _, _, _, _, _, _, _, _, _, _, _, _, _, _, _, _, _, _, _, _, _, _, _, _, _, _, _, _, _, _, _, _, _, _, _, _, _, _, _⟩ := bc20 BW3.out; have c8_ : w8_.cell? ⟨g8, 0, none⟩ = some (.bool false) := (blk_cell B8.out 0).trans rfl; have z8_ := blk_frozen B8.out 0; have m82 := N82.out; have m83 := N83.out; have m28 := N82.out.symm; have m38 := N83.out.symm) | (go_at_call 63; refine (slices_ContainsFunc_int64_int64.calls 76 #[.pointer (some ⟨g8, 0, none⟩), .pointer (some ⟨g2, 0, none⟩)] (tkP l0 (decide (x2 > 0))) A1 c1 [x5, x7, x9] _ (enters_of Try.func76 (by kernel_rfl) rfl) (fun W x _ hB => (impl_TalkFault_1.calls A0 l0.length c0 g8 g2 (decide (x2 > 0)) x HN0.out W ((hB.cell (p := ⟨g8, 0, none⟩) (blk_lt (blk_put (cs' := #[.bool (decide (x2 > 0))]) B8.out 0 (.bool (decide (x2 > 0))) rfl))).trans ((blk_cell (blk_put (cs' := #[.bool (decide (x2 > 0))]) B8.out 0 (.bool (decide (x2 > 0))) rfl) 0).trans rfl)) ((hB.cell (p := ⟨g2, 0, none⟩) (blk_lt (bF_ BW2.out N82.out _))).trans ((blk_cell (bF_ BW2.out N82.out _) 0).trans rfl))).mono (fun _ _ h => ⟨h.1, below_step hB h.2⟩)) (Kd.C_below C1.out (lS1_ HL.out S8.out)) (by simp)).mono ?_; rintro e w9 ⟨he, hb⟩; rw [show ([x5, x7, x9] : List Int).any (tkP l0 (decide (x2 > 0))) = false from HQ0.out] at he; subst he; replace HL := Z_ (below_step (lS1_ HL.out S8.out) hb); clear hb))
            go_roundg (3 - (0 + 1))
            case measure => omega
            case rel =>
             refine ⟨1, by omega, by omega, by first | rfl | simp, ⟨fun j hj => ?_⟩, ⟨HL.out⟩⟩
             rcases (show j < 0 ∨ j = 0 by omega) with hj2 | rfl
             ·exact HP.out j hj2
             ·rfl
          ·cases q1 with
           | true =>
            obtain rfl : 3 = r := by simpa using H.out
            go_wp2_with (first | ((with_reducible refine gD_ 8 rfl ?_); refine bx_ #[.bool false] 4 ?_; intro g8 hg w8_ hbox hb; have n0_ := Z_ (bB_ BW2.out hb); have n1_ := Z_ (bB_ BW3.out hb); have n2_ := Z_ (lP_ HL.out hb); have n3_ := Z_ hbox; have S8 := Z_ ((by rw [hg]; exact (below_size HL.out) : w6_.heap.size ≤ g8)); have N82 := Z_ ((by rw [hg]; exact Nat.ne_of_lt (blk_lt BW2.out) : g2 ≠ g8)); have N83 := Z_ ((by rw [hg]; exact Nat.ne_of_lt (blk_lt BW3.out) : g3 ≠ g8)); clear c2_ BW2 BW3 HL hbox hb hg; have BW2 := n0_; have BW3 := n1_; have HL := n2_; have B8 := n3_; clear n0_ n1_ n2_ n3_; obtain ⟨_, _, _, _, _, _, _, _, _, _, _, _, _, _, _, _, _, _, _, _, _, _, _, _, _, _, _, _, _, _, _, _, _, _, _, _, _, _, _, _⟩ := bc20 BW3.out; have c8_ : w8_.cell? ⟨g8, 0, none⟩ = some (.bool false) := (blk_cell B8.out 0).trans rfl; have z8_ := blk_frozen B8.out 0; have m82 := N82.out; have m83 := N83.out; have m28 := N82.out.symm; have m38 := N83.out.symm) | (go_at_call 63; refine (slices_ContainsFunc_int64_int64.calls 76 #[.pointer (some ⟨g8, 0, none⟩), .pointer (some ⟨g2, 0, none⟩)] (tkP l0 (decide (x2 > 1))) A2 c2 [x6, x8, x10, x11, x12, x13, x14] _ (enters_of Try.func76 (by kernel_rfl) rfl) (fun W x _ hB => (impl_TalkFault_1.calls A0 l0.length c0 g8 g2 (decide (x2 > 1)) x HN0.out W ((hB.cell (p := ⟨g8, 0, none⟩) (blk_lt (blk_put (cs' := #[.bool (decide (x2 > 1))]) B8.out 0 (.bool (decide (x2 > 1))) rfl))).trans ((blk_cell (blk_put (cs' := #[.bool (decide (x2 > 1))]) B8.out 0 (.bool (decide (x2 > 1))) rfl) 0).trans rfl)) ((hB.cell (p := ⟨g2, 0, none⟩) (blk_lt (bF_ BW2.out N82.out _))).trans ((blk_cell (bF_ BW2.out N82.out _) 0).trans rfl))).mono (fun _ _ h => ⟨h.1, below_step hB h.2⟩)) (Kd.C_below C2.out (lS1_ HL.out S8.out)) (by simp)).mono ?_; rintro e w9 ⟨he, hb⟩; rw [show ([x6, x8, x10, x11, x12, x13, x14] : List Int).any (tkP l0 (decide (x2 > 1))) = true from HQ1.out] at he; subst he; replace HL := Z_ (below_step (lS1_ HL.out S8.out) hb); clear hb))
            go_ret
            exact ⟨rfl, lP_ HB.out HL.out⟩
           | false =>
            go_wp2_with (first | ((with_reducible refine gD_ 8 rfl ?_); refine bx_ #[.bool false] 4 ?_; intro g8 hg w8_ hbox hb; have n0_ := Z_ (bB_ BW2.out hb); have n1_ := Z_ (bB_ BW3.out hb); have n2_ := Z_ (lP_ HL.out hb); have n3_ := Z_ hbox; have S8 := Z_ ((by rw [hg]; exact (below_size HL.out) : w6_.heap.size ≤ g8)); have N82 := Z_ ((by rw [hg]; exact Nat.ne_of_lt (blk_lt BW2.out) : g2 ≠ g8)); have N83 := Z_ ((by rw [hg]; exact Nat.ne_of_lt (blk_lt BW3.out) : g3 ≠ g8)); clear c2_ BW2 BW3 HL hbox hb hg; have BW2 := n0_; have BW3 := n1_; have HL := n2_; have B8 := n3_; clear n0_ n1_ n2_ n3_; obtain ⟨_, _, _, _, _, _, _, _, _, _, _, _, _, _, _, _, _, _, _, _, _, _, _, _, _, _, _, _, _, _, _, _, _, _, _, _, _, _, _, _⟩ := bc20 BW3.out; have c8_ : w8_.cell? ⟨g8, 0, none⟩ = some (.bool false) := (blk_cell B8.out 0).trans rfl; have z8_ := blk_frozen B8.out 0; have m82 := N82.out; have m83 := N83.out; have m28 := N82.out.symm; have m38 := N83.out.symm) | (go_at_call 63; refine (slices_ContainsFunc_int64_int64.calls 76 #[.pointer (some ⟨g8, 0, none⟩), .pointer (some ⟨g2, 0, none⟩)] (tkP l0 (decide (x2 > 1))) A2 c2 [x6, x8, x10, x11, x12, x13, x14] _ (enters_of Try.func76 (by kernel_rfl) rfl) (fun W x _ hB => (impl_TalkFault_1.calls A0 l0.length c0 g8 g2 (decide (x2 > 1)) x HN0.out W ((hB.cell (p := ⟨g8, 0, none⟩) (blk_lt (blk_put (cs' := #[.bool (decide (x2 > 1))]) B8.out 0 (.bool (decide (x2 > 1))) rfl))).trans ((blk_cell (blk_put (cs' := #[.bool (decide (x2 > 1))]) B8.out 0 (.bool (decide (x2 > 1))) rfl) 0).trans rfl)) ((hB.cell (p := ⟨g2, 0, none⟩) (blk_lt (bF_ BW2.out N82.out _))).trans ((blk_cell (bF_ BW2.out N82.out _) 0).trans rfl))).mono (fun _ _ h => ⟨h.1, below_step hB h.2⟩)) (Kd.C_below C2.out (lS1_ HL.out S8.out)) (by simp)).mono ?_; rintro e w9 ⟨he, hb⟩; rw [show ([x6, x8, x10, x11, x12, x13, x14] : List Int).any (tkP l0 (decide (x2 > 1))) = false from HQ1.out] at he; subst he; replace HL := Z_ (below_step (lS1_ HL.out S8.out) hb); clear hb))
            go_roundg (3 - (1 + 1))
            case measure => omega
            case rel =>
             refine ⟨2, by omega, by omega, by first | rfl | simp, ⟨fun j hj => ?_⟩, ⟨HL.out⟩⟩
             rcases (show j < 1 ∨ j = 1 by omega) with hj2 | rfl
             ·exact HP.out j hj2
             ·rfl
          ·cases q2 with
           | true =>
            obtain rfl : 3 = r := by simpa using H.out
            go_wp2_with (first | ((with_reducible refine gD_ 8 rfl ?_); refine bx_ #[.bool false] 4 ?_; intro g8 hg w8_ hbox hb; have n0_ := Z_ (bB_ BW2.out hb); have n1_ := Z_ (bB_ BW3.out hb); have n2_ := Z_ (lP_ HL.out hb); have n3_ := Z_ hbox; have S8 := Z_ ((by rw [hg]; exact (below_size HL.out) : w6_.heap.size ≤ g8)); have N82 := Z_ ((by rw [hg]; exact Nat.ne_of_lt (blk_lt BW2.out) : g2 ≠ g8)); have N83 := Z_ ((by rw [hg]; exact Nat.ne_of_lt (blk_lt BW3.out) : g3 ≠ g8)); clear c2_ BW2 BW3 HL hbox hb hg; have BW2 := n0_; have BW3 := n1_; have HL := n2_; have B8 := n3_; clear n0_ n1_ n2_ n3_; obtain ⟨_, _, _, _, _, _, _, _, _, _, _, _, _, _, _, _, _, _, _, _, _, _, _, _, _, _, _, _, _, _, _, _, _, _, _, _, _, _, _, _⟩ := bc20 BW3.out; have c8_ : w8_.cell? ⟨g8, 0, none⟩ = some (.bool false) := (blk_cell B8.out 0).trans rfl; have z8_ := blk_frozen B8.out 0; have m82 := N82.out; have m83 := N83.out; have m28 := N82.out.symm; have m38 := N83.out.symm) | (go_at_call 63; refine (slices_ContainsFunc_int64_int64.calls 76 #[.pointer (some ⟨g8, 0, none⟩), .pointer (some ⟨g2, 0, none⟩)] (tkP l0 (decide (x2 > 2))) A3 c3 [x15, x16] _ (enters_of Try.func76 (by kernel_rfl) rfl) (fun W x _ hB => (impl_TalkFault_1.calls A0 l0.length c0 g8 g2 (decide (x2 > 2)) x HN0.out W ((hB.cell (p := ⟨g8, 0, none⟩) (blk_lt (blk_put (cs' := #[.bool (decide (x2 > 2))]) B8.out 0 (.bool (decide (x2 > 2))) rfl))).trans ((blk_cell (blk_put (cs' := #[.bool (decide (x2 > 2))]) B8.out 0 (.bool (decide (x2 > 2))) rfl) 0).trans rfl)) ((hB.cell (p := ⟨g2, 0, none⟩) (blk_lt (bF_ BW2.out N82.out _))).trans ((blk_cell (bF_ BW2.out N82.out _) 0).trans rfl))).mono (fun _ _ h => ⟨h.1, below_step hB h.2⟩)) (Kd.C_below C3.out (lS1_ HL.out S8.out)) (by simp)).mono ?_; rintro e w9 ⟨he, hb⟩; rw [show ([x15, x16] : List Int).any (tkP l0 (decide (x2 > 2))) = true from HQ2.out] at he; subst he; replace HL := Z_ (below_step (lS1_ HL.out S8.out) hb); clear hb))
            go_ret
            exact ⟨rfl, lP_ HB.out HL.out⟩
           | false =>
            go_wp2_with (first | ((with_reducible refine gD_ 8 rfl ?_); refine bx_ #[.bool false] 4 ?_; intro g8 hg w8_ hbox hb; have n0_ := Z_ (bB_ BW2.out hb); have n1_ := Z_ (bB_ BW3.out hb); have n2_ := Z_ (lP_ HL.out hb); have n3_ := Z_ hbox; have S8 := Z_ ((by rw [hg]; exact (below_size HL.out) : w6_.heap.size ≤ g8)); have N82 := Z_ ((by rw [hg]; exact Nat.ne_of_lt (blk_lt BW2.out) : g2 ≠ g8)); have N83 := Z_ ((by rw [hg]; exact Nat.ne_of_lt (blk_lt BW3.out) : g3 ≠ g8)); clear c2_ BW2 BW3 HL hbox hb hg; have BW2 := n0_; have BW3 := n1_; have HL := n2_; have B8 := n3_; clear n0_ n1_ n2_ n3_; obtain ⟨_, _, _, _, _, _, _, _, _, _, _, _, _, _, _, _, _, _, _, _, _, _, _, _, _, _, _, _, _, _, _, _, _, _, _, _, _, _, _, _⟩ := bc20 BW3.out; have c8_ : w8_.cell? ⟨g8, 0, none⟩ = some (.bool false) := (blk_cell B8.out 0).trans rfl; have z8_ := blk_frozen B8.out 0; have m82 := N82.out; have m83 := N83.out; have m28 := N82.out.symm; have m38 := N83.out.symm) | (go_at_call 63; refine (slices_ContainsFunc_int64_int64.calls 76 #[.pointer (some ⟨g8, 0, none⟩), .pointer (some ⟨g2, 0, none⟩)] (tkP l0 (decide (x2 > 2))) A3 c3 [x15, x16] _ (enters_of Try.func76 (by kernel_rfl) rfl) (fun W x _ hB => (impl_TalkFault_1.calls A0 l0.length c0 g8 g2 (decide (x2 > 2)) x HN0.out W ((hB.cell (p := ⟨g8, 0, none⟩) (blk_lt (blk_put (cs' := #[.bool (decide (x2 > 2))]) B8.out 0 (.bool (decide (x2 > 2))) rfl))).trans ((blk_cell (blk_put (cs' := #[.bool (decide (x2 > 2))]) B8.out 0 (.bool (decide (x2 > 2))) rfl) 0).trans rfl)) ((hB.cell (p := ⟨g2, 0, none⟩) (blk_lt (bF_ BW2.out N82.out _))).trans ((blk_cell (bF_ BW2.out N82.out _) 0).trans rfl))).mono (fun _ _ h => ⟨h.1, below_step hB h.2⟩)) (Kd.C_below C3.out (lS1_ HL.out S8.out)) (by simp)).mono ?_; rintro e w9 ⟨he, hb⟩; rw [show ([x15, x16] : List Int).any (tkP l0 (decide (x2 > 2))) = false from HQ2.out] at he; subst he; replace HL := Z_ (below_step (lS1_ HL.out S8.out) hb); clear hb))
            go_roundg (3 - (2 + 1))
            case measure => omega
            case rel =>
             refine ⟨3, by omega, by omega, by first | rfl | simp, ⟨fun j hj => ?_⟩, ⟨HL.out⟩⟩
             rcases (show j < 2 ∨ j = 2 by omega) with hj2 | rfl
             ·exact HP.out j hj2
             ·rfl
         ·obtain rfl : kk = 3 := by omega
          obtain rfl : q0 = false := HP.out 0 (by omega)
          obtain rfl : q1 = false := HP.out 1 (by omega)
          obtain rfl : q2 = false := HP.out 2 (by omega)
          have h := H.out
          clear H
          rw [if_neg (by decide)] at h
          have hpx7 : 0 ≤ x7 ∧ x7 < (l0.length : Int) := by
            have h1 := HQ0.out
            have h2 := HS2.out
            unfold tkAny at h1
            rw [decide_eq_true (show x2 > 0 by omega)] at h1
            simp only [List.any_cons, List.any_nil, tkP, notIn, if_true, Bool.or_eq_false_iff, Bool.not_eq_false', decide_eq_true_eq] at h1
            omega
          obtain ⟨ad7, e7, a70, a71, a72, a73⟩ := at_T76 HR0.out x7 hpx7.1 hpx7.2
          cases e7
          replace a70 := (HBW.out.cell (World.block_lt_of_cell? w _ a70)).trans a70
          replace a71 := (HBW.out.cell (World.block_lt_of_cell? w _ a71)).trans a71
          replace a72 := (HBW.out.cell (World.block_lt_of_cell? w _ a72)).trans a72
          replace a73 := (HBW.out.cell (World.block_lt_of_cell? w _ a73)).trans a73
          have p7 := eq_true hpx7.1
          have r7 := eq_true hpx7.2
          have s2 := HS2.out
          by_cases f7 : (rd_T76 l0 x7).f0 = 2
          rotate_left
          ·rw [if_neg f7] at h
           have u1 : ((rd_T76 l0 x7).f0 == 2) = false := by simpa using f7
           have u2 : ((rd_T76 l0 x7).f0 != 2) = true := by simpa using f7
           obtain rfl := Option.some.inj h
           go_wp2
           go_ret
           exact ⟨rfl, HBW.out⟩
          rw [if_pos f7] at h
          have u1 : ((rd_T76 l0 x7).f0 == 2) = true := by simpa using f7
          have u2 : ((rd_T76 l0 x7).f0 != 2) = false := by simpa using f7
          by_cases g2_ : 2 ≤ x2
          rotate_left
          ·rw [if_neg g2_] at h
           have u3 : decide (2 ≤ x2) = false := decide_eq_false g2_
           have u4 : decide (x2 ≥ 2) = false := decide_eq_false g2_
           have u5 := eq_false g2_
           obtain rfl := Option.some.inj h
           go_wp2
           go_ret
           exact ⟨rfl, HBW.out⟩
          rw [if_pos g2_] at h
          have u3 : decide (2 ≤ x2) = true := decide_eq_true g2_
          have u4 : decide (x2 ≥ 2) = true := decide_eq_true g2_
          have u5 := eq_true g2_
          have hpx8 : 0 ≤ x8 ∧ x8 < (l0.length : Int) := by
            have h1 := HQ1.out
            have h2 := HS2.out
            unfold tkAny at h1
            rw [decide_eq_true (show x2 > 1 by omega)] at h1
            simp only [List.any_cons, List.any_nil, tkP, notIn, if_true, Bool.or_eq_false_iff, Bool.not_eq_false', decide_eq_true_eq] at h1
            omega
          obtain ⟨ad8, e8, a80, a81, a82, a83⟩ := at_T76 HR0.out x8 hpx8.1 hpx8.2
          cases e8
          replace a80 := (HBW.out.cell (World.block_lt_of_cell? w _ a80)).trans a80
          replace a81 := (HBW.out.cell (World.block_lt_of_cell? w _ a81)).trans a81
          replace a82 := (HBW.out.cell (World.block_lt_of_cell? w _ a82)).trans a82
          replace a83 := (HBW.out.cell (World.block_lt_of_cell? w _ a83)).trans a83
          have p8 := eq_true hpx8.1
          have r8 := eq_true hpx8.2
          by_cases f8 : (rd_T76 l0 x8).f0 = 6
          ·rw [if_pos f8] at h
           have u6 : ((rd_T76 l0 x8).f0 == 6) = true := by simpa using f8
           have u7 : ((rd_T76 l0 x8).f0 != 6) = false := by simpa using f8
           obtain rfl := Option.some.inj h
           go_wp2
           go_ret
           exact ⟨rfl, HBW.out⟩
          ·rw [if_neg f8] at h
           have u6 : ((rd_T76 l0 x8).f0 == 6) = false := by simpa using f8
           have u7 : ((rd_T76 l0 x8).f0 != 6) = true := by simpa using f8
           obtain rfl := Option.some.inj h
           go_wp2
           go_ret
           exact ⟨rfl, HBW.out⟩
end
end Go.Proofs.Ytbjnjjjhdjichaa.G
namespace Go.Proofs.Ytbjnjjjhdjichaa.G
open Go.RowKit Go.Proofs.YtbjnjjjhdjichaaW.PrintWords Go.Proofs.YtbjnjjjhdjichaaW.PrintLast Go.Proofs.YtbjnjjjhdjichaaW.PrintMore
attribute [local go_sem] max2_int min2_int max_two min_two max_three min_three max_four min_four   -- for this text's walks alone
set_option linter.unusedVariables false
set_option linter.unusedSimpArgs false
def impl_isId.f (a0 : Int) : Option (Bool) := (impl_in.f a0 1 9).bind fun t317 => (some t317)
set_option maxHeartbeats 8000000 in
set_option maxRecDepth 100000 in
theorem impl_isId.calls (a0 : Int) (r : Bool) (w : World) (h : impl_isId.f a0 = some r) :
  Calls Try.prog 67 #[.int .i64 a0] w fun e w' => e = .returned (.bool r) ∧ Drawn0 w w' := by
 unfold impl_isId.f at h
 have H := h
 clear h
 replace H := bS_ H
 obtain ⟨t317, A2, H⟩ := H
 obtain rfl := Option.some.inj H
 go_enter Try.func67, Try.ntmps67
 go_wp2_with (first | ((with_reducible refine gate_callee (f := 31) rfl ?_); refine goesA_ (some 4) rfl rfl Try.func31 (by kernel_rfl) rfl #[.int .i64 a0, .int .i64 1, .int .i64 9] rfl ?_; (with_reducible refine (impl_in.calls a0 1 9 t317 _ A2.out).mono ?_); rintro e w' ⟨rfl, ⟨nd, rfl⟩⟩; refine ⟨_, rfl, ?_⟩))
 go_ret
 exact ⟨by first | rfl | (simp; done) | (simp [*]; done), by repeat (first | exact Drawn0.refl _ | apply Drawn0.step)⟩
mutual
def impl_GateFault.j0 : Nat → List (S76) → Bool → Int → Int → List (S83) → Option (Int)
 | 0, _, _, _, _, _ => none
 | k + 1, x0, x14, x338000, x338001, x338002 => if x14 = true then (some 3) else (if (x338002.length : Int) > 12 then (some 2) else (impl_GateFault.l0 k x0 x338002 (x338002.length : Int) 0))
def impl_GateFault.l0 : Nat → List (S76) → List (S83) → Int → Int → Option (Int)
 | 0, _, _, _, _ => none
 | k + 1, x0, x31, x32, x33 => if x33 < x32 then (if 0 ≤ x33 then (if x33 < (x31.length : Int) then ((impl_TalkFault.f k x0 ((rd_T83 x31 x33).f0) ((rd_T83 x31 x33).f1) ((rd_T83 x31 x33).f2) ((rd_T83 x31 x33).f3) ((rd_T83 x31 x33).f4) ((rd_T83 x31 x33).f5) ((rd_T83 x31 x33).f6) ((rd_T83 x31 x33).f7) ((rd_T83 x31 x33).f8) ((rd_T83 x31 x33).f9) ((rd_T83 x31 x33).f10) ((rd_T83 x31 x33).f11.f0) ((rd_T83 x31 x33).f11.f1) ((rd_T83 x31 x33).f11.f2) ((rd_T83 x31 x33).f11.f3) ((rd_T83 x31 x33).f12) ((rd_T83 x31 x33).f13) ((rd_T83 x31 x33).f14) ((rd_T83 x31 x33).f15.f0) ((rd_T83 x31 x33).f15.f1)).bind fun t343 => (if t343 = 0 then (impl_GateFault.l0 k x0 x31 x32 (wrap64 (x33 + 1))) else (some t343))) else (none)) else (none)) else (some 0)
end
def impl_GateFault.f (k : Nat) (l0 : List (S76)) (a1_0 a1_1 : Int) (l1_2 : List (S83)) : Option (Int) := (impl_TermsFault.f l0).bind fun t338 => (if t338 = 0 then ((impl_isId.f a1_0).bind fun t339 => (if t339 = true then ((impl_in.f a1_1 0 90).bind fun t340 => (impl_GateFault.j0 k l0 (!t340) a1_0 a1_1 l1_2)) else (impl_GateFault.j0 k l0 true a1_0 a1_1 l1_2))) else (some t338))
set_option maxHeartbeats 8000000 in
set_option maxRecDepth 100000 in
theorem impl_GateFault.calls (k : Nat) (A0 : Option Addr) (c0 : Nat) (l0 : List (S76)) (a1_0 a1_1 : Int) (A1_2 : Option Addr) (c1_2 : Nat) (l1_2 : List (S83)) (r : Int) (w : World) (hr0 : Kd.C k76 w A0 l0.length l0) (hc0 : l0.length ≤ c0) (hr1_2 : Kd.C k83 w A1_2 l1_2.length l1_2) (hc1_2 : l1_2.length ≤ c1_2) (h : impl_GateFault.f k l0 a1_0 a1_1 l1_2 = some r) :
  Calls Try.prog 48 #[.slice A0 l0.length c0, .agg #[.int .i64 a1_0, .int .i64 a1_1, .slice A1_2 l1_2.length c1_2]] w fun e w' => e = .returned (.int .i64 r) ∧ Below w.heap.size w w' := by
 have hu46 := Try.underlying46
 have hu83 := Try.underlying83
 have a8 := Z_ hr0
 have a9 := Z_ hc0
 clear hr0 hc0
 have HR1_2 := Z_ hr1_2
 have HC1_2 := Z_ hc1_2
 clear hr1_2 hc1_2
 have HB := Z_ (Below.refl w.heap.size w)
 unfold impl_GateFault.f at h
 have H := h
 clear h
 replace H := bS_ H
 obtain ⟨t338, A3, H⟩ := H
 replace H := iC_ H
 obtain ⟨c4, H⟩ | ⟨c4, H⟩ := H
 rotate_left
 ·have c4b0 : (t338 == 0) = false := beq_eq_false_iff_ne.mpr c4
  have c4b1 : (t338 != 0) = true := bne_iff_ne.mpr c4
  obtain rfl := Option.some.inj H
  go_enter Try.func48, Try.ntmps48
  go_wp2_with (first | ((with_reducible refine gate_load_ (t := 83) rfl ?_); refine load_row_ (by rfl) (by rfl) (by rfl) hL341 Try.underlying83 rfl size83_ ?_) | ((with_reducible refine gD_ 3 rfl ?_); refine bx_ #[.int .i64 a1_0, .int .i64 a1_1, .slice A1_2 l1_2.length c1_2] 46 ?_; intro a2 hg w30 hbox hb; have a1 := Z_ ((by rw [hg]; exact (below_size Lb_) : w.heap.size ≤ a2)); replace HB := Z_ (lP_ Lb_ hb); clear hb hbox hg) | ((with_reducible refine gate_callee (f := 23) rfl ?_); refine goesA_ (some 10) rfl rfl Try.func23 (by kernel_rfl) rfl #[.slice A0 l0.length c0] rfl ?_; (with_reducible refine (impl_TermsFault.calls _ _ l0 t338 _ ?side1 ?side2 A3.out).mono ?_); (case side1 => repeat (first | exact (Kd.C_below a8.out HB.out) | (with_reducible refine Kd.C_alloc ?_ _) | (with_reducible refine Kd.C_drewN ?_ _) | (with_reducible refine Kd.C_drew ?_))); (case side2 => exact a9.out); rintro e w31 ⟨rfl, hb⟩; refine ⟨_, rfl, ?_⟩; replace HB := Z_ (lP_ (by repeat (first | (with_reducible first | exact HB.out | refine lS1_ ?_ a1.out) | exact HB.out)) hb); (try clear hb)))
  go_ret
  exact ⟨Er_, Lb_⟩
 rotate_right
 have c4b0 : (t338 == 0) = true := beq_iff_eq.mpr c4
 have c4b1 : (t338 != 0) = false := bne_eq_false_iff_eq.mpr c4
 clear c4
 have aa := Z_ H
 clear H
 go_enter Try.func48, Try.ntmps48
 go_upto_region 4 with (first | ((with_reducible refine gD_ 3 rfl ?_); refine bx_ #[.int .i64 a1_0, .int .i64 a1_1, .slice A1_2 l1_2.length c1_2] 46 ?_; intro a2 hg w6 hbox hb; have a0 := Z_ hbox; have ah := Z_ ((by rw [hg]; exact (below_size Lb_) : w.heap.size ≤ a2)); have a1 := Z_ ((by rw [hg]; exact (below_size Lb_) : w.heap.size ≤ a2)); replace HB := Z_ (lP_ Lb_ hb); clear hb hbox hg) | ((with_reducible refine gate_callee (f := 23) rfl ?_); refine goesA_ (some 10) rfl rfl Try.func23 (by kernel_rfl) rfl #[.slice A0 l0.length c0] rfl ?_; (with_reducible refine (impl_TermsFault.calls _ _ l0 t338 _ ?side1 ?side2 A3.out).mono ?_); (case side1 => repeat (first | exact (Kd.C_below a8.out HB.out) | (with_reducible refine Kd.C_alloc ?_ _) | (with_reducible refine Kd.C_drewN ?_ _) | (with_reducible refine Kd.C_drew ?_))); (case side2 => exact a9.out); rintro e w7 ⟨rfl, hb⟩; refine ⟨_, rfl, ?_⟩; replace a0 := Z_ (bB_ (g := a2) (o := .cells #[.int .i64 a1_0, .int .i64 a1_1, .slice A1_2 l1_2.length c1_2] 46 (0, 0)) (Bk_ a0) hb); replace HB := Z_ (lP_ Lb_ hb); (try clear hb)))
 (try simp only [Act.put, lA_, lZ_, lS_])
 go_cut [14] (fun v14 wc => ∃ (kq : Nat) (x14_4 : Bool), v14 = .bool x14_4 ∧ Aside0 (impl_GateFault.j0 kq l0 x14_4 a1_0 a1_1 l1_2 = some r) ∧ Aside0 (kq ≤ k) ∧ Aside0 (wc.heap[a2]? = some (.cells #[.int .i64 a1_0, .int .i64 a1_1, (.slice A1_2 l1_2.length c1_2)] 46 (0, 0))) ∧ Aside0 (Below w.heap.size w wc))
 case first =>
  have H := aa.out
  clear aa
  replace H := bS_ H
  obtain ⟨t339, A8, H⟩ := H
  replace H := iB_ H
  obtain ⟨rfl, H⟩ | ⟨rfl, H⟩ := H
  replace H := bS_ H
  obtain ⟨t340, ag, H⟩ := H
  all_goals
   have H' := Z_ H
   clear H
   obtain ⟨_, _, _, _, _, _⟩ := bc3 a0.out
   go_wp2_with (first | ((with_reducible refine gate_callee (f := 67) rfl ?_); refine goesA_ (some 17) rfl rfl Try.func67 (by kernel_rfl) rfl #[.int .i64 a1_0] rfl ?_; (with_reducible refine (impl_isId.calls a1_0 _ _ A8.out).mono ?_); rintro e w' ⟨rfl, ⟨nd, rfl⟩⟩; refine ⟨_, rfl, ?_⟩) | (go_at_call 31; (with_reducible refine (impl_in.calls a1_1 0 90 t340 _ ag.out).mono ?_); rintro e w' ⟨rfl, ⟨nd, rfl⟩⟩))
   go_meet
   case rel => exact ⟨_, _, Sr_, H', Ol_, ⟨Bk_ a0⟩, ⟨Lb_⟩⟩
 case rest =>
  clear aa
  try clear c1
  try clear c2
  try clear p2
  try clear c4
  try clear c4b0
  try clear c4b1
  try clear c6
  try clear c9
  obtain ⟨kq, x14_4, rfl, HA, HJ4, a0, HB⟩ := hcut
  cases kq with
  | zero => exact absurd HA.out (by simp [impl_GateFault.j0])
  | succ kj4 =>
   have H := HA.out
   clear HA
   simp only [impl_GateFault.j0] at H
   replace H := iB_ H
   obtain ⟨rfl, H⟩ | ⟨rfl, H⟩ := H
   rotate_left
   replace H := iC_ H
   obtain ⟨c14, H⟩ | ⟨c14, H⟩ := H
   focus
    have c14b0 : decide (12 < (l1_2.length : Int)) = true := decide_eq_true c14
    have c14b1 : decide (12 < l1_2.length) = true := decide_eq_true (by omega)
    clear c14
   rotate_left
   ·have c14b0 : decide (12 < (l1_2.length : Int)) = false := decide_eq_false c14
    have c14b1 : decide (12 < l1_2.length) = false := decide_eq_false (by omega)
    clear c14
    have H' := Z_ H
    clear H
    obtain ⟨_, _, _, _, _, _⟩ := bc3 a0.out
    go_wp2
    go_loopg [33] kj4 (fun kq v33 w' => ∃ (x33_2 : Int), v33 = .int .i64 x33_2 ∧ Aside0 (impl_GateFault.l0 kq l0 l1_2 (l1_2.length : Int) x33_2 = some r) ∧ Aside0 (kq ≤ kj4) ∧ Aside0 (w'.heap[a2]? = some (.cells #[.int .i64 a1_0, .int .i64 a1_1, (.slice A1_2 l1_2.length c1_2)] 46 (0, 0))) ∧ Aside0 (Below w.heap.size w w'))
    case atStart => exact ⟨(0), Sr_, H', ⟨Nat.le_refl _⟩, ⟨Bk_ a0⟩, ⟨Lb_⟩⟩
    case round =>
     clear H'
     try clear c1
     try clear c2
     try clear p2
     try clear c4
     try clear c4b0
     try clear c4b1
     try clear c6
     try clear c9
     try clear c13
     try clear c14
     try clear c14b0
     try clear c14b1
     try clear p2
     obtain ⟨x33_2, rfl, HA, HK2, a0, HB⟩ := hrel
     cases gk with
     | zero => exact absurd HA.out (by simp [impl_GateFault.l0])
     | succ k2 =>
      have H := HA.out
      clear HA
      simp only [impl_GateFault.l0] at H
      replace H := iD_ H
      obtain ⟨c17b0, H⟩ | ⟨c17b0, H⟩ := H
      rotate_left
      ·obtain rfl := Option.some.inj H
       go_wp2
       go_ret
       exact ⟨Er_, Lb_⟩
      rotate_right
      replace H := iM_ H
      obtain ⟨c18b0, H⟩ := H
      replace H := iM_ H
      obtain ⟨c19b0, H⟩ := H
      replace H := bS_ H
      obtain ⟨t343, af, H⟩ := H
      replace H := iE_ H
      obtain ⟨c21b0, c21b1, H⟩ | ⟨c21b0, c21b1, H⟩ := H
      rotate_left
      ·obtain rfl := Option.some.inj H
       have p341 : 0 ≤ (x33_2 : Int) := dA_
       have q341 : x33_2 < (l1_2.length : Int) := dA_
       obtain ⟨ad341, e341, hL341⟩ := at_L83 HR1_2.out x33_2 p341 q341
       cases e341
       replace hL341 := RowAt.below (B := 0) hL341 HB.out
       replace p341 := eq_true p341
       replace q341 := eq_true q341
       go_wp2_with (first | ((with_reducible refine gate_load_ (t := 83) rfl ?_); refine load_row_ (by rfl) (by rfl) (by rfl) hL341 Try.underlying83 rfl size83_ ?_) | ((with_reducible refine gD_ 7 rfl ?_); refine bx_ #[.int .i64 0, .int .i64 0, .int .i64 0, .int .i64 0, .int .i64 0, .int .i64 0, .int .i64 0, .int .i64 0, .int .i64 0, .int .i64 0, .int .i64 0, .int .i64 0, .int .i64 0, .int .i64 0, .int .i64 0, .int .i64 0, .int .i64 0, .int .i64 0, .int .i64 0, .int .i64 0] 83 ?_; intro a6 hg w26 hbox hb; have a7 := Z_ hbox; have a4 := Z_ ((by rw [hg]; exact (below_size Lb_) : w.heap.size ≤ a6)); replace HB := Z_ (lP_ Lb_ hb); have a3 := Z_ ((by rw [hg]; exact Nat.ne_of_lt (blk_lt (g := a2) (o := .cells #[.int .i64 a1_0, .int .i64 a1_1, .slice (some ad341) l1_2.length c1_2] 46 (0, 0)) (Bk_ a0)) : a2 ≠ a6)); have a5 := Z_ a3.out.symm; clear hb hbox hg; have ak := a5.out; have al := a3.out; obtain ⟨_, _, _, _, _, _, _, _, _, _, _, _, _, _, _, _, _, _, _, _, _, _, _, _, _, _, _, _, _, _, _, _, _, _, _, _, _, _, _, _⟩ := bc20 a7.out) | ((with_reducible refine gate_store (t := 83) rfl ?_); refine store_box_ (by rfl) (by rfl) (by rfl) (by rfl) (by rfl) a7.out (by rfl) size83_ (by rfl) ?_; intro w99_ hst hU; replace HB := Z_ (lU_ hU HB.out a4.out); replace a7 := Z_ hst; clear hU hst; obtain ⟨_, _, _, _, _, _, _, _, _, _, _, _, _, _, _, _, _, _, _, _, _, _, _, _, _, _, _, _, _, _, _, _, _, _, _, _, _, _, _, _⟩ := bc20 a7.out) | ((with_reducible refine gate_load_ (t := 83) rfl ?_); refine load_row_ (by rfl) (by rfl) (by rfl) (rowAt_block (t := 83) (cs := [.int .i64 (rd_T83 l1_2 x33_2).f0, .int .i64 (rd_T83 l1_2 x33_2).f1, .int .i64 (rd_T83 l1_2 x33_2).f2, .int .i64 (rd_T83 l1_2 x33_2).f3, .int .i64 (rd_T83 l1_2 x33_2).f4, .int .i64 (rd_T83 l1_2 x33_2).f5, .int .i64 (rd_T83 l1_2 x33_2).f6, .int .i64 (rd_T83 l1_2 x33_2).f7, .int .i64 (rd_T83 l1_2 x33_2).f8, .int .i64 (rd_T83 l1_2 x33_2).f9, .int .i64 (rd_T83 l1_2 x33_2).f10, .int .i64 (rd_T83 l1_2 x33_2).f11.f0, .int .i64 (rd_T83 l1_2 x33_2).f11.f1, .int .i64 (rd_T83 l1_2 x33_2).f11.f2, .int .i64 (rd_T83 l1_2 x33_2).f11.f3, .int .i64 (rd_T83 l1_2 x33_2).f12, .int .i64 (rd_T83 l1_2 x33_2).f13, .int .i64 (rd_T83 l1_2 x33_2).f14, .int .i64 (rd_T83 l1_2 x33_2).f15.f0, .int .i64 (rd_T83 l1_2 x33_2).f15.f1]) (Bk_ a7)) Try.underlying83 rfl size83_ ?_) | ((with_reducible refine gate_callee (f := 68) rfl ?_); refine goesA_ (some 39) rfl rfl Try.func68 (by kernel_rfl) rfl #[.slice A0 l0.length c0, .agg #[.int .i64 ((rd_T83 l1_2 x33_2).f0), .int .i64 ((rd_T83 l1_2 x33_2).f1), .int .i64 ((rd_T83 l1_2 x33_2).f2), .int .i64 ((rd_T83 l1_2 x33_2).f3), .int .i64 ((rd_T83 l1_2 x33_2).f4), .int .i64 ((rd_T83 l1_2 x33_2).f5), .int .i64 ((rd_T83 l1_2 x33_2).f6), .int .i64 ((rd_T83 l1_2 x33_2).f7), .int .i64 ((rd_T83 l1_2 x33_2).f8), .int .i64 ((rd_T83 l1_2 x33_2).f9), .int .i64 ((rd_T83 l1_2 x33_2).f10), .int .i64 ((rd_T83 l1_2 x33_2).f11.f0), .int .i64 ((rd_T83 l1_2 x33_2).f11.f1), .int .i64 ((rd_T83 l1_2 x33_2).f11.f2), .int .i64 ((rd_T83 l1_2 x33_2).f11.f3), .int .i64 ((rd_T83 l1_2 x33_2).f12), .int .i64 ((rd_T83 l1_2 x33_2).f13), .int .i64 ((rd_T83 l1_2 x33_2).f14), .int .i64 ((rd_T83 l1_2 x33_2).f15.f0), .int .i64 ((rd_T83 l1_2 x33_2).f15.f1)]] rfl ?_; (with_reducible refine (impl_TalkFault.calls k2 _ _ l0 ((rd_T83 l1_2 x33_2).f0) ((rd_T83 l1_2 x33_2).f1) ((rd_T83 l1_2 x33_2).f2) ((rd_T83 l1_2 x33_2).f3) ((rd_T83 l1_2 x33_2).f4) ((rd_T83 l1_2 x33_2).f5) ((rd_T83 l1_2 x33_2).f6) ((rd_T83 l1_2 x33_2).f7) ((rd_T83 l1_2 x33_2).f8) ((rd_T83 l1_2 x33_2).f9) ((rd_T83 l1_2 x33_2).f10) ((rd_T83 l1_2 x33_2).f11.f0) ((rd_T83 l1_2 x33_2).f11.f1) ((rd_T83 l1_2 x33_2).f11.f2) ((rd_T83 l1_2 x33_2).f11.f3) ((rd_T83 l1_2 x33_2).f12) ((rd_T83 l1_2 x33_2).f13) ((rd_T83 l1_2 x33_2).f14) ((rd_T83 l1_2 x33_2).f15.f0) ((rd_T83 l1_2 x33_2).f15.f1) t343 _ ?side1 ?side2 af.out).mono ?_); (case side1 => exact Kd.C_below a8.out Lb_); (case side2 => exact a9.out); rintro e w29 ⟨rfl, hb⟩; refine ⟨_, rfl, ?_⟩; replace HB := Z_ (lP_ Lb_ hb); (try clear hb)))
       go_ret
       exact ⟨Er_, Lb_⟩
      rotate_right
      have H' := Z_ H
      clear H
      have p341 : 0 ≤ (x33_2 : Int) := dA_
      have q341 : x33_2 < (l1_2.length : Int) := dA_
      obtain ⟨ad341, e341, hL341⟩ := at_L83 HR1_2.out x33_2 p341 q341
      cases e341
      replace hL341 := RowAt.below (B := 0) hL341 HB.out
      replace p341 := eq_true p341
      replace q341 := eq_true q341
      go_wp2_with (first | ((with_reducible refine gate_load_ (t := 83) rfl ?_); refine load_row_ (by rfl) (by rfl) (by rfl) hL341 Try.underlying83 rfl size83_ ?_) | ((with_reducible refine gD_ 7 rfl ?_); refine bx_ #[.int .i64 0, .int .i64 0, .int .i64 0, .int .i64 0, .int .i64 0, .int .i64 0, .int .i64 0, .int .i64 0, .int .i64 0, .int .i64 0, .int .i64 0, .int .i64 0, .int .i64 0, .int .i64 0, .int .i64 0, .int .i64 0, .int .i64 0, .int .i64 0, .int .i64 0, .int .i64 0] 83 ?_; intro a6 hg w22 hbox hb; have a7 := Z_ hbox; have a4 := Z_ ((by rw [hg]; exact (below_size HB.out) : w.heap.size ≤ a6)); replace HB := Z_ (lP_ HB.out hb); have a3 := Z_ ((by rw [hg]; exact Nat.ne_of_lt (blk_lt a0.out) : a2 ≠ a6)); replace a0 := Z_ (bB_ a0.out hb); have a5 := Z_ a3.out.symm; clear hb hbox hg; have ai := a5.out; have aj := a3.out; obtain ⟨_, _, _, _, _, _, _, _, _, _, _, _, _, _, _, _, _, _, _, _, _, _, _, _, _, _, _, _, _, _, _, _, _, _, _, _, _, _, _, _⟩ := bc20 a7.out) | ((with_reducible refine gate_store (t := 83) rfl ?_); refine store_box_ (by rfl) (by rfl) (by rfl) (by rfl) (by rfl) a7.out (by rfl) size83_ (by rfl) ?_; intro w99_ hst hU; replace a0 := Z_ (bU_ hU a0.out a3.out); replace HB := Z_ (lU_ hU HB.out a4.out); replace a7 := Z_ hst; clear hU hst; obtain ⟨_, _, _, _, _, _, _, _, _, _, _, _, _, _, _, _, _, _, _, _, _, _, _, _, _, _, _, _, _, _, _, _, _, _, _, _, _, _, _, _⟩ := bc20 a7.out) | ((with_reducible refine gate_load_ (t := 83) rfl ?_); refine load_row_ (by rfl) (by rfl) (by rfl) (rowAt_block (t := 83) (cs := [.int .i64 (rd_T83 l1_2 x33_2).f0, .int .i64 (rd_T83 l1_2 x33_2).f1, .int .i64 (rd_T83 l1_2 x33_2).f2, .int .i64 (rd_T83 l1_2 x33_2).f3, .int .i64 (rd_T83 l1_2 x33_2).f4, .int .i64 (rd_T83 l1_2 x33_2).f5, .int .i64 (rd_T83 l1_2 x33_2).f6, .int .i64 (rd_T83 l1_2 x33_2).f7, .int .i64 (rd_T83 l1_2 x33_2).f8, .int .i64 (rd_T83 l1_2 x33_2).f9, .int .i64 (rd_T83 l1_2 x33_2).f10, .int .i64 (rd_T83 l1_2 x33_2).f11.f0, .int .i64 (rd_T83 l1_2 x33_2).f11.f1, .int .i64 (rd_T83 l1_2 x33_2).f11.f2, .int .i64 (rd_T83 l1_2 x33_2).f11.f3, .int .i64 (rd_T83 l1_2 x33_2).f12, .int .i64 (rd_T83 l1_2 x33_2).f13, .int .i64 (rd_T83 l1_2 x33_2).f14, .int .i64 (rd_T83 l1_2 x33_2).f15.f0, .int .i64 (rd_T83 l1_2 x33_2).f15.f1]) (Bk_ a7)) Try.underlying83 rfl size83_ ?_) | ((with_reducible refine gate_callee (f := 68) rfl ?_); refine goesA_ (some 39) rfl rfl Try.func68 (by kernel_rfl) rfl #[.slice A0 l0.length c0, .agg #[.int .i64 ((rd_T83 l1_2 x33_2).f0), .int .i64 ((rd_T83 l1_2 x33_2).f1), .int .i64 ((rd_T83 l1_2 x33_2).f2), .int .i64 ((rd_T83 l1_2 x33_2).f3), .int .i64 ((rd_T83 l1_2 x33_2).f4), .int .i64 ((rd_T83 l1_2 x33_2).f5), .int .i64 ((rd_T83 l1_2 x33_2).f6), .int .i64 ((rd_T83 l1_2 x33_2).f7), .int .i64 ((rd_T83 l1_2 x33_2).f8), .int .i64 ((rd_T83 l1_2 x33_2).f9), .int .i64 ((rd_T83 l1_2 x33_2).f10), .int .i64 ((rd_T83 l1_2 x33_2).f11.f0), .int .i64 ((rd_T83 l1_2 x33_2).f11.f1), .int .i64 ((rd_T83 l1_2 x33_2).f11.f2), .int .i64 ((rd_T83 l1_2 x33_2).f11.f3), .int .i64 ((rd_T83 l1_2 x33_2).f12), .int .i64 ((rd_T83 l1_2 x33_2).f13), .int .i64 ((rd_T83 l1_2 x33_2).f14), .int .i64 ((rd_T83 l1_2 x33_2).f15.f0), .int .i64 ((rd_T83 l1_2 x33_2).f15.f1)]] rfl ?_; (with_reducible refine (impl_TalkFault.calls k2 _ _ l0 ((rd_T83 l1_2 x33_2).f0) ((rd_T83 l1_2 x33_2).f1) ((rd_T83 l1_2 x33_2).f2) ((rd_T83 l1_2 x33_2).f3) ((rd_T83 l1_2 x33_2).f4) ((rd_T83 l1_2 x33_2).f5) ((rd_T83 l1_2 x33_2).f6) ((rd_T83 l1_2 x33_2).f7) ((rd_T83 l1_2 x33_2).f8) ((rd_T83 l1_2 x33_2).f9) ((rd_T83 l1_2 x33_2).f10) ((rd_T83 l1_2 x33_2).f11.f0) ((rd_T83 l1_2 x33_2).f11.f1) ((rd_T83 l1_2 x33_2).f11.f2) ((rd_T83 l1_2 x33_2).f11.f3) ((rd_T83 l1_2 x33_2).f12) ((rd_T83 l1_2 x33_2).f13) ((rd_T83 l1_2 x33_2).f14) ((rd_T83 l1_2 x33_2).f15.f0) ((rd_T83 l1_2 x33_2).f15.f1) t343 _ ?side1 ?side2 af.out).mono ?_); (case side1 => exact Kd.C_below a8.out (by repeat (first | (with_reducible first | exact HB.out | refine lS1_ ?_ a1.out | refine lS1_ ?_ a4.out) | exact HB.out))); (case side2 => exact a9.out); rintro e w25 ⟨rfl, hb⟩; refine ⟨_, rfl, ?_⟩; replace a0 := Z_ (bB_ (g := a2) (o := .cells #[.int .i64 a1_0, .int .i64 a1_1, .slice (some ad341) l1_2.length c1_2] 46 (0, 0)) (by exact a0.out) hb); replace HB := Z_ (lP_ (by repeat (first | (with_reducible first | exact HB.out | refine lS1_ ?_ a1.out | refine lS1_ ?_ a4.out) | exact HB.out)) hb); (try clear hb)))
      go_roundg k2
      case measure => have := HJ4.out; have := HK2.out; omega
      case rel => exact ⟨(wrap64 (x33_2 + 1)), Sr_, H', ⟨by have := HJ4.out; have := HK2.out; omega⟩, ⟨Bk_ a0⟩, ⟨Lb_⟩⟩
   all_goals
    obtain rfl := Option.some.inj H
    try obtain ⟨_, _, _, _, _, _⟩ := bc3 a0.out
    go_wp2
    go_ret
    exact ⟨Er_, Lb_⟩
def impl_brokenFault.l0 : Nat → List Int → List Int → Int → Int → Option (Int)
 | 0, _, _, _, _ => none
 | k + 1, x0, x8, x9, x10 => if x10 < x9 then (if 0 ≤ x10 then (if x10 < (x8.length : Int) then ((impl_in.f (rd x8 x10) 9011 9099).bind fun t349 => (if t349 = true then (if x10 > 0 then (if 0 ≤ (wrap64 (x10 - 1)) then (if (wrap64 (x10 - 1)) < (x0.length : Int) then (if (rd x0 (wrap64 (x10 - 1))) ≥ (rd x8 x10) then (some 1) else (impl_brokenFault.l0 k x0 x8 x9 (wrap64 (x10 + 1)))) else (none)) else (none)) else (impl_brokenFault.l0 k x0 x8 x9 (wrap64 (x10 + 1)))) else (some 3))) else (none)) else (none)) else (some 0)
def impl_brokenFault.f (k : Nat) (l0 : List Int) : Option (Int) := if (l0.length : Int) > 10 then (some 2) else (impl_brokenFault.l0 k l0 l0 (l0.length : Int) 0)
set_option maxHeartbeats 8000000 in
set_option maxRecDepth 100000 in
theorem impl_brokenFault.calls (k : Nat) (A0 : Option Addr) (c0 : Nat) (l0 : List Int) (r : Int) (w : World) (hr0 : Kd.C (Kd.int .i64) w A0 l0.length l0) (hc0 : l0.length ≤ c0) (h : impl_brokenFault.f k l0 = some r) :
  Calls Try.prog 25 #[.slice A0 l0.length c0] w fun e w' => e = .returned (.int .i64 r) ∧ Drawn0 w w' := by
 have a0 := Z_ hr0
 have a2 := Z_ hc0
 clear hr0 hc0
 unfold impl_brokenFault.f at h
 have H := h
 clear h
 replace H := iC_ H
 obtain ⟨c2, H⟩ | ⟨c2, H⟩ := H
 ·have c2b0 : decide (10 < (l0.length : Int)) = true := decide_eq_true c2
  have c2b1 : decide (10 < l0.length) = true := decide_eq_true (by omega)
  clear c2
  obtain rfl := Option.some.inj H
  go_enter Try.func25, Try.ntmps25
  go_wp2
  go_ret
  exact ⟨by first | rfl | (simp; done) | (simp [*]; done), by repeat (first | exact Drawn0.refl _ | apply Drawn0.step)⟩
 have c2b0 : decide (10 < (l0.length : Int)) = false := decide_eq_false c2
 have c2b1 : decide (10 < l0.length) = false := decide_eq_false (by omega)
 clear c2
 have H' := Z_ H
 clear H
 go_enter Try.func25, Try.ntmps25
 go_wp2
 go_loopg [10] k (fun kq v10 w' => ∃ (x10_1 : Int), v10 = .int .i64 x10_1 ∧ Aside0 (impl_brokenFault.l0 kq l0 l0 (l0.length : Int) x10_1 = some r) ∧ Aside0 (kq ≤ k) ∧ Drawn0 w w')
 case atStart => exact ⟨(0), Sr_, H', ⟨Nat.le_refl _⟩, by repeat (first | exact Drawn0.refl _ | apply Drawn0.step)⟩
 case round =>
  clear H'
  try clear c2
  try clear c2b0
  try clear c2b1
  try clear p2
  obtain ⟨x10_1, rfl, HA, HK1, ⟨m1, rfl⟩⟩ := hrel
  cases gk with
  | zero => exact absurd HA.out (by simp [impl_brokenFault.l0])
  | succ k1 =>
   have H := HA.out
   clear HA
   simp only [impl_brokenFault.l0] at H
   replace H := iD_ H
   obtain ⟨c3b0, H⟩ | ⟨c3b0, H⟩ := H
   rotate_left
   ·obtain rfl := Option.some.inj H
    go_wp2
    go_ret
    exact ⟨by first | rfl | (simp; done) | (simp [*]; done), by repeat (first | exact Drawn0.refl _ | apply Drawn0.step)⟩
   rotate_right
   replace H := iM_ H
   obtain ⟨c4b0, H⟩ := H
   replace H := iM_ H
   obtain ⟨c5b0, H⟩ := H
   replace H := bS_ H
   obtain ⟨t349, A6, H⟩ := H
   replace H := iB_ H
   obtain ⟨rfl, H⟩ | ⟨rfl, H⟩ := H
   rotate_left
   ·obtain rfl := Option.some.inj H
    have p348 : 0 ≤ (x10_1 : Int) := dA_
    have q348 : x10_1 < (l0.length : Int) := dA_
    obtain ⟨ad348, e348, hx348_0⟩ := Kd.at_int a0.out x10_1 p348 q348
    cases e348
    replace p348 := eq_true p348
    replace q348 := eq_true q348
    go_wp2_with (first | ((with_reducible refine gate_callee (f := 31) rfl ?_); refine goesA_ (some 17) rfl rfl Try.func31 (by kernel_rfl) rfl #[.int .i64 (rd l0 x10_1), .int .i64 9011, .int .i64 9099] rfl ?_; (with_reducible refine (impl_in.calls (rd l0 x10_1) 9011 9099 false _ A6.out).mono ?_); rintro e w' ⟨rfl, ⟨nd, rfl⟩⟩; refine ⟨_, rfl, ?_⟩))
    go_ret
    exact ⟨by first | rfl | (simp; done) | (simp [*]; done), by repeat (first | exact Drawn0.refl _ | apply Drawn0.step)⟩
   rotate_right
   replace H := iD_ H
   obtain ⟨c8b0, H⟩ | ⟨c8b0, H⟩ := H
   rotate_left
   focus replace c8b0 : decide (0 < x10_1) = false := c8b0
   rotate_right
   replace c8b0 : decide (0 < x10_1) = true := c8b0
   obtain ⟨ji9, hji9⟩ : ∃ j_ : Int, (wrap64 (x10_1 - 1)) = j_ := ⟨_, rfl⟩
   replace H : (if 0 ≤ (ji9) then (if (ji9) < (l0.length : Int) then (if (rd l0 (ji9)) ≥ (rd l0 x10_1) then (some 1) else (impl_brokenFault.l0 k1 l0 l0 (l0.length : Int) (wrap64 (x10_1 + 1)))) else (none)) else (none)) = some r := by first | (rw [hji9] at H; exact H) | (simp only [hji9] at H ⊢; exact H)
   (try rw [hji9] at A6)
   have hji9w : (IntKind.i64.wrap (x10_1 - 1)) = ji9 := (i64_w _).trans hji9
   replace H := iM_ H
   obtain ⟨c10b0, H⟩ := H
   replace H := iM_ H
   obtain ⟨c11b0, H⟩ := H
   replace H := iD_ H
   obtain ⟨c12b0, H⟩ | ⟨c12b0, H⟩ := H
   rotate_left
   focus replace c12b0 : decide ((rd l0 x10_1) ≤ (rd l0 (ji9))) = false := c12b0
   rotate_right
   ·replace c12b0 : decide ((rd l0 x10_1) ≤ (rd l0 (ji9))) = true := c12b0
    obtain rfl := Option.some.inj H
    have p348 : 0 ≤ (x10_1 : Int) := dA_
    have q348 : x10_1 < (l0.length : Int) := dA_
    obtain ⟨ad348, e348, hx348_0⟩ := Kd.at_int a0.out x10_1 p348 q348
    cases e348
    replace p348 := eq_true p348
    replace q348 := eq_true q348
    go_wp2_with (first | ((with_reducible refine gate_callee (f := 31) rfl ?_); refine goesA_ (some 17) rfl rfl Try.func31 (by kernel_rfl) rfl #[.int .i64 (rd l0 x10_1), .int .i64 9011, .int .i64 9099] rfl ?_; (with_reducible refine (impl_in.calls (rd l0 x10_1) 9011 9099 true _ A6.out).mono ?_); rintro e w' ⟨rfl, ⟨nd, rfl⟩⟩; refine ⟨_, rfl, ?_⟩; have p350 : 0 ≤ ((ji9) : Int) := dA_; have q350 : (ji9) < (l0.length : Int) := dA_; obtain ⟨ad350, e350, hx350_0⟩ := Kd.at_int a0.out (ji9) p350 q350; obtain rfl : ad348 = ad350 := (by injection e350); replace p350 := eq_true p350; replace q350 := eq_true q350))
    go_ret
    exact ⟨by first | rfl | (simp; done) | (simp only [← hji9] <;> (first | rfl | simp)) | (simp [*]; done), by repeat (first | exact Drawn0.refl _ | apply Drawn0.step)⟩
   all_goals
    have H' := Z_ H
    clear H
    have p348 : 0 ≤ (x10_1 : Int) := dA_
    have q348 : x10_1 < (l0.length : Int) := dA_
    obtain ⟨ad348, e348, hx348_0⟩ := Kd.at_int a0.out x10_1 p348 q348
    cases e348
    replace p348 := eq_true p348
    replace q348 := eq_true q348
    go_wp2_with (first | ((with_reducible refine gate_callee (f := 31) rfl ?_); refine goesA_ (some 17) rfl rfl Try.func31 (by kernel_rfl) rfl #[.int .i64 (rd l0 x10_1), .int .i64 9011, .int .i64 9099] rfl ?_; (with_reducible refine (impl_in.calls (rd l0 x10_1) 9011 9099 _ _ A6.out).mono ?_); rintro e w' ⟨rfl, ⟨nd, rfl⟩⟩; refine ⟨_, rfl, ?_⟩; have p350 : 0 ≤ ((ji9) : Int) := dA_; have q350 : (ji9) < (l0.length : Int) := dA_; obtain ⟨ad350, e350, hx350_0⟩ := Kd.at_int a0.out (ji9) p350 q350; obtain rfl : ad348 = ad350 := (by injection e350); replace p350 := eq_true p350; replace q350 := eq_true q350) | ((with_reducible refine gate_callee (f := 31) rfl ?_); refine goesA_ (some 17) rfl rfl Try.func31 (by kernel_rfl) rfl #[.int .i64 (rd l0 x10_1), .int .i64 9011, .int .i64 9099] rfl ?_; (with_reducible refine (impl_in.calls (rd l0 x10_1) 9011 9099 _ _ A6.out).mono ?_); rintro e w' ⟨rfl, ⟨nd, rfl⟩⟩; refine ⟨_, rfl, ?_⟩))
    go_roundg k1
    case measure => have := HK1.out; omega
    case rel => exact ⟨_, Sr_, H', ⟨by have := HK1.out; omega⟩, by repeat (first | exact Drawn0.refl _ | apply Drawn0.step)⟩
def impl_isPlace.f (l0 : List (S76)) (a1 : Int) : Option (Bool) := (impl_in.f a1 0 (wrap64 ((l0.length : Int) - 1))).bind fun t351 => (some t351)
set_option maxHeartbeats 8000000 in
set_option maxRecDepth 100000 in
theorem impl_isPlace.calls (A0 : Option Addr) (c0 : Nat) (l0 : List (S76)) (a1 : Int) (r : Bool) (w : World) (hr0 : Kd.C k76 w A0 l0.length l0) (hc0 : l0.length ≤ c0) (h : impl_isPlace.f l0 a1 = some r) :
  Calls Try.prog 32 #[.slice A0 l0.length c0, .int .i64 a1] w fun e w' => e = .returned (.bool r) ∧ Drawn0 w w' := by
 have HR0 := Z_ hr0
 have HC0 := Z_ hc0
 clear hr0 hc0
 unfold impl_isPlace.f at h
 have H := h
 clear h
 replace H := bS_ H
 obtain ⟨t351, A3, H⟩ := H
 obtain rfl := Option.some.inj H
 go_enter Try.func32, Try.ntmps32
 go_wp2_with (first | ((with_reducible refine gate_callee (f := 31) rfl ?_); refine goesA_ (some 9) rfl rfl Try.func31 (by kernel_rfl) rfl #[.int .i64 a1, .int .i64 0, .int .i64 (wrap64 ((l0.length : Int) - 1))] rfl ?_; (with_reducible refine (impl_in.calls a1 0 (wrap64 ((l0.length : Int) - 1)) t351 _ A3.out).mono ?_); rintro e w' ⟨rfl, ⟨nd, rfl⟩⟩; refine ⟨_, rfl, ?_⟩))
 go_ret
 exact ⟨by first | rfl | (simp; done) | (simp [*]; done), by repeat (first | exact Drawn0.refl _ | apply Drawn0.step)⟩
def impl_KnownFault.l0 : Nat → List (S76) → List Int → List Int → Int → Int → Option (Int)
 | 0, _, _, _, _, _ => none
 | k + 1, x0, x1, x16, x17, x18 => if x18 < x17 then (if 0 ≤ x18 then (if x18 < (x16.length : Int) then ((impl_isPlace.f x0 (rd x16 x18)).bind fun t354 => (if t354 = true then (if x18 > 0 then (if 0 ≤ (wrap64 (x18 - 1)) then (if (wrap64 (x18 - 1)) < (x1.length : Int) then (if (rd x1 (wrap64 (x18 - 1))) ≥ (rd x16 x18) then (some 1) else (impl_KnownFault.l0 k x0 x1 x16 x17 (wrap64 (x18 + 1)))) else (none)) else (none)) else (impl_KnownFault.l0 k x0 x1 x16 x17 (wrap64 (x18 + 1)))) else (some 3))) else (none)) else (none)) else (some 0)
def impl_KnownFault.f (k : Nat) (l0 : List (S76)) (l1 : List Int) : Option (Int) := (impl_TermsFault.f l0).bind fun t352 => (if t352 = 0 then (if (l1.length : Int) > 400 then (some 2) else (impl_KnownFault.l0 k l0 l1 l1 (l1.length : Int) 0)) else (some t352))
set_option maxHeartbeats 8000000 in
set_option maxRecDepth 100000 in
theorem impl_KnownFault.calls (k : Nat) (A0 : Option Addr) (c0 : Nat) (l0 : List (S76)) (A1 : Option Addr) (c1 : Nat) (l1 : List Int) (r : Int) (w : World) (hr0 : Kd.C k76 w A0 l0.length l0) (hc0 : l0.length ≤ c0) (hr1 : Kd.C (Kd.int .i64) w A1 l1.length l1) (hc1 : l1.length ≤ c1) (h : impl_KnownFault.f k l0 l1 = some r) :
  Calls Try.prog 26 #[.slice A0 l0.length c0, .slice A1 l1.length c1] w fun e w' => e = .returned (.int .i64 r) ∧ Below w.heap.size w w' := by
 have a0 := Z_ hr0
 have a1 := Z_ hc0
 clear hr0 hc0
 have a2 := Z_ hr1
 have a6 := Z_ hc1
 clear hr1 hc1
 have HB := Z_ (Below.refl w.heap.size w)
 unfold impl_KnownFault.f at h
 have H := h
 clear h
 replace H := bS_ H
 obtain ⟨t352, A3, H⟩ := H
 replace H := iC_ H
 obtain ⟨c4, H⟩ | ⟨c4, H⟩ := H
 rotate_left
 focus
  have c4b0 : (t352 == 0) = false := beq_eq_false_iff_ne.mpr c4
  have c4b1 : (t352 != 0) = true := bne_iff_ne.mpr c4
 rotate_right
 have c4b0 : (t352 == 0) = true := beq_iff_eq.mpr c4
 have c4b1 : (t352 != 0) = false := bne_eq_false_iff_eq.mpr c4
 clear c4
 replace H := iC_ H
 obtain ⟨c5, H⟩ | ⟨c5, H⟩ := H
 focus
  have c5b0 : decide (400 < (l1.length : Int)) = true := decide_eq_true c5
  have c5b1 : decide (400 < l1.length) = true := decide_eq_true (by omega)
  clear c5
 rotate_left
 ·have c5b0 : decide (400 < (l1.length : Int)) = false := decide_eq_false c5
  have c5b1 : decide (400 < l1.length) = false := decide_eq_false (by omega)
  clear c5
  have H' := Z_ H
  clear H
  go_enter Try.func26, Try.ntmps26
  go_wp2_with (first | ((with_reducible refine gate_callee (f := 23) rfl ?_); refine goesA_ (some 9) rfl rfl Try.func23 (by kernel_rfl) rfl #[.slice A0 l0.length c0] rfl ?_; (with_reducible refine (impl_TermsFault.calls _ _ l0 t352 _ ?side1 ?side2 A3.out).mono ?_); (case side1 => repeat (first | exact a0.out | (with_reducible refine Kd.C_alloc ?_ _) | (with_reducible refine Kd.C_drewN ?_ _) | (with_reducible refine Kd.C_drew ?_))); (case side2 => exact a1.out); rintro e w7 ⟨rfl, hb⟩; refine ⟨_, rfl, ?_⟩; replace HB := Z_ (lP_ Lb_ hb); (try clear hb)))
  go_loopg [18] k (fun kq v18 w' => ∃ (x18_1 : Int), v18 = .int .i64 x18_1 ∧ Aside0 (impl_KnownFault.l0 kq l0 l1 l1 (l1.length : Int) x18_1 = some r) ∧ Aside0 (kq ≤ k) ∧ Aside0 (Below w.heap.size w w'))
  case atStart => exact ⟨(0), Sr_, H', ⟨Nat.le_refl _⟩, ⟨Lb_⟩⟩
  case round =>
   clear H'
   try clear c1
   try clear c2
   try clear p2
   try clear c4
   try clear c4b0
   try clear c4b1
   try clear c5
   try clear c5b0
   try clear c5b1
   obtain ⟨x18_1, rfl, HA, HK1, HB⟩ := hrel
   cases gk with
   | zero => exact absurd HA.out (by simp [impl_KnownFault.l0])
   | succ k1 =>
    have H := HA.out
    clear HA
    simp only [impl_KnownFault.l0] at H
    replace H := iD_ H
    obtain ⟨c8b0, H⟩ | ⟨c8b0, H⟩ := H
    rotate_left
    ·obtain rfl := Option.some.inj H
     go_wp2
     go_ret
     exact ⟨Er_, Lb_⟩
    rotate_right
    replace H := iM_ H
    obtain ⟨c9b0, H⟩ := H
    replace H := iM_ H
    obtain ⟨c10b0, H⟩ := H
    replace H := bS_ H
    obtain ⟨t354, a3, H⟩ := H
    replace H := iB_ H
    obtain ⟨rfl, H⟩ | ⟨rfl, H⟩ := H
    rotate_left
    ·obtain rfl := Option.some.inj H
     have p353 : 0 ≤ (x18_1 : Int) := dA_
     have q353 : x18_1 < (l1.length : Int) := dA_
     obtain ⟨ad353, e353, hx353_0⟩ := Kd.at_int a2.out x18_1 p353 q353
     cases e353
     replace hx353_0 := cB_ HB hx353_0
     replace p353 := eq_true p353
     replace q353 := eq_true q353
     go_wp2_with (first | ((with_reducible refine gate_callee (f := 32) rfl ?_); refine goesA_ (some 26) rfl rfl Try.func32 (by kernel_rfl) rfl #[.slice A0 l0.length c0, .int .i64 (rd l1 x18_1)] rfl ?_; (with_reducible refine (impl_isPlace.calls _ _ l0 (rd l1 x18_1) false _ ?side1 ?side2 a3.out).mono ?_); (case side1 => repeat (first | exact (Kd.C_below a0.out HB.out) | (with_reducible refine Kd.C_alloc ?_ _) | (with_reducible refine Kd.C_drewN ?_ _) | (with_reducible refine Kd.C_drew ?_))); (case side2 => exact a1.out); rintro e w' ⟨rfl, ⟨nd, rfl⟩⟩; refine ⟨_, rfl, ?_⟩))
     go_ret
     exact ⟨Er_, Lb_⟩
    rotate_right
    replace H := iD_ H
    obtain ⟨c13b0, H⟩ | ⟨c13b0, H⟩ := H
    rotate_left
    focus replace c13b0 : decide (0 < x18_1) = false := c13b0
    rotate_right
    replace c13b0 : decide (0 < x18_1) = true := c13b0
    obtain ⟨ji14, hji14⟩ : ∃ j_ : Int, (wrap64 (x18_1 - 1)) = j_ := ⟨_, rfl⟩
    replace H : (if 0 ≤ (ji14) then (if (ji14) < (l1.length : Int) then (if (rd l1 (ji14)) ≥ (rd l1 x18_1) then (some 1) else (impl_KnownFault.l0 k1 l0 l1 l1 (l1.length : Int) (wrap64 (x18_1 + 1)))) else (none)) else (none)) = some r := by first | (rw [hji14] at H; exact H) | (simp only [hji14] at H ⊢; exact H)
    (try rw [hji14] at a3)
    have hji14w : (IntKind.i64.wrap (x18_1 - 1)) = ji14 := (i64_w _).trans hji14
    replace H := iM_ H
    obtain ⟨c15b0, H⟩ := H
    replace H := iM_ H
    obtain ⟨c16b0, H⟩ := H
    replace H := iD_ H
    obtain ⟨c17b0, H⟩ | ⟨c17b0, H⟩ := H
    rotate_left
    focus replace c17b0 : decide ((rd l1 x18_1) ≤ (rd l1 (ji14))) = false := c17b0
    rotate_right
    ·replace c17b0 : decide ((rd l1 x18_1) ≤ (rd l1 (ji14))) = true := c17b0
     obtain rfl := Option.some.inj H
     have p353 : 0 ≤ (x18_1 : Int) := dA_
     have q353 : x18_1 < (l1.length : Int) := dA_
     obtain ⟨ad353, e353, hx353_0⟩ := Kd.at_int a2.out x18_1 p353 q353
     cases e353
     replace hx353_0 := cB_ HB hx353_0
     replace p353 := eq_true p353
     replace q353 := eq_true q353
     go_wp2_with (first | ((with_reducible refine gate_callee (f := 32) rfl ?_); refine goesA_ (some 26) rfl rfl Try.func32 (by kernel_rfl) rfl #[.slice A0 l0.length c0, .int .i64 (rd l1 x18_1)] rfl ?_; (with_reducible refine (impl_isPlace.calls _ _ l0 (rd l1 x18_1) true _ ?side1 ?side2 a3.out).mono ?_); (case side1 => repeat (first | exact (Kd.C_below a0.out HB.out) | (with_reducible refine Kd.C_alloc ?_ _) | (with_reducible refine Kd.C_drewN ?_ _) | (with_reducible refine Kd.C_drew ?_))); (case side2 => exact a1.out); rintro e w' ⟨rfl, ⟨nd, rfl⟩⟩; refine ⟨_, rfl, ?_⟩; have p355 : 0 ≤ ((ji14) : Int) := dA_; have q355 : (ji14) < (l1.length : Int) := dA_; obtain ⟨ad355, e355, hx355_0⟩ := Kd.at_int a2.out (ji14) p355 q355; obtain rfl : ad353 = ad355 := (by injection e355); replace hx355_0 := cB_ HB hx355_0; replace p355 := eq_true p355; replace q355 := eq_true q355))
     go_ret
     exact ⟨by first | rfl | (simp [errW_none, errW_some] <;> rfl) | (simp only [← hji14]; first | rfl | (simp [errW_none, errW_some] <;> rfl)) | (simp [*, errW_none, errW_some] <;> rfl), Lb_⟩
    all_goals
     have H' := Z_ H
     clear H
     have p353 : 0 ≤ (x18_1 : Int) := dA_
     have q353 : x18_1 < (l1.length : Int) := dA_
     obtain ⟨ad353, e353, hx353_0⟩ := Kd.at_int a2.out x18_1 p353 q353
     cases e353
     replace hx353_0 := cB_ HB hx353_0
     replace p353 := eq_true p353
     replace q353 := eq_true q353
     go_wp2_with (first | ((with_reducible refine gate_callee (f := 32) rfl ?_); refine goesA_ (some 26) rfl rfl Try.func32 (by kernel_rfl) rfl #[.slice A0 l0.length c0, .int .i64 (rd l1 x18_1)] rfl ?_; (with_reducible refine (impl_isPlace.calls _ _ l0 (rd l1 x18_1) _ _ ?side1 ?side2 a3.out).mono ?_); (case side1 => repeat (first | exact (Kd.C_below a0.out HB.out) | (with_reducible refine Kd.C_alloc ?_ _) | (with_reducible refine Kd.C_drewN ?_ _) | (with_reducible refine Kd.C_drew ?_))); (case side2 => exact a1.out); rintro e w' ⟨rfl, ⟨nd, rfl⟩⟩; refine ⟨_, rfl, ?_⟩; have p355 : 0 ≤ ((ji14) : Int) := dA_; have q355 : (ji14) < (l1.length : Int) := dA_; obtain ⟨ad355, e355, hx355_0⟩ := Kd.at_int a2.out (ji14) p355 q355; obtain rfl : ad353 = ad355 := (by injection e355); replace hx355_0 := cB_ HB hx355_0; replace p355 := eq_true p355; replace q355 := eq_true q355) | ((with_reducible refine gate_callee (f := 32) rfl ?_); refine goesA_ (some 26) rfl rfl Try.func32 (by kernel_rfl) rfl #[.slice A0 l0.length c0, .int .i64 (rd l1 x18_1)] rfl ?_; (with_reducible refine (impl_isPlace.calls _ _ l0 (rd l1 x18_1) _ _ ?side1 ?side2 a3.out).mono ?_); (case side1 => repeat (first | exact (Kd.C_below a0.out HB.out) | (with_reducible refine Kd.C_alloc ?_ _) | (with_reducible refine Kd.C_drewN ?_ _) | (with_reducible refine Kd.C_drew ?_))); (case side2 => exact a1.out); rintro e w' ⟨rfl, ⟨nd, rfl⟩⟩; refine ⟨_, rfl, ?_⟩))
     go_roundg k1
     case measure => have := HK1.out; omega
     case rel => exact ⟨_, Sr_, H', ⟨by have := HK1.out; omega⟩, ⟨Lb_⟩⟩
 all_goals
  obtain rfl := Option.some.inj H
  go_enter Try.func26, Try.ntmps26
  go_wp2_with (first | ((with_reducible refine gate_callee (f := 23) rfl ?_); refine goesA_ (some 9) rfl rfl Try.func23 (by kernel_rfl) rfl #[.slice A0 l0.length c0] rfl ?_; (with_reducible refine (impl_TermsFault.calls _ _ l0 t352 _ ?side1 ?side2 A3.out).mono ?_); (case side1 => repeat (first | exact a0.out | (with_reducible refine Kd.C_alloc ?_ _) | (with_reducible refine Kd.C_drewN ?_ _) | (with_reducible refine Kd.C_drew ?_))); (case side2 => exact a1.out); rintro e w18 ⟨rfl, hb⟩; refine ⟨_, rfl, ?_⟩; replace HB := Z_ (lP_ Lb_ hb); (try clear hb)))
  go_ret
  exact ⟨Er_, Lb_⟩
set_option maxHeartbeats 4000000 in
set_option maxRecDepth 100000 in
theorem slices_IndexFunc_Gv.calls (g : Nat) (lb : Array Value) (p : S59 → Bool) (A0 : Option Addr) (c0 : Nat) (l0 : List S59) (w : World) (eg : ∀ args w, (callFunc g args).run Try.prog w = .ok (.enter g args) w)
    (hp : ∀ (W : World) (x : S59), x ∈ l0 → Below w.heap.size w W → Calls Try.prog g (#[.agg #[.int .i64 x.f0, .int .i64 x.f1, .int .i64 x.f2, .int .i64 x.f3]] ++ lb) W fun e w' => e = .returned (.bool (p x)) ∧ Below w.heap.size w w')
    (hr0 : Kd.C k59 w A0 l0.length l0) (hl : l0.length ≤ 9223372036854775807) :
    Calls Try.prog 49 #[.slice A0 l0.length c0, .func (.func g) #[] lb] w fun e w' => ∃ v : Int, e = .returned (.int .i64 v) ∧
      Aside0 ((v = -1 ∧ ∀ j : Nat, j < l0.length → p (rd_T59 l0 j) = false) ∨ ∃ i : Nat, v = i ∧ i < l0.length ∧ p (rd_T59 l0 i) = true ∧ ∀ j : Nat, j < i → p (rd_T59 l0 j) = false) ∧ Below w.heap.size w w' := by
 have HR := Z_ hr0
 clear hr0
 go_enter Try.func49, Try.ntmps49
 go_wp2
 go_loopg [5, 8] l0.length (fun gg _ s8 wr => ∃ kk : Nat, kk ≤ l0.length ∧ l0.length - kk ≤ gg ∧ s8 = .int .i64 kk ∧ Aside0 (Below w.heap.size w wr) ∧ Aside0 (∀ j : Nat, j < kk → p (rd_T59 l0 j) = false))
 case atStart => exact ⟨0, Nat.zero_le _, by omega, rfl, Z_ (Below.refl _ w), Z_ (fun j hj => absurd hj (Nat.not_lt_zero _))⟩
 case round =>
  obtain ⟨kk, hkk, hg, rfl, BW, HA⟩ := hrel
  by_cases hlt : kk < l0.length
  ·have hltz : (kk : Int) < (l0.length : Int) := by omega
   obtain ⟨ad, e, hx0, hx1, hx2, hx3⟩ := at_T59 (Kd.C_below HR.out BW.out) (kk : Int) (by omega) (by omega)
   rw [Int.toNat_natCast] at hx0 hx1 hx2 hx3
   subst e
   have hm : rd_T59 l0 (kk : Int) ∈ l0 := by
     have : rd_T59 l0 (kk : Int) = l0[kk] := by simp [rd_T59, List.getD, List.getElem?_eq_getElem hlt]
     rw [this]; exact List.getElem_mem hlt
   have hcall := hp wr (rd_T59 l0 (kk : Int)) hm BW.out
   clear hp hm
   generalize hy : rd_T59 l0 (kk : Int) = y at hx0 hx1 hx2 hx3 hcall
   have HY := Z_ hy
   clear hy
   cases hq : p y with
   | true =>
    rw [hq] at hcall
    go_wp2_with (go_at_fn g; refine hcall.mono ?_; rintro e w' ⟨rfl, hb'⟩)
    go_ret
    exact ⟨_, rfl, Z_ (.inr ⟨kk, rfl, hlt, by rw [HY.out]; exact hq, HA.out⟩), hb'⟩
   | false =>
    rw [hq] at hcall
    go_wp2_with (go_at_fn g; refine hcall.mono ?_; rintro e w' ⟨rfl, hb'⟩)
    go_roundg (l0.length - (kk + 1))
    case measure => omega
    case rel =>
     refine ⟨kk + 1, by omega, by omega, by go_num, Z_ hb', Z_ (fun j hj => ?_)⟩
     by_cases e : j = kk
     ·subst e
      rw [HY.out]; exact hq
     ·exact HA.out j (by omega)
  ·have hltz : ¬ (kk : Int) < (l0.length : Int) := by omega
   obtain rfl : kk = l0.length := by omega
   go_wp2
   go_ret
   exact ⟨_, rfl, Z_ (.inl ⟨rfl, HA.out⟩), BW.out⟩
set_option maxHeartbeats 4000000 in
set_option maxRecDepth 100000 in
theorem slices_ContainsFunc_Gv.calls (g : Nat) (lb : Array Value) (p : S59 → Bool) (A0 : Option Addr) (c0 : Nat) (l0 : List S59) (w : World) (eg : ∀ args w, (callFunc g args).run Try.prog w = .ok (.enter g args) w)
    (hp : ∀ (W : World) (x : S59), x ∈ l0 → Below w.heap.size w W → Calls Try.prog g (#[.agg #[.int .i64 x.f0, .int .i64 x.f1, .int .i64 x.f2, .int .i64 x.f3]] ++ lb) W fun e w' => e = .returned (.bool (p x)) ∧ Below w.heap.size w w')
    (hr0 : Kd.C k59 w A0 l0.length l0) (hl : l0.length ≤ 9223372036854775807) :
    Calls Try.prog 27 #[.slice A0 l0.length c0, .func (.func g) #[] lb] w fun e w' => e = .returned (.bool (l0.any p)) ∧ Below w.heap.size w w' := by
 have hC := slices_IndexFunc_Gv.calls g lb p A0 c0 l0 w eg hp hr0 hl
 clear hp hr0
 go_enter Try.func27, Try.ntmps27
 go_wp2_with (go_at_call 49; refine hC.mono ?_; rintro e w' ⟨v, rfl, hv, hb⟩)
 go_ret
 refine ⟨congrArg (fun b => Ending.returned (Value.bool b)) ?_, hb⟩
 rcases hv.out with ⟨rfl, h⟩ | ⟨i, rfl, hi, h, _⟩
 ·symm
  rw [show decide ((-1 : Int) ≥ 0) = false from rfl]
  rw [List.any_eq_false]
  intro x hx
  obtain ⟨j, hj, rfl⟩ := List.getElem_of_mem hx
  have := h j hj
  rw [show rd_T59 l0 (j : Int) = l0[j] by simp [rd_T59, List.getD, List.getElem?_eq_getElem hj]] at this
  simp [this]
 ·rw [decide_eq_true (show ((i : Nat) : Int) ≥ 0 by omega)]
  symm
  exact List.any_eq_true.2 ⟨rd_T59 l0 (i : Int), by rw [show rd_T59 l0 (i : Int) = l0[i] by simp [rd_T59, List.getD, List.getElem?_eq_getElem hi]]; exact List.getElem_mem hi, h⟩
set_option maxHeartbeats 4000000 in
set_option maxRecDepth 100000 in
theorem impl_Given_28.grow (n : Int) (w : World) (h0 : 0 ≤ n) (h1 : n ≤ 4398046511104) :
    Calls Try.prog 50 #[.slice none 0 0, .int .i64 n] w fun e w' => ∃ v0_ : Value, e = .returned (v0_) ∧ Kd.R k59 59 w' w.heap.size (fun _ => True) v0_ ([] : List (S59)) ∧ Below w.heap.size w w' := by
  by_cases hn : 0 < n
  · have HB := Z_ (Below.refl w.heap.size w)
    have HN := Z_ h1
    have hd : decide (n < 0) = false := decide_eq_false (by omega)
    have hd2 : decide (0 < n) = true := decide_eq_true hn
    go_enter Try.func50, Try.ntmps50
    go_wp2_with (first | ((with_reducible refine gate_builtin (b := .append) (xs := #[.tmp 20, .tmp 21]) rfl ?_); at_builtin; refine Kd.R_append_zeros k59 (w0 := w) w.heap.size rfl (.tmp 20) (.tmp 21) 32 3 59 (.agg #[(.int .i64 0), (.int .i64 0), (.int .i64 0), (.int .i64 0)]) 32 rfl Try.underlying32 Try.underlying3 info59 rfl (by decide) (by omega) (.slice none 0 0) [] z59 n (fun _ => True) rfl rfl (k59_mkM _ _ _ _) (fun _ _ => trivial) ?aO h0 ?aB ?aS ?aL ?_; (case aO => exact Kd.R_nil _ _ _ _ _); (case aB => exact HB.out); (case aS => exact below_size HB.out); (case aL => have := HN.out; simp; omega); intro v1 w1 ho hb hg hat; obtain ⟨ad, c1, hv1⟩ := Kd.R_slice1 ho (by simp; omega); subst hv1; replace HB := Z_ hb; have HO := Z_ (Kd.R_take (m := 0) ho (Nat.zero_le _)); clear ho hb hg hat))
    go_ret
    exact ⟨_, rfl, HO.out, HB.out⟩
  · obtain rfl : n = 0 := by omega
    go_enter Try.func50, Try.ntmps50
    go_wp2
    go_ret
    exact ⟨_, rfl, Kd.R_nil _ _ _ _ _, Below.refl _ _⟩
def impl_Given_28.f (l0 : List (List (S59))) : Option (List (S59)) := if l0.flatten.length * 32 ≤ 140737488355328 then some l0.flatten else none
theorem impl_Given_28.flat_take {α : Type} (l : List (List α)) (i : Nat) (h : i < l.length) : (l.take (i + 1)).flatten = (l.take i).flatten ++ l.getD i [] := by
  rw [List.take_succ_eq_append_getElem h, List.flatten_append]
  simp [List.getD, List.getElem?_eq_getElem h]
theorem impl_Given_28.flat_take_le {α : Type} (l : List (List α)) (i : Nat) : (l.take i).flatten.length ≤ l.flatten.length := by
  have h := congrArg List.length (congrArg List.flatten (List.take_append_drop i l))
  rw [List.flatten_append, List.length_append] at h
  omega
set_option maxHeartbeats 4000000 in
set_option maxRecDepth 100000 in
theorem impl_Given_28.calls (A0 : Option Addr) (c0 : Nat) (l0 : List (List (S59))) (r : List (S59)) (w : World) (hr0 : Kd.C (Kd.slice 59 k59) w A0 l0.length l0) (hc0 : l0.length ≤ c0) (h : impl_Given_28.f l0 = some r) :
    Calls Try.prog 28 #[.slice A0 l0.length c0] w fun e w' => ∃ v0_ : Value, e = .returned (v0_) ∧ Kd.R k59 59 w' w.heap.size (fun _ => True) v0_ r ∧ Below w.heap.size w w' := by
 unfold impl_Given_28.f at h
 by_cases hb : l0.flatten.length * 32 ≤ 140737488355328
 ·rw [if_pos hb] at h
  obtain rfl := Option.some.inj h
  clear h
  have HL := Z_ hb
  clear hb
  have HN := Z_ hr0.2.1
  have HR := Z_ hr0
  clear hr0
  go_enter Try.func28, Try.ntmps28
  go_wp2_with fail
  go_loopg [3, 11] l0.length (fun kq v3 v11 w' => ∃ i m : Nat, v11 = .int .i64 i ∧ v3 = .int .i64 m ∧ Aside0 (m = (l0.take i).flatten.length) ∧ Aside0 (i + kq = l0.length) ∧ Aside0 (w = w'))
  case atStart => exact ⟨0, 0, rfl, by simp, ⟨by simp⟩, ⟨by omega⟩, ⟨rfl⟩⟩
  case round =>
   obtain ⟨i, m, rfl, rfl, HM, HI, HW⟩ := hrel
   obtain rfl := HW.out
   clear HW
   have hi1 : i ≤ l0.length := by have := HI.out; omega
   have hi2 : l0.length ≤ 9223372036854775807 := HN.out
   by_cases hlt : i < l0.length
   ·obtain ⟨ad, A1, c1, hA, hcell, hle, hin⟩ := at_L13 HR.out (i : Int) (by omega) (by omega)
    subst hA
    obtain ⟨ys, hys⟩ : ∃ ys, ys = rd_L13 l0 (i : Int) := ⟨_, rfl⟩
    have hE := impl_Given_28.flat_take l0 i hlt
    have hE2 : l0.getD i [] = ys := by rw [hys]; simp [rd_L13]
    rw [hE2] at hE
    rw [← hys, Int.toNat_natCast] at hcell
    clear hin hle hE2 hys
    have hb1 : (l0.take (i + 1)).flatten.length ≤ 140737488355328 := by have := impl_Given_28.flat_take_le l0 (i + 1); have := HL.out; omega
    have hb2 : m + ys.length = (l0.take (i + 1)).flatten.length := by
      have := congrArg List.length hE
      rw [List.length_append, ← HM.out] at this
      omega
    have hb3 : m + ys.length ≤ 140737488355328 := by omega
    have HE := Z_ hb2
    clear hE hb1 hb2
    go_wp2
    go_roundg (gk - 1)
    case measure => have := HI.out; omega
    case rel => exact ⟨i + 1, m + ys.length, by go_num, by go_num, HE, ⟨by have := HI.out; omega⟩, ⟨rfl⟩⟩
   ·have HC0 := HR
    have hm1 : (m : Int) ≤ 4398046511104 := by have := impl_Given_28.flat_take_le l0 i; have := HL.out; have := HM.out; omega
    have hm0 : (0 : Int) ≤ m := by omega
    clear HM HI
    go_wp2_with (go_at_call 50; refine (impl_Given_28.grow (m : Int) _ hm0 hm1).mono ?_; rintro e w1 ⟨v1, rfl, ho, hb⟩; have HO := Z_ ho; have HB := Z_ hb; clear ho hb HR)
    go_loopg [6, 27] l0.length (fun kq v6 v27 w' => ∃ i : Nat, v27 = .int .i64 i ∧ Aside0 (i + kq = l0.length) ∧ Aside0 (Kd.R k59 59 w' w.heap.size (fun _ => True) v6 (l0.take i).flatten) ∧ Aside0 (Below w.heap.size w w'))
    case atStart => exact ⟨0, rfl, ⟨by omega⟩, ⟨by simpa using HO.out⟩, HB⟩
    case round =>
     clear HO HB hm0 hm1
     obtain ⟨i, rfl, HI, HO, HB⟩ := hrel
     have hi1 : i ≤ l0.length := by have := HI.out; omega
     by_cases hlt : i < l0.length
     ·have HC' := Kd.C_below HC0.out HB.out
      obtain ⟨ad, A1, c1, hA, hcell, hle, hin⟩ := at_L13 HC' (i : Int) (by omega) (by omega)
      subst hA
      obtain ⟨ys, hys⟩ : ∃ ys, ys = rd_L13 l0 (i : Int) := ⟨_, rfl⟩
      have hE := impl_Given_28.flat_take l0 i hlt
      have hE2 : l0.getD i [] = ys := by rw [hys]; simp [rd_L13]
      rw [hE2] at hE
      rw [← hys] at hin
      rw [← hys, Int.toNat_natCast] at hcell
      have hb1 : (l0.take (i + 1)).flatten.length * 32 ≤ 140737488355328 := by have := impl_Given_28.flat_take_le l0 (i + 1); have := HL.out; omega
      have hb2 : (l0.take i).flatten.length + ys.length = (l0.take (i + 1)).flatten.length := by
        have := congrArg List.length hE
        rw [List.length_append] at this
        omega
      have HE := Z_ hE
      have HS := Z_ (show ((l0.take i).flatten.length + ys.length) * 32 ≤ 140737488355328 by omega)
      have HIN := Z_ hin
      obtain ⟨xs, hxs⟩ : ∃ xs, xs = (l0.take i).flatten := ⟨_, rfl⟩
      rw [← hxs] at HO HE HS
      clear hle hE2 hys hE hb1 hb2 hin HC' hxs
      go_wp2_with ((with_reducible refine gate_builtin (b := .append) (xs := #[.tmp 31, .tmp 32]) rfl ?_); at_builtin; refine Kd.R_append_rows k59 (Rr := k59.K wr) (w0 := w) w.heap.size rfl (.tmp 31) (.tmp 32) 32 59 (.agg #[(.int .i64 0), (.int .i64 0), (.int .i64 0), (.int .i64 0)]) 32 rfl Try.underlying32 info59 rfl (by decide) (by omega) u6 xs ys A1 ys.length c1 (fun _ => True) (fun _ => False) rfl rfl ?aO ?aR (fun _ cs_ h_ => by obtain rfl := k59_open h_; exact k59_mkM _ _ _ _) (fun _ hk => hk.elim) (fun _ _ => trivial) ?aB ?aS ?aL ?_; (case aO => exact HO.out); (case aR => exact HIN.out); (case aB => exact HB.out); (case aS => exact below_size HB.out); (case aL => exact HS.out); intro v1 w2 ho hb hg hat; have HO2 := Z_ ho; have HB2 := Z_ hb; clear ho hb hg hat)
      go_roundg (gk - 1)
      case measure => have := HI.out; omega
      case rel => exact ⟨i + 1, by go_num, ⟨by have := HI.out; omega⟩, ⟨by rw [HE.out]; exact HO2.out⟩, HB2⟩
     ·go_wp2
      go_ret
      exact ⟨u6, rfl, by have := HO.out; rwa [List.take_of_length_le (by omega)] at this, HB.out⟩
 ·rw [if_neg hb] at h; cases h
end Go.Proofs.Ytbjnjjjhdjichaa.G
namespace Go.Proofs.Ytbjnjjjhdjichaa.G
open Go.RowKit Go.Proofs.YtbjnjjjhdjichaaW.PrintWords Go.Proofs.YtbjnjjjhdjichaaW.PrintLast Go.Proofs.YtbjnjjjhdjichaaW.PrintMore
attribute [local go_sem] max2_int min2_int max_two min_two max_three min_three max_four min_four   -- for this text's walks alone
set_option maxHeartbeats 8000000
set_option maxRecDepth 100000
set_option linter.unusedVariables false
set_option linter.unusedSimpArgs false
theorem impl_Net_gate.callsN (p : Nat) (A0 A1 A2 A3 A4 A5 : Option Addr) (c0 c1 c2 c3 c4 c5 n0 n2 n3 n4 n5 : Nat) (lg : List S46) (x : Int) (w : World) (hI : w.heap[p]? = some (.cells #[.slice A0 n0 c0, .slice A1 lg.length c1, .slice A2 n2 c2, .slice A3 n3 c3, .slice A4 n4 c4, .slice A5 n5 c5] 34 (0, 0))) (hx : ¬(1 ≤ x ∧ x ≤ (lg.length : Int))) :
    Calls Try.prog 51 #[.pointer (some ⟨p, 0, none⟩), .int .i64 x] w fun e w' => e = .returned (.pointer none) ∧ Below w.heap.size w w' := by
  have hu1 := Try.underlying34
  have H := Z_ (show impl_in.f x 1 (lg.length : Int) = some false by rw [impl_in_eq, decide_eq_false hx])
  have BI := Z_ hI
  clear hx hI
  have HB := Z_ (Below.refl w.heap.size w)
  obtain ⟨_, _, _, _, _, _, _, _, _, _, _, _⟩ := bc6 BI.out
  go_enter Try.func51, Try.ntmps51
  go_wp2_with (go_at_call 31; (with_reducible refine (impl_in.calls x 1 (lg.length : Int) false _ H.out).mono ?_); rintro e w9_ ⟨rfl, ⟨nd, rfl⟩⟩)
  go_ret
  exact ⟨rfl, by repeat (first | exact HB.out | apply lN_ | apply lD_)⟩
theorem impl_Net_gate.callsY (p : Nat) (A0 A1 A2 A3 A4 A5 : Option Addr) (c0 c1 c2 c3 c4 c5 n0 n2 n3 n4 n5 : Nat) (lg : List S46) (x : Int) (w : World) (hI : w.heap[p]? = some (.cells #[.slice A0 n0 c0, .slice A1 lg.length c1, .slice A2 n2 c2, .slice A3 n3 c3, .slice A4 n4 c4, .slice A5 n5 c5] 34 (0, 0))) (hr1 : Kd.C k46 w A1 lg.length lg) (hx : 1 ≤ x ∧ x ≤ (lg.length : Int)) :
    Calls Try.prog 51 #[.pointer (some ⟨p, 0, none⟩), .int .i64 x] w fun e w' => (∃ ad, A1 = some ad ∧ e = .returned (.pointer (some (ad.add ((x - 1).toNat * 3))))) ∧ Below w.heap.size w w' := by
  have hu1 := Try.underlying34
  have hu2 := Try.underlying46
  have H := Z_ (show impl_in.f x 1 (lg.length : Int) = some true by rw [impl_in_eq, decide_eq_true hx])
  have BI := Z_ hI
  have HN := hr1.2.1
  obtain ⟨ad, _, _, e, _, _, _, _, _⟩ := at_T46 hr1 (x - 1) (by omega) (by omega)
  subst e
  have hji : IntKind.i64.wrap (x - 1) = x - 1 := by rw [i64_w, w64g (by omega) (by omega)]
  have pj : (0 ≤ x - 1) = True := eq_true (by omega)
  have qj : (x - 1 < (lg.length : Int)) = True := eq_true (by omega)
  clear hx hI hr1
  obtain ⟨j, hj⟩ : ∃ j, x - 1 = j := ⟨_, rfl⟩
  have hjiw : IntKind.i64.wrap (x - 1) = j := hji.trans hj
  rw [hj] at pj qj ⊢
  clear hji hj HN
  have HB := Z_ (Below.refl w.heap.size w)
  obtain ⟨_, _, _, _, _, _, _, _, _, _, _, _⟩ := bc6 BI.out
  go_enter Try.func51, Try.ntmps51
  go_wp2_with (go_at_call 31; (with_reducible refine (impl_in.calls x 1 (lg.length : Int) true _ H.out).mono ?_); rintro e w9_ ⟨rfl, ⟨nd, rfl⟩⟩)
  go_ret
  exact ⟨⟨ad, rfl, rfl⟩, by repeat (first | exact HB.out | apply lN_ | apply lD_)⟩
def gvTalk (lg : List S46) (g t : Int) : Bool := decide (1 ≤ g ∧ g ≤ (lg.length : Int)) && decide (0 ≤ t ∧ t ≤ ((rd_T46 lg (g - 1)).f2.length : Int) - 1)
theorem impl_Net_talk.calls (p : Nat) (A0 A1 A2 A3 A4 A5 : Option Addr) (c0 c1 c2 c3 c4 c5 n0 n2 n3 n4 n5 : Nat) (lg : List S46) (x t : Int) (w : World) (hI : w.heap[p]? = some (.cells #[.slice A0 n0 c0, .slice A1 lg.length c1, .slice A2 n2 c2, .slice A3 n3 c3, .slice A4 n4 c4, .slice A5 n5 c5] 34 (0, 0))) (hr1 : Kd.C k46 w A1 lg.length lg) :
    Calls Try.prog 30 #[.pointer (some ⟨p, 0, none⟩), .int .i64 x, .int .i64 t] w fun e w' => (∃ q : Option Addr, q.isSome = gvTalk lg x t ∧ e = .returned (.pointer q)) ∧ Below w.heap.size w w' := by
 have hu1 := Try.underlying34
 have hu2 := Try.underlying46
 have BI := Z_ hI
 have HR1 := Z_ hr1
 clear hI hr1
 have HB := Z_ (Below.refl w.heap.size w)
 by_cases hx : 1 ≤ x ∧ x ≤ (lg.length : Int)
 ·obtain ⟨ag, A2g, c2g, eg, hg0, hg1, hg2, hTL, hTC⟩ := at_T46 HR1.out (x - 1) (by omega) (by omega)
  subst eg
  have hT := Z_ hTC.2.1
  have HTC := Z_ hTC
  obtain ⟨b, hb⟩ : ∃ b, b = decide (0 ≤ t ∧ t ≤ ((rd_T46 lg (x - 1)).f2.length : Int) - 1) := ⟨_, rfl⟩
  have HV := Z_ (show gvTalk lg x t = b by unfold gvTalk; rw [decide_eq_true hx, ← hb]; rfl)
  have HX := Z_ hx
  have HBB := Z_ hb
  obtain ⟨j, hj⟩ : ∃ j, x - 1 = j := ⟨_, rfl⟩
  have HJ := Z_ hj
  clear hTC hTL hg0 hg1 hx hb hj
  rw [HJ.out] at hg2 hT HTC HBB
  generalize (rd_T46 lg j).f2 = tl at hg2 hT HTC HBB
  have H := Z_ (show impl_in.f t 0 (wrap64 ((tl.length : Int) - 1)) = some b by rw [HBB.out, w64g (by omega) (by have := hT.out; omega), impl_in_eq])
  have HG := Z_ (fun W hI' hr' => impl_Net_gate.callsY p A0 (some ag) A2 A3 A4 A5 c0 c1 c2 c3 c4 c5 n0 n2 n3 n4 n5 lg x W hI' hr' HX.out)
  rw [HJ.out] at HG
  cases b with
  | false =>
   go_enter Try.func30, Try.ntmps30
   go_wp2_with (first | (go_at_call 51; refine (HG.out _ BI.out HR1.out).mono ?_; rintro e w5_ ⟨⟨ad, e1, rfl⟩, hb⟩; cases e1; replace hg2 := (hb.cell (World.block_lt_of_cell? w _ hg2)).trans hg2; replace HB := Z_ (lP_ HB.out hb); clear hb) | (go_at_call 31; (with_reducible refine (impl_in.calls t 0 (wrap64 ((tl.length : Int) - 1)) false _ H.out).mono ?_); rintro e w9_ ⟨rfl, ⟨nd, rfl⟩⟩))
   go_ret
   exact ⟨⟨none, HV.out.symm, rfl⟩, by repeat (first | exact HB.out | apply lN_ | apply lD_)⟩
  | true =>
   have hq := of_decide_eq_true HBB.out.symm
   obtain ⟨at_, e2, _⟩ := at_T83 HTC.out t hq.1 (by omega)
   subst e2
   have pt : (0 ≤ t) = True := eq_true hq.1
   have qt : (t < (tl.length : Int)) = True := eq_true (by omega)
   clear hq
   go_enter Try.func30, Try.ntmps30
   go_wp2_with (first | (go_at_call 51; refine (HG.out _ BI.out HR1.out).mono ?_; rintro e w5_ ⟨⟨ad, e1, rfl⟩, hb⟩; cases e1; replace hg2 := (hb.cell (World.block_lt_of_cell? w _ hg2)).trans hg2; replace HB := Z_ (lP_ HB.out hb); clear hb) | (go_at_call 31; (with_reducible refine (impl_in.calls t 0 (wrap64 ((tl.length : Int) - 1)) true _ H.out).mono ?_); rintro e w9_ ⟨rfl, ⟨nd, rfl⟩⟩))
   go_ret
   exact ⟨⟨some _, HV.out.symm, rfl⟩, by repeat (first | exact HB.out | apply lN_ | apply lD_)⟩
 ·have HV := Z_ (show gvTalk lg x t = false by unfold gvTalk; rw [decide_eq_false hx]; rfl)
  have HG := Z_ (fun W hI' => impl_Net_gate.callsN p A0 A1 A2 A3 A4 A5 c0 c1 c2 c3 c4 c5 n0 n2 n3 n4 n5 lg x W hI' hx)
  clear hx
  go_enter Try.func30, Try.ntmps30
  go_wp2_with (go_at_call 51; refine (HG.out _ BI.out).mono ?_; rintro e w5_ ⟨rfl, hb⟩; replace HB := Z_ (lP_ HB.out hb); clear hb)
  go_ret
  exact ⟨⟨none, HV.out.symm, rfl⟩, by repeat (first | exact HB.out | apply lN_ | apply lD_)⟩
theorem impl_NetFault_1.calls (p : Nat) (A0 A1 A2 A3 A4 A5 : Option Addr) (c0 c1 c2 c3 c4 c5 n2 n3 n4 n5 : Nat) (lt : List S76) (lg : List S46) (x : S59) (W : World) (hI : W.heap[p]? = some (.cells #[.slice A0 lt.length c0, .slice A1 lg.length c1, .slice A2 n2 c2, .slice A3 n3 c3, .slice A4 n4 c4, .slice A5 n5 c5] 34 (0, 0))) (hr0 : Kd.C k76 W A0 lt.length lt) (hr1 : Kd.C k46 W A1 lg.length lg) :
    Calls Try.prog 29 (#[.agg #[.int .i64 x.f0, .int .i64 x.f1, .int .i64 x.f2, .int .i64 x.f3]] ++ #[.pointer (some ⟨p, 0, none⟩)]) W fun e w' => e = .returned (.bool (gvBad lt lg x)) ∧ Below W.heap.size W w' := by
 have hu1 := Try.underlying34
 have hu2 := Try.underlying59
 have BI := Z_ hI
 have a1 := Z_ hr0
 have a0 := Z_ hr1
 have HN0 := Z_ hr0.2.1
 clear hI hr0 hr1
 have HB := Z_ (Below.refl W.heap.size W)
 obtain ⟨bt, hbt⟩ : ∃ b, b = gvTalk lg x.f0 x.f1 := ⟨_, rfl⟩
 obtain ⟨b3, hb3⟩ : ∃ b, b = decide (1 ≤ x.f2 ∧ x.f2 ≤ 9999) := ⟨_, rfl⟩
 obtain ⟨b4, hb4⟩ : ∃ b, b = decide (0 ≤ x.f3 ∧ x.f3 ≤ (lt.length : Int) - 1) := ⟨_, rfl⟩
 have HV : gvBad lt lg x = !(bt && b3 && b4) := by rw [hbt, hb3, hb4]; rfl
 have HT := Z_ hbt.symm
 have H3 := Z_ (show impl_in.f x.f2 1 9999 = some b3 by rw [hb3]; exact impl_in_eq _ _ _)
 have H4 := Z_ (fun W' => impl_isPlace.callsF A0 lt.length c0 x.f3 HN0.out W')
 rw [← hb4] at H4
 rw [HV]
 clear hbt hb3 hb4 HV
 cases bt with
 | false =>
  go_enter Try.func29, Try.ntmps29
  go_wp2_with (first | ((with_reducible refine gD_ 2 rfl ?_); refine bx_ #[.int .i64 x.f0, .int .i64 x.f1, .int .i64 x.f2, .int .i64 x.f3] 59 ?_; intro g2 hg2 w2 hbox hb; have n0_ := Z_ (bB_ BI.out hb); have n1_ := Z_ (lP_ HB.out hb); have B2 := Z_ hbox; clear BI HB hbox hb hg2; have BI := n0_; have HB := n1_; clear n0_ n1_; obtain ⟨_, _, _, _, _, _, _, _⟩ := bc4 B2.out; obtain ⟨_, _, _, _, _, _, _, _, _, _, _, _⟩ := bc6 BI.out) | (go_at_call 30; refine (impl_Net_talk.calls p A0 A1 A2 A3 A4 A5 c0 c1 c2 c3 c4 c5 lt.length n2 n3 n4 n5 lg x.f0 x.f1 _ BI.out (Kd.C_below a0.out HB.out)).mono ?_; rintro e w5_ ⟨⟨q, hq, rfl⟩, hb⟩; replace hq := hq.trans HT.out; obtain rfl : q = none := (by cases q with | none => rfl | some _ => simp at hq); clear hq; replace BI := Z_ (bB_ (by repeat (first | exact BI.out | apply bN_ | apply bD_)) hb); replace B2 := Z_ (bB_ (by repeat (first | exact B2.out | apply bN_ | apply bD_)) hb); replace HB := Z_ (lP_ (by repeat (first | exact HB.out | apply lN_ | apply lD_)) hb); clear hb; obtain ⟨_, _, _, _, _, _, _, _⟩ := bc4 B2.out; obtain ⟨_, _, _, _, _, _, _, _, _, _, _, _⟩ := bc6 BI.out))
  go_ret
  exact ⟨rfl, (by repeat (first | exact HB.out | apply lN_ | apply lD_))⟩
 | true =>
  cases b3 with
  | false =>
   go_enter Try.func29, Try.ntmps29
   go_wp2_with (first | ((with_reducible refine gD_ 2 rfl ?_); refine bx_ #[.int .i64 x.f0, .int .i64 x.f1, .int .i64 x.f2, .int .i64 x.f3] 59 ?_; intro g2 hg2 w2 hbox hb; have n0_ := Z_ (bB_ BI.out hb); have n1_ := Z_ (lP_ HB.out hb); have B2 := Z_ hbox; clear BI HB hbox hb hg2; have BI := n0_; have HB := n1_; clear n0_ n1_; obtain ⟨_, _, _, _, _, _, _, _⟩ := bc4 B2.out; obtain ⟨_, _, _, _, _, _, _, _, _, _, _, _⟩ := bc6 BI.out) | (go_at_call 30; refine (impl_Net_talk.calls p A0 A1 A2 A3 A4 A5 c0 c1 c2 c3 c4 c5 lt.length n2 n3 n4 n5 lg x.f0 x.f1 _ BI.out (Kd.C_below a0.out HB.out)).mono ?_; rintro e w5_ ⟨⟨q, hq, rfl⟩, hb⟩; replace hq := hq.trans HT.out; obtain ⟨adq, rfl⟩ := Option.isSome_iff_exists.1 hq; clear hq; replace BI := Z_ (bB_ (by repeat (first | exact BI.out | apply bN_ | apply bD_)) hb); replace B2 := Z_ (bB_ (by repeat (first | exact B2.out | apply bN_ | apply bD_)) hb); replace HB := Z_ (lP_ (by repeat (first | exact HB.out | apply lN_ | apply lD_)) hb); clear hb; obtain ⟨_, _, _, _, _, _, _, _⟩ := bc4 B2.out; obtain ⟨_, _, _, _, _, _, _, _, _, _, _, _⟩ := bc6 BI.out) | (go_at_call 31; (with_reducible refine (impl_in.calls x.f2 1 9999 false _ H3.out).mono ?_); rintro e w9_ ⟨rfl, ⟨nd, rfl⟩⟩))
   go_ret
   exact ⟨rfl, (by repeat (first | exact HB.out | apply lN_ | apply lD_))⟩
  | true =>
   cases b4 with
   | false =>
    go_enter Try.func29, Try.ntmps29
    go_wp2_with (first | ((with_reducible refine gD_ 2 rfl ?_); refine bx_ #[.int .i64 x.f0, .int .i64 x.f1, .int .i64 x.f2, .int .i64 x.f3] 59 ?_; intro g2 hg2 w2 hbox hb; have n0_ := Z_ (bB_ BI.out hb); have n1_ := Z_ (lP_ HB.out hb); have B2 := Z_ hbox; clear BI HB hbox hb hg2; have BI := n0_; have HB := n1_; clear n0_ n1_; obtain ⟨_, _, _, _, _, _, _, _⟩ := bc4 B2.out; obtain ⟨_, _, _, _, _, _, _, _, _, _, _, _⟩ := bc6 BI.out) | (go_at_call 30; refine (impl_Net_talk.calls p A0 A1 A2 A3 A4 A5 c0 c1 c2 c3 c4 c5 lt.length n2 n3 n4 n5 lg x.f0 x.f1 _ BI.out (Kd.C_below a0.out HB.out)).mono ?_; rintro e w5_ ⟨⟨q, hq, rfl⟩, hb⟩; replace hq := hq.trans HT.out; obtain ⟨adq, rfl⟩ := Option.isSome_iff_exists.1 hq; clear hq; replace BI := Z_ (bB_ (by repeat (first | exact BI.out | apply bN_ | apply bD_)) hb); replace B2 := Z_ (bB_ (by repeat (first | exact B2.out | apply bN_ | apply bD_)) hb); replace HB := Z_ (lP_ (by repeat (first | exact HB.out | apply lN_ | apply lD_)) hb); clear hb; obtain ⟨_, _, _, _, _, _, _, _⟩ := bc4 B2.out; obtain ⟨_, _, _, _, _, _, _, _, _, _, _, _⟩ := bc6 BI.out) | (go_at_call 31; (with_reducible refine (impl_in.calls x.f2 1 9999 true _ H3.out).mono ?_); rintro e w9_ ⟨rfl, ⟨nd, rfl⟩⟩) | (go_at_call 32; refine (H4.out _).mono ?_; rintro e w8_ ⟨rfl, hb⟩; replace BI := Z_ (bB_ (by repeat (first | exact BI.out | apply bN_ | apply bD_)) hb); replace B2 := Z_ (bB_ (by repeat (first | exact B2.out | apply bN_ | apply bD_)) hb); replace HB := Z_ (lP_ (by repeat (first | exact HB.out | apply lN_ | apply lD_)) hb); clear hb; obtain ⟨_, _, _, _, _, _, _, _⟩ := bc4 B2.out; obtain ⟨_, _, _, _, _, _, _, _, _, _, _, _⟩ := bc6 BI.out))
    go_ret
    exact ⟨rfl, (by repeat (first | exact HB.out | apply lN_ | apply lD_))⟩
   | true =>
    go_enter Try.func29, Try.ntmps29
    go_wp2_with (first | ((with_reducible refine gD_ 2 rfl ?_); refine bx_ #[.int .i64 x.f0, .int .i64 x.f1, .int .i64 x.f2, .int .i64 x.f3] 59 ?_; intro g2 hg2 w2 hbox hb; have n0_ := Z_ (bB_ BI.out hb); have n1_ := Z_ (lP_ HB.out hb); have B2 := Z_ hbox; clear BI HB hbox hb hg2; have BI := n0_; have HB := n1_; clear n0_ n1_; obtain ⟨_, _, _, _, _, _, _, _⟩ := bc4 B2.out; obtain ⟨_, _, _, _, _, _, _, _, _, _, _, _⟩ := bc6 BI.out) | (go_at_call 30; refine (impl_Net_talk.calls p A0 A1 A2 A3 A4 A5 c0 c1 c2 c3 c4 c5 lt.length n2 n3 n4 n5 lg x.f0 x.f1 _ BI.out (Kd.C_below a0.out HB.out)).mono ?_; rintro e w5_ ⟨⟨q, hq, rfl⟩, hb⟩; replace hq := hq.trans HT.out; obtain ⟨adq, rfl⟩ := Option.isSome_iff_exists.1 hq; clear hq; replace BI := Z_ (bB_ (by repeat (first | exact BI.out | apply bN_ | apply bD_)) hb); replace B2 := Z_ (bB_ (by repeat (first | exact B2.out | apply bN_ | apply bD_)) hb); replace HB := Z_ (lP_ (by repeat (first | exact HB.out | apply lN_ | apply lD_)) hb); clear hb; obtain ⟨_, _, _, _, _, _, _, _⟩ := bc4 B2.out; obtain ⟨_, _, _, _, _, _, _, _, _, _, _, _⟩ := bc6 BI.out) | (go_at_call 31; (with_reducible refine (impl_in.calls x.f2 1 9999 true _ H3.out).mono ?_); rintro e w9_ ⟨rfl, ⟨nd, rfl⟩⟩) | (go_at_call 32; refine (H4.out _).mono ?_; rintro e w8_ ⟨rfl, hb⟩; replace BI := Z_ (bB_ (by repeat (first | exact BI.out | apply bN_ | apply bD_)) hb); replace B2 := Z_ (bB_ (by repeat (first | exact B2.out | apply bN_ | apply bD_)) hb); replace HB := Z_ (lP_ (by repeat (first | exact HB.out | apply lN_ | apply lD_)) hb); clear hb; obtain ⟨_, _, _, _, _, _, _, _⟩ := bc4 B2.out; obtain ⟨_, _, _, _, _, _, _, _, _, _, _, _⟩ := bc6 BI.out))
    go_ret
    exact ⟨rfl, (by repeat (first | exact HB.out | apply lN_ | apply lD_))⟩
def impl_Net_gatesFault.f (k : Nat) (lt : List S76) (lg : List S46) (n4 n5 : Nat) : Option Int :=
  if 2 ≤ lg.length ∧ lg.length ≤ 4 then (if n4 ≤ 60 then (if n5 ≤ 60 then nfGates (impl_GateFault.f k lt) 0 lg else some 2) else some 2) else some 2
theorem impl_Net_gatesFault.calls (k p : Nat) (A0 A1 A2 A3 A4 A5 : Option Addr) (c0 c1 c2 c3 c4 c5 n2 n3 n4 n5 : Nat) (lt : List S76) (lg : List S46) (r : Int) (w : World) (hI : w.heap[p]? = some (.cells #[.slice A0 lt.length c0, .slice A1 lg.length c1, .slice A2 n2 c2, .slice A3 n3 c3, .slice A4 n4 c4, .slice A5 n5 c5] 34 (0, 0))) (hr0 : Kd.C k76 w A0 lt.length lt) (hc0 : lt.length ≤ c0) (hr1 : Kd.C k46 w A1 lg.length lg) (h : impl_Net_gatesFault.f k lt lg n4 n5 = some r) :
    Calls Try.prog 24 #[.pointer (some ⟨p, 0, none⟩)] w fun e w' => e = .returned (.int .i64 r) ∧ Below w.heap.size w w' := by
 have hu1 := Try.underlying34
 have hu2 := Try.underlying46
 have BI := Z_ hI
 have a0 := Z_ hr0
 have a1 := Z_ hc0
 have a2 := Z_ hr1
 have HN1 := Z_ hr1.2.1
 clear hI hr0 hc0 hr1
 have HB := Z_ (Below.refl w.heap.size w)
 unfold impl_Net_gatesFault.f at h
 obtain ⟨_, _, _, _, _, _, _, _, _, _, _, _⟩ := bc6 BI.out
 by_cases q1 : 2 ≤ lg.length ∧ lg.length ≤ 4
 rotate_left
 ·rw [if_neg q1] at h
  have H1 := Z_ (show impl_gatesOk.f (lg.length : Int) = some false by unfold impl_gatesOk.f; rw [impl_in_eq, decide_eq_false (by omega)]; rfl)
  clear q1
  obtain rfl := Option.some.inj h
  go_enter Try.func24, Try.ntmps24
  go_wp2_with (first | (go_at_call 47; (with_reducible refine (impl_gatesOk.calls (lg.length : Int) false _ H1.out).mono ?_); rintro e w9_ ⟨rfl, ⟨nd, rfl⟩⟩))
  go_ret
  exact ⟨rfl, by repeat (first | exact HB.out | apply lN_ | apply lD_)⟩
 rw [if_pos q1] at h
 have H1 := Z_ (show impl_gatesOk.f (lg.length : Int) = some true by unfold impl_gatesOk.f; rw [impl_in_eq, decide_eq_true (by omega)]; rfl)
 clear q1
 by_cases q2 : n4 ≤ 60
 rotate_left
 ·rw [if_neg q2] at h
  have x4a : decide (60 < (n4 : Int)) = true := decide_eq_true (by omega)
  have x4b : decide (60 < n4) = true := decide_eq_true (by omega)
  have x4c : (60 < n4) = True := eq_true (by omega)
  clear q2
  obtain rfl := Option.some.inj h
  go_enter Try.func24, Try.ntmps24
  go_wp2_with (first | (go_at_call 47; (with_reducible refine (impl_gatesOk.calls (lg.length : Int) true _ H1.out).mono ?_); rintro e w9_ ⟨rfl, ⟨nd, rfl⟩⟩))
  go_ret
  exact ⟨rfl, by repeat (first | exact HB.out | apply lN_ | apply lD_)⟩
 rw [if_pos q2] at h
 have x4a : decide (60 < (n4 : Int)) = false := decide_eq_false (by omega)
 have x4b : decide (60 < n4) = false := decide_eq_false (by omega)
 have x4c : (60 < n4) = False := eq_false (by omega)
 clear q2
 by_cases q2 : n5 ≤ 60
 rotate_left
 ·rw [if_neg q2] at h
  have x5a : decide (60 < (n5 : Int)) = true := decide_eq_true (by omega)
  have x5b : decide (60 < n5) = true := decide_eq_true (by omega)
  have x5c : (60 < n5) = True := eq_true (by omega)
  clear q2
  obtain rfl := Option.some.inj h
  go_enter Try.func24, Try.ntmps24
  go_wp2_with (first | (go_at_call 47; (with_reducible refine (impl_gatesOk.calls (lg.length : Int) true _ H1.out).mono ?_); rintro e w9_ ⟨rfl, ⟨nd, rfl⟩⟩))
  go_ret
  exact ⟨rfl, by repeat (first | exact HB.out | apply lN_ | apply lD_)⟩
 rw [if_pos q2] at h
 have x5a : decide (60 < (n5 : Int)) = false := decide_eq_false (by omega)
 have x5b : decide (60 < n5) = false := decide_eq_false (by omega)
 have x5c : (60 < n5) = False := eq_false (by omega)
 clear q2
 have H := Z_ h
 clear h
 go_enter Try.func24, Try.ntmps24
 go_wp2_with (first | (go_at_call 47; (with_reducible refine (impl_gatesOk.calls (lg.length : Int) true _ H1.out).mono ?_); rintro e w9_ ⟨rfl, ⟨nd, rfl⟩⟩))
 go_loopg [34] lg.length (fun gg v34 wr => ∃ kk : Nat, kk ≤ lg.length ∧ lg.length - kk ≤ gg ∧ v34 = .int .i64 kk ∧ Aside0 (Below w.heap.size w wr) ∧ Aside0 (nfGates (impl_GateFault.f k lt) kk (lg.drop kk) = some r))
 case atStart => exact ⟨0, Nat.zero_le _, by omega, rfl, ⟨by repeat (first | exact HB.out | apply lN_ | apply lD_)⟩, H⟩
 case round =>
  clear H HB
  obtain ⟨kk, hkk, hgg, rfl, HB, H⟩ := hrel
  by_cases hlt : kk < lg.length
  rotate_left
  ·have hltz : ¬ (kk : Int) < (lg.length : Int) := by omega
   obtain rfl : kk = lg.length := by omega
   obtain rfl : 0 = r := by have h := H.out; rw [List.drop_length] at h; exact Option.some.inj h
   go_wp2
   go_ret
   exact ⟨rfl, HB.out⟩
  have hltz : (kk : Int) < (lg.length : Int) := by omega
  have h := H.out
  clear H
  rw [nf_get lg kk hlt] at h
  unfold nfGates at h
  obtain ⟨c, hc, h⟩ := Option.bind_eq_some_iff.mp h
  have HF := Z_ hc
  have H := Z_ h
  clear hc h
  obtain ⟨ad, A2e, c2e, e, hx0, hx1, hx2, hTL, hTC⟩ := at_T46 a2.out (kk : Int) (by omega) (by omega)
  cases e
  rw [Int.toNat_natCast] at hx0 hx1 hx2
  replace hx0 := cB_ HB hx0
  replace hx1 := cB_ HB hx1
  replace hx2 := cB_ HB hx2
  generalize rd_T46 lg (kk : Int) = y at hx0 hx1 hx2 hTL hTC HF H
  have HTL := Z_ hTL
  have HTC := Z_ hTC
  clear hTL hTC
  have BW := Z_ (HB.out.block p (blk_lt BI.out) |>.trans BI.out)
  obtain ⟨_, _, _, _, _, _, _, _, _, _, _, _⟩ := bc6 BW.out
  go_wp2_with (first | ((with_reducible refine gD_ 4 rfl ?_); refine bx_ #[.int .i64 0, .int .i64 0, .slice none 0 0] 46 ?_; intro g4 hg4 w4 hbox hb; have n0_ := Z_ (bB_ BW.out hb); have n1_ := Z_ (lP_ HB.out hb); have B4 := Z_ hbox; have S4 := Z_ ((by rw [hg4]; exact (below_size HB.out) : w.heap.size ≤ g4)); have NE := Z_ ((by rw [hg4]; exact Nat.ne_of_lt (blk_lt BW.out)) : p ≠ g4); clear HB BW hbox hb hg4; have BW := n0_; have HB := n1_; clear n0_ n1_) | ((with_reducible refine gate_store (t := 46) rfl ?_); refine store_box_ (by rfl) (by rfl) (by rfl) (by rfl) (by rfl) (g := g4) (t := 46) (old := #[.int .i64 0, .int .i64 0, .slice none 0 0]) B4.out (by rfl) (by kernel_rfl) (by rfl) ?_; intro wS hst hU; replace BW := Z_ (bU_ hU BW.out NE.out); replace HB := Z_ (lU_ hU HB.out S4.out); replace B4 := Z_ hst; clear hst hU))
  clear hx0 hx1 hx2
  have n0_ := Z_ (bD_ BW.out)
  clear BW
  have BW := n0_
  clear n0_
  have n0_ := Z_ (bD_ B4.out)
  clear B4
  have B4 := n0_
  clear n0_
  have n0_ := Z_ (lD_ HB.out)
  clear HB
  have HB := n0_
  clear n0_
  refine start_ (n := 7) (S := fun w' => w'.cell? ⟨p, 0, none⟩ = some (.slice A0 lt.length c0) ∧ w'.cell? ⟨g4, 0, none⟩ = some (.int .i64 y.f0) ∧ w'.cell? ⟨g4, 1, none⟩ = some (.int .i64 y.f1) ∧ w'.cell? ⟨g4, 2, none⟩ = some (.slice A2e y.f2.length c2e)) (ds := []) #[false, false, false, false, false, false, false] (by kernel_rfl) rfl rfl ⟨(blk_cell BW.out 0).trans rfl, (blk_cell B4.out 0).trans rfl, (blk_cell B4.out 1).trans rfl, (blk_cell B4.out 2).trans rfl⟩ (fun hHeld => ?_)
  generalize wS.drew = wD at BW B4 HB hHeld ⊢
  refine pure_ (i := 0) (N := some 39) (v := ?_) (a' := ?_) #[true, false, false, false, false, false, false] rfl rfl (by kernel_rfl) (fun _ _ _ h => h) (Or.inl ⟨by rfl, ?_⟩) ?_ ?_
  rotate_left
  ·intro w'
   go_simp
   with_reducible rfl
  rotate_left
  ·simp only [Act.put, lA_, lZ_, lS_, i64_w, i32_w]
   rfl
  refine pure_ (i := 1) (N := some 40) (v := ?_) (a' := ?_) #[true, true, false, false, false, false, false] rfl rfl (by kernel_rfl) (fun _ _ _ h => h) (Or.inl ⟨by rfl, ?_⟩) ?_ ?_
  rotate_left
  ·intro w'
   go_simp
   with_reducible rfl
  rotate_left
  ·simp only [Act.put, lA_, lZ_, lS_, i64_w, i32_w]
   rfl
  refine pure_ (i := 2) (N := some 41) (v := ?_) (a' := ?_) #[true, true, true, false, false, false, false] rfl rfl (by kernel_rfl) (fun _ _ _ h => h) (Or.inl ⟨by rfl, ?_⟩) ?_ ?_
  rotate_left
  ·intro w'
   go_simp
   with_reducible rfl
  rotate_left
  ·simp only [Act.put, lA_, lZ_, lS_, i64_w, i32_w]
   rfl
  refine take_ (i := 3) (N := some 42) (v := ?_) (a' := ?_) #[true, true, true, true, false, false, false] rfl rfl (by kernel_rfl) (fun _ _ _ h => h) (Or.inl ⟨by rfl, ?_⟩) hHeld ?_ ?_
  rotate_left
  ·rintro w' ⟨s0, s1, s2, s3⟩
   go_simp
   with_reducible rfl
  rotate_left
  ·simp only [Act.put, lA_, lZ_, lS_, i64_w, i32_w]
   rfl
  refine take_ (i := 4) (N := some 43) (v := ?_) (a' := ?_) #[true, true, true, true, true, false, false] rfl rfl (by kernel_rfl) (fun _ _ _ h => h) (Or.inl ⟨by rfl, ?_⟩) hHeld ?_ ?_
  rotate_left
  ·rintro w' ⟨s0, s1, s2, s3⟩
   go_simp
   with_reducible rfl
  rotate_left
  ·simp only [Act.put, lA_, lZ_, lS_, i64_w, i32_w]
   rfl
  refine one_ (i := 5) (N := some 44) #[true, true, true, true, true, true, false] rfl rfl (by kernel_rfl) (by decide) (fun K hK => ?_)
  refine goes_ Try.func48 (by kernel_rfl) rfl #[.slice A0 lt.length c0, .agg #[.int .i64 y.f0, .int .i64 y.f1, .slice A2e y.f2.length c2e]] (by rfl) rfl rfl (by (try simp only [List.map_toArray, List.map_cons, List.map_nil]); first | done | rfl) ?_
  refine (impl_GateFault.calls k A0 c0 lt y.f0 y.f1 A2e c2e y.f2 c _ (Kd.C_below a0.out HB.out) a1.out (Kd.C_below HTC.out HB.out) HTL.out HF.out).mono ?_
  rintro e w44 ⟨rfl, hb⟩
  refine ⟨_, rfl, ?_⟩
  have n0_ := Z_ (bB_ BW.out hb)
  have n1_ := Z_ (bB_ B4.out hb)
  have n2_ := Z_ (lP_ HB.out hb)
  clear BW B4 HB hb
  have BW := n0_
  have B4 := n1_
  have HB := n2_
  clear n0_ n1_ n2_
  refine hK.out _ _ ⟨(blk_cell BW.out 0).trans rfl, (blk_cell B4.out 0).trans rfl, (blk_cell B4.out 1).trans rfl, (blk_cell B4.out 2).trans rfl⟩ (fun hHeld => ?_)
  clear hK K
  refine norm_ (a' := ?_) ?_ ?_
  rotate_left
  ·show Act.put _ (some 44) _ = _
   simp only [Act.put, lA_, lZ_, lS_, i64_w, i32_w]
   rfl
  refine pure_ (i := 6) (N := some 5) (v := ?_) (a' := ?_) #[true, true, true, true, true, true, true] rfl rfl (by kernel_rfl) (fun _ _ _ h => h) (Or.inl ⟨by rfl, ?_⟩) ?_ ?_
  rotate_left
  ·intro w'
   go_simp
   with_reducible rfl
  rotate_left
  ·simp only [Act.put, lA_, lZ_, lS_, i64_w, i32_w]
   rfl
  refine done_ (by kernel_rfl) ?_
  obtain ⟨_, _, _, _, _, _⟩ := bc3 B4.out
  have h := H.out
  clear H
  by_cases hz : c = 0
  rotate_left
  ·rw [if_neg hz] at h
   obtain rfl := Option.some.inj h
   have hz0 : (c == 0) = false := by simpa using hz
   have hz1 : (c != 0) = true := by simpa using hz
   go_wp2
   go_ret
   exact ⟨rfl, HB.out⟩
  rw [if_pos hz] at h
  subst hz
  have hw1 : IntKind.i64.wrap ((kk : Int) + 1) = (kk : Int) + 1 := by rw [i64_w, w64g (by omega) (by have := HN1.out; omega)]
  by_cases hid : y.f0 = (kk : Int) + 1
  rotate_left
  ·rw [if_neg hid] at h
   obtain rfl := Option.some.inj h
   have hz0 : (y.f0 == (kk : Int) + 1) = false := by simpa using hid
   have hz1 : (y.f0 != (kk : Int) + 1) = true := by simpa using hid
   go_wp2
   go_ret
   exact ⟨rfl, HB.out⟩
  rw [if_pos hid] at h
  have hz0 : (y.f0 == (kk : Int) + 1) = true := by simpa using hid
  have hz1 : (y.f0 != (kk : Int) + 1) = false := by simpa using hid
  clear hid
  have H := Z_ (show nfGates (impl_GateFault.f k lt) ((kk + 1 : Nat) : Int) (lg.drop (kk + 1)) = some r from by push_cast; exact h)
  clear h
  go_wp2
  go_roundg (lg.length - (kk + 1))
  case measure => omega
  case rel => exact ⟨kk + 1, by omega, by omega, (by have := HN1.out; first | rfl | (rw [hw1]; push_cast; rfl) | (rw [w64g (by omega) (by omega)]; push_cast; rfl) | (push_cast; rfl)), HB, H⟩
def svEnc (x : Option Addr × Nat × Nat) : Value := .slice x.1 x.2.1 x.2.2
def svK : Kd (Option Addr × Nat × Nat) := Kd.scalar svEnc (fun _ => rfl)
theorem sv_reps {w : World} {base : Nat} {ok : Nat → Prop} : ∀ xs : List (Option Addr × Nat × Nat), Reps (svK.M w base ok) svK.sz xs (xs.map svEnc)
  | xs => ⟨by simp [svK, Kd.scalar], fun j p h => by
    obtain ⟨hj, rfl⟩ := List.getElem?_eq_some_iff.1 h
    show ((xs.map svEnc).drop (j * 1)).take 1 = [svEnc xs[j]]
    rw [Nat.mul_one, List.drop_eq_getElem_cons (by simpa using hj)]
    simp⟩
theorem sv_two {w : World} {A A4 A5 : Option Addr} {c4 c5 : Nat} {l4 l5 : List S59} (h : Kd.C svK w A 2 [(A4, l4.length, c4), (A5, l5.length, c5)]) (h4 : Kd.C k59 w A4 l4.length l4) (k4 : l4.length ≤ c4) (h5 : Kd.C k59 w A5 l5.length l5) (k5 : l5.length ≤ c5) : Kd.C (Kd.slice 59 k59) w A 2 [l4, l5] := by
  refine ⟨rfl, h.2.1, fun hn => ?_⟩
  obtain ⟨ad, e, hc⟩ := h.2.2 hn
  refine ⟨ad, e, fun j p hp => ?_⟩
  match j, hp with
  | 0, hp =>
    obtain ⟨c, hs, hK, hcell⟩ := hc 0 _ rfl
    cases hp
    exact ⟨c, hs, ⟨A4, c4, hK, k4, h4⟩, hcell⟩
  | 1, hp =>
    obtain ⟨c, hs, hK, hcell⟩ := hc 1 _ rfl
    cases hp
    exact ⟨c, hs, ⟨A5, c5, hK, k5, h5⟩, hcell⟩
def impl_NetFault.f (k : Nat) (lt : List S76) (lg : List S46) (lb lh : List Int) (lv lw : List S59) : Option Int :=
  (impl_TermsFault.f lt).bind fun t => (impl_faultOf.f k [t]).bind fun t' => if t' = 0 then
    (impl_Net_gatesFault.f k lt lg lv.length lw.length).bind fun u => if u = 0 then
      (impl_brokenFault.f k lb).bind fun b => (impl_KnownFault.f k lt lh).bind fun n => (impl_faultOf.f k [b, n]).bind fun v => if v = 0 then
        (impl_Given_28.f [lv, lw]).bind fun ws => some (if ws.any (gvBad lt lg) = true then 3 else 0)
      else some v
    else some u
  else some t'
theorem impl_NetFault.calls (k : Nat) (A0 : Option Addr) (c0 : Nat) (lt : List S76) (A1 : Option Addr) (c1 : Nat) (lg : List S46) (A2 : Option Addr) (c2 : Nat) (lb : List Int) (A3 : Option Addr) (c3 : Nat) (lh : List Int) (A4 : Option Addr) (c4 : Nat) (lv : List S59) (A5 : Option Addr) (c5 : Nat) (lw : List S59) (r : Int) (w : World) (hr0 : Kd.C k76 w A0 lt.length lt) (hc0 : lt.length ≤ c0) (hr1 : Kd.C k46 w A1 lg.length lg) (hc1 : lg.length ≤ c1) (hr2 : Kd.C (Kd.int .i64) w A2 lb.length lb) (hc2 : lb.length ≤ c2) (hr3 : Kd.C (Kd.int .i64) w A3 lh.length lh) (hc3 : lh.length ≤ c3) (hr4 : Kd.C k59 w A4 lv.length lv) (hc4 : lv.length ≤ c4) (hr5 : Kd.C k59 w A5 lw.length lw) (hc5 : lw.length ≤ c5) (h : impl_NetFault.f k lt lg lb lh lv lw = some r) :
    Calls Try.prog 7 #[.agg #[.slice A0 lt.length c0, .slice A1 lg.length c1, .slice A2 lb.length c2, .slice A3 lh.length c3, .slice A4 lv.length c4, .slice A5 lw.length c5]] w fun e w' => e = .returned (.int .i64 r) ∧ Below w.heap.size w w' := by
 have hu1 := Try.underlying34
 have hu2 := Try.underlying46
 have a0 := Z_ hr0
 have a1 := Z_ hc0
 clear hr0 hc0
 have a2 := Z_ hr1
 have ae := Z_ hc1
 clear hr1 hc1
 have aa := Z_ hr2
 have ab := Z_ hc2
 clear hr2 hc2
 have ac := Z_ hr3
 have ad := Z_ hc3
 clear hr3 hc3
 have a5 := Z_ hr4
 have a6 := Z_ hc4
 clear hr4 hc4
 have a7 := Z_ hr5
 have a8 := Z_ hc5
 clear hr5 hc5
 have HN1 := Z_ a2.out.2.1
 have HB := Z_ (Below.refl w.heap.size w)
 unfold impl_NetFault.f at h
 obtain ⟨t, ht, h⟩ := Option.bind_eq_some_iff.mp h
 have HTF := Z_ ht
 clear ht
 obtain ⟨t1, ht, h⟩ := Option.bind_eq_some_iff.mp h
 have HF1 := Z_ ht
 clear ht
 by_cases hz : t1 = 0
 rotate_left
 ·rw [if_neg hz] at h
  obtain rfl := Option.some.inj h
  have hz0 : (t1 == 0) = false := by simpa using hz
  have hz1 : (t1 != 0) = true := by simpa using hz
  clear hz
  go_enter Try.func7, Try.ntmps7
  go_wp2_with (first | ((with_reducible refine gD_ 1 rfl ?_); refine bx_ #[.slice A0 lt.length c0, .slice A1 lg.length c1, .slice A2 lb.length c2, .slice A3 lh.length c3, .slice A4 lv.length c4, .slice A5 lw.length c5] 34 ?_; intro p hg1 w1 hbox hb; have n1_ := Z_ (lP_ HB.out hb); have BI := Z_ hbox; have SP := Z_ ((by rw [hg1]; exact (below_size HB.out) : w.heap.size ≤ p)); clear HB hbox hb hg1; have HB := n1_; clear n1_; obtain ⟨_, _, _, _, _, _, _, _, _, _, _, _⟩ := bc6 BI.out) | (go_at_call 23; refine (impl_TermsFault.calls A0 c0 lt t _ (Kd.C_below a0.out (by repeat (first | exact HB.out | apply lN_ | apply lD_))) a1.out HTF.out).mono ?_; rintro e w7_ ⟨rfl, hb⟩; replace BI := Z_ (bB_ (by repeat (first | exact BI.out | apply bN_ | apply bD_)) hb); replace HB := Z_ (lP_ (by repeat (first | exact HB.out | apply lN_ | apply lD_)) hb); clear hb; obtain ⟨_, _, _, _, _, _, _, _, _, _, _, _⟩ := bc6 BI.out) | ((with_reducible refine gD_ 9 rfl ?_); refine Kd.R_lit (Kd.int .i64) _ 2 ?hg (N := 9) ?hd (xs := [t]) (inner := [.int .i64 t]) (ok := fun _ => True) (okp := fun _ => True) ?hr ?hp (fun _ hk => hk) trivial (Below.refl _ _) (Nat.le_refl _) (by simp) ?_; (case hd => rfl); (case hg => rfl); (case hr => first | (go_simp; done) | (go_simp; rfl)); (case hp => exact repsG_ _); intro vL wL hoL hb hg hn; clear hg hn; obtain ⟨A9, c9, eL⟩ := Kd.R_slice hoL; subst eL; have RL9 := Z_ (Kd.R_reads' hoL); clear hoL; replace BI := Z_ (bB_ (by repeat (first | exact BI.out | apply bN_ | apply bD_)) hb); replace HB := Z_ (lP_ (by repeat (first | exact HB.out | apply lN_ | apply lD_)) hb); clear hb; obtain ⟨_, _, _, _, _, _, _, _, _, _, _, _⟩ := bc6 BI.out) | (go_at_call 22; refine (impl_faultOf.calls k A9 c9 [t] t1 _ RL9.out.2.2 RL9.out.2.1 HF1.out).mono ?_; rintro e w9_ ⟨rfl, ⟨nd, rfl⟩⟩))
  go_ret
  exact ⟨rfl, (by repeat (first | exact HB.out | apply lN_ | apply lD_))⟩
 rw [if_pos hz] at h
 subst hz
 obtain ⟨u, ht, h⟩ := Option.bind_eq_some_iff.mp h
 have HGF := Z_ ht
 clear ht
 by_cases hz : u = 0
 rotate_left
 ·rw [if_neg hz] at h
  obtain rfl := Option.some.inj h
  have hz0 : (u == 0) = false := by simpa using hz
  have hz1 : (u != 0) = true := by simpa using hz
  clear hz
  go_enter Try.func7, Try.ntmps7
  go_wp2_with (first | ((with_reducible refine gD_ 1 rfl ?_); refine bx_ #[.slice A0 lt.length c0, .slice A1 lg.length c1, .slice A2 lb.length c2, .slice A3 lh.length c3, .slice A4 lv.length c4, .slice A5 lw.length c5] 34 ?_; intro p hg1 w1 hbox hb; have n1_ := Z_ (lP_ HB.out hb); have BI := Z_ hbox; have SP := Z_ ((by rw [hg1]; exact (below_size HB.out) : w.heap.size ≤ p)); clear HB hbox hb hg1; have HB := n1_; clear n1_; obtain ⟨_, _, _, _, _, _, _, _, _, _, _, _⟩ := bc6 BI.out) | (go_at_call 23; refine (impl_TermsFault.calls A0 c0 lt t _ (Kd.C_below a0.out (by repeat (first | exact HB.out | apply lN_ | apply lD_))) a1.out HTF.out).mono ?_; rintro e w7_ ⟨rfl, hb⟩; replace BI := Z_ (bB_ (by repeat (first | exact BI.out | apply bN_ | apply bD_)) hb); replace HB := Z_ (lP_ (by repeat (first | exact HB.out | apply lN_ | apply lD_)) hb); clear hb; obtain ⟨_, _, _, _, _, _, _, _, _, _, _, _⟩ := bc6 BI.out) | ((with_reducible refine gD_ 9 rfl ?_); refine Kd.R_lit (Kd.int .i64) _ 2 ?hg (N := 9) ?hd (xs := [t]) (inner := [.int .i64 t]) (ok := fun _ => True) (okp := fun _ => True) ?hr ?hp (fun _ hk => hk) trivial (Below.refl _ _) (Nat.le_refl _) (by simp) ?_; (case hd => rfl); (case hg => rfl); (case hr => first | (go_simp; done) | (go_simp; rfl)); (case hp => exact repsG_ _); intro vL wL hoL hb hg hn; clear hg hn; obtain ⟨A9, c9, eL⟩ := Kd.R_slice hoL; subst eL; have RL9 := Z_ (Kd.R_reads' hoL); clear hoL; replace BI := Z_ (bB_ (by repeat (first | exact BI.out | apply bN_ | apply bD_)) hb); replace HB := Z_ (lP_ (by repeat (first | exact HB.out | apply lN_ | apply lD_)) hb); clear hb; obtain ⟨_, _, _, _, _, _, _, _, _, _, _, _⟩ := bc6 BI.out) | (go_at_call 22; refine (impl_faultOf.calls k A9 c9 [t] 0 _ RL9.out.2.2 RL9.out.2.1 HF1.out).mono ?_; rintro e w9_ ⟨rfl, ⟨nd, rfl⟩⟩) | (go_at_call 24; refine (impl_Net_gatesFault.calls k p A0 A1 A2 A3 A4 A5 c0 c1 c2 c3 c4 c5 lb.length lh.length lv.length lw.length lt lg u _ (by repeat (first | exact BI.out | apply bN_ | apply bD_)) (Kd.C_below a0.out (by repeat (first | exact HB.out | apply lN_ | apply lD_))) a1.out (Kd.C_below a2.out (by repeat (first | exact HB.out | apply lN_ | apply lD_))) HGF.out).mono ?_; rintro e w8_ ⟨rfl, hb⟩; replace BI := Z_ (bB_ (by repeat (first | exact BI.out | apply bN_ | apply bD_)) hb); replace HB := Z_ (lP_ (by repeat (first | exact HB.out | apply lN_ | apply lD_)) hb); clear hb; obtain ⟨_, _, _, _, _, _, _, _, _, _, _, _⟩ := bc6 BI.out))
  go_ret
  exact ⟨rfl, (by repeat (first | exact HB.out | apply lN_ | apply lD_))⟩
 rw [if_pos hz] at h
 subst hz
 obtain ⟨b, ht, h⟩ := Option.bind_eq_some_iff.mp h
 have HBF := Z_ ht
 clear ht
 obtain ⟨n, ht, h⟩ := Option.bind_eq_some_iff.mp h
 have HKF := Z_ ht
 clear ht
 obtain ⟨v, ht, h⟩ := Option.bind_eq_some_iff.mp h
 have HF2 := Z_ ht
 clear ht
 have H := Z_ h
 clear h
 go_enter Try.func7, Try.ntmps7
 go_wp2_with (first | ((with_reducible refine gD_ 1 rfl ?_); refine bx_ #[.slice A0 lt.length c0, .slice A1 lg.length c1, .slice A2 lb.length c2, .slice A3 lh.length c3, .slice A4 lv.length c4, .slice A5 lw.length c5] 34 ?_; intro p hg1 w1 hbox hb; have n1_ := Z_ (lP_ HB.out hb); have BI := Z_ hbox; have SP := Z_ ((by rw [hg1]; exact (below_size HB.out) : w.heap.size ≤ p)); clear HB hbox hb hg1; have HB := n1_; clear n1_; obtain ⟨_, _, _, _, _, _, _, _, _, _, _, _⟩ := bc6 BI.out) | (go_at_call 23; refine (impl_TermsFault.calls A0 c0 lt t _ (Kd.C_below a0.out (by repeat (first | exact HB.out | apply lN_ | apply lD_))) a1.out HTF.out).mono ?_; rintro e w7_ ⟨rfl, hb⟩; replace BI := Z_ (bB_ (by repeat (first | exact BI.out | apply bN_ | apply bD_)) hb); replace HB := Z_ (lP_ (by repeat (first | exact HB.out | apply lN_ | apply lD_)) hb); clear hb; obtain ⟨_, _, _, _, _, _, _, _, _, _, _, _⟩ := bc6 BI.out) | ((with_reducible refine gD_ 9 rfl ?_); refine Kd.R_lit (Kd.int .i64) _ 2 ?hg (N := 9) ?hd (xs := [t]) (inner := [.int .i64 t]) (ok := fun _ => True) (okp := fun _ => True) ?hr ?hp (fun _ hk => hk) trivial (Below.refl _ _) (Nat.le_refl _) (by simp) ?_; (case hd => rfl); (case hg => rfl); (case hr => first | (go_simp; done) | (go_simp; rfl)); (case hp => exact repsG_ _); intro vL wL hoL hb hg hn; clear hg hn; obtain ⟨A9, c9, eL⟩ := Kd.R_slice hoL; subst eL; have RL9 := Z_ (Kd.R_reads' hoL); clear hoL; replace BI := Z_ (bB_ (by repeat (first | exact BI.out | apply bN_ | apply bD_)) hb); replace HB := Z_ (lP_ (by repeat (first | exact HB.out | apply lN_ | apply lD_)) hb); clear hb; obtain ⟨_, _, _, _, _, _, _, _, _, _, _, _⟩ := bc6 BI.out) | (go_at_call 22; refine (impl_faultOf.calls k A9 c9 [t] 0 _ RL9.out.2.2 RL9.out.2.1 HF1.out).mono ?_; rintro e w9_ ⟨rfl, ⟨nd, rfl⟩⟩) | (go_at_call 24; refine (impl_Net_gatesFault.calls k p A0 A1 A2 A3 A4 A5 c0 c1 c2 c3 c4 c5 lb.length lh.length lv.length lw.length lt lg 0 _ (by repeat (first | exact BI.out | apply bN_ | apply bD_)) (Kd.C_below a0.out (by repeat (first | exact HB.out | apply lN_ | apply lD_))) a1.out (Kd.C_below a2.out (by repeat (first | exact HB.out | apply lN_ | apply lD_))) HGF.out).mono ?_; rintro e w8_ ⟨rfl, hb⟩; replace BI := Z_ (bB_ (by repeat (first | exact BI.out | apply bN_ | apply bD_)) hb); replace HB := Z_ (lP_ (by repeat (first | exact HB.out | apply lN_ | apply lD_)) hb); clear hb; obtain ⟨_, _, _, _, _, _, _, _, _, _, _, _⟩ := bc6 BI.out))
 have n0_ := Z_ (bD_ BI.out)
 clear BI
 have BI := n0_
 clear n0_
 have n0_ := Z_ (lD_ HB.out)
 clear HB
 have HB := n0_
 clear n0_
 skip
 refine start_ (n := 11) (S := fun w' => w'.cell? ⟨p, 0, none⟩ = some (.slice A0 lt.length c0) ∧ w'.cell? ⟨p, 2, none⟩ = some (.slice A2 lb.length c2) ∧ w'.cell? ⟨p, 3, none⟩ = some (.slice A3 lh.length c3)) (ds := []) #[false, false, false, false, false, false, false, false, false, false, false] (by kernel_rfl) rfl rfl ⟨(blk_cell BI.out 0).trans rfl, (blk_cell BI.out 2).trans rfl, (blk_cell BI.out 3).trans rfl⟩ (fun hHeld => ?_)
 generalize World.drew _ = wD at BI HB hHeld ⊢
 refine pure_ (i := 0) (N := some 18) (v := ?_) (a' := ?_) #[true, false, false, false, false, false, false, false, false, false, false] rfl rfl (by kernel_rfl) (fun _ _ _ h => h) (Or.inl ⟨by rfl, ?_⟩) ?_ ?_
 rotate_left
 ·intro w'
  go_simp
  with_reducible rfl
 rotate_left
 ·simp only [Act.put, lA_, lZ_, lS_, i64_w, i32_w]
  rfl
 refine take_ (i := 1) (N := some 19) (v := ?_) (a' := ?_) #[true, true, false, false, false, false, false, false, false, false, false] rfl rfl (by kernel_rfl) (fun _ _ _ h => h) (Or.inl ⟨by rfl, ?_⟩) hHeld ?_ ?_
 rotate_left
 ·rintro w' ⟨s0, s1, s2⟩
  go_simp
  with_reducible rfl
 rotate_left
 ·simp only [Act.put, lA_, lZ_, lS_, i64_w, i32_w]
  rfl
 refine pure_ (i := 3) (N := some 21) (v := ?_) (a' := ?_) #[true, true, false, true, false, false, false, false, false, false, false] rfl rfl (by kernel_rfl) (fun _ _ _ h => h) (Or.inl ⟨by rfl, ?_⟩) ?_ ?_
 rotate_left
 ·intro w'
  go_simp
  with_reducible rfl
 rotate_left
 ·simp only [Act.put, lA_, lZ_, lS_, i64_w, i32_w]
  rfl
 refine take_ (i := 4) (N := some 22) (v := ?_) (a' := ?_) #[true, true, false, true, true, false, false, false, false, false, false] rfl rfl (by kernel_rfl) (fun _ _ _ h => h) (Or.inl ⟨by rfl, ?_⟩) hHeld ?_ ?_
 rotate_left
 ·rintro w' ⟨s0, s1, s2⟩
  go_simp
  with_reducible rfl
 rotate_left
 ·simp only [Act.put, lA_, lZ_, lS_, i64_w, i32_w]
  rfl
 refine pure_ (i := 5) (N := some 23) (v := ?_) (a' := ?_) #[true, true, false, true, true, true, false, false, false, false, false] rfl rfl (by kernel_rfl) (fun _ _ _ h => h) (Or.inl ⟨by rfl, ?_⟩) ?_ ?_
 rotate_left
 ·intro w'
  go_simp
  with_reducible rfl
 rotate_left
 ·simp only [Act.put, lA_, lZ_, lS_, i64_w, i32_w]
  rfl
 refine take_ (i := 6) (N := some 24) (v := ?_) (a' := ?_) #[true, true, false, true, true, true, true, false, false, false, false] rfl rfl (by kernel_rfl) (fun _ _ _ h => h) (Or.inl ⟨by rfl, ?_⟩) hHeld ?_ ?_
 rotate_left
 ·rintro w' ⟨s0, s1, s2⟩
  go_simp
  with_reducible rfl
 rotate_left
 ·simp only [Act.put, lA_, lZ_, lS_, i64_w, i32_w]
  rfl
 refine one_ (i := 2) (N := some 20) #[true, true, true, true, true, true, true, false, false, false, false] rfl rfl (by kernel_rfl) (by decide) (fun K hK => ?_)
 refine goes_ Try.func25 (by kernel_rfl) rfl #[.slice A2 lb.length c2] (by rfl) rfl rfl (by (try simp only [List.map_toArray, List.map_cons, List.map_nil]); first | done | rfl) ?_
 refine (impl_brokenFault.calls k A2 c2 lb b _ (Kd.C_below aa.out HB.out) ab.out HBF.out).mono ?_
 rintro e w20 ⟨rfl, ⟨nd, rfl⟩⟩
 refine ⟨_, rfl, ?_⟩
 have n0_ := Z_ (show (World.drewN _ nd).heap[p]? = _ from (by repeat (first | exact BI.out | apply bN_ | apply bD_)))
 have n2_ := Z_ (lN_ (n := nd) HB.out)
 clear BI HB
 have BI := n0_
 have HB := n2_
 clear n0_ n2_
 refine hK.out _ _ ⟨(blk_cell BI.out 0).trans rfl, (blk_cell BI.out 2).trans rfl, (blk_cell BI.out 3).trans rfl⟩ (fun hHeld => ?_)
 clear hK K
 refine norm_ (a' := ?_) ?_ ?_
 rotate_left
 ·show Act.put _ (some 20) _ = _
  simp only [Act.put, lA_, lZ_, lS_, i64_w, i32_w]
  rfl
 refine one_ (i := 7) (N := some 25) #[true, true, true, true, true, true, true, true, false, false, false] rfl rfl (by kernel_rfl) (by decide) (fun K hK => ?_)
 refine goes_ Try.func26 (by kernel_rfl) rfl #[.slice A0 lt.length c0, .slice A3 lh.length c3] (by rfl) rfl rfl (by (try simp only [List.map_toArray, List.map_cons, List.map_nil]); first | done | rfl) ?_
 refine (impl_KnownFault.calls k A0 c0 lt A3 c3 lh n _ (Kd.C_below a0.out HB.out) a1.out (Kd.C_below ac.out HB.out) ad.out HKF.out).mono ?_
 rintro e w25 ⟨rfl, hb⟩
 refine ⟨_, rfl, ?_⟩
 have n0_ := Z_ (bB_ BI.out hb)
 have n2_ := Z_ (lP_ HB.out hb)
 clear BI HB hb
 have BI := n0_
 have HB := n2_
 clear n0_ n2_
 refine hK.out _ _ ⟨(blk_cell BI.out 0).trans rfl, (blk_cell BI.out 2).trans rfl, (blk_cell BI.out 3).trans rfl⟩ (fun hHeld => ?_)
 clear hK K
 refine norm_ (a' := ?_) ?_ ?_
 rotate_left
 ·show Act.put _ (some 25) _ = _
  simp only [Act.put, lA_, lZ_, lS_, i64_w, i32_w]
  rfl
 refine one_ (i := 8) (N := some 26) #[true, true, true, true, true, true, true, true, true, false, false] rfl rfl (by kernel_rfl) (by decide) (fun K hK => ?_)
 refine Kd.R_lit_step (Kd.int .i64) _ 2 ?hg (N := 26) ?hd (xs := [b, n]) (inner := [.int .i64 b, .int .i64 n]) (ok := fun _ => True) (okp := fun _ => True) ?hr ?hp (fun _ hk => hk) trivial (Below.refl _ _) (Nat.le_refl _) (by simp) ?_; (case hd => rfl); (case hg => rfl); (case hr => first | (go_simp; done) | (go_simp; rfl)); (case hp => exact repsG_ _)
 intro vL wL hoL hb hg_ hnew_
 clear hg_ hnew_
 obtain ⟨a9, c26, eL⟩ := Kd.R_slice hoL
 subst eL
 have RL26 := Z_ (Kd.R_reads' hoL)
 clear hoL
 have n0_ := Z_ (bB_ BI.out hb)
 have n2_ := Z_ (lP_ HB.out hb)
 clear BI HB hb
 have BI := n0_
 have HB := n2_
 clear n0_ n2_
 refine hK.out _ _ ⟨(blk_cell BI.out 0).trans rfl, (blk_cell BI.out 2).trans rfl, (blk_cell BI.out 3).trans rfl⟩ (fun hHeld => ?_)
 clear hK K
 refine norm_ (a' := ?_) ?_ ?_
 rotate_left
 ·show Act.put _ (some 26) _ = _
  simp only [Act.put, lA_, lZ_, lS_, i64_w, i32_w]
  rfl
 refine one_ (i := 9) (N := some 27) #[true, true, true, true, true, true, true, true, true, true, false] rfl rfl (by kernel_rfl) (by decide) (fun K hK => ?_)
 refine goes_ Try.func22 (by kernel_rfl) rfl #[.slice a9 2 c26] (by rfl) rfl rfl (by (try simp only [List.map_toArray, List.map_cons, List.map_nil]); first | done | rfl) ?_
 refine (impl_faultOf.calls k a9 c26 [b, n] v _ RL26.out.2.2 RL26.out.2.1 HF2.out).mono ?_
 rintro e w27 ⟨rfl, ⟨nd, rfl⟩⟩
 refine ⟨_, rfl, ?_⟩
 have n0_ := Z_ (show (World.drewN _ nd).heap[p]? = _ from (by repeat (first | exact BI.out | apply bN_ | apply bD_)))
 have n2_ := Z_ (lN_ (n := nd) HB.out)
 clear BI HB
 have BI := n0_
 have HB := n2_
 clear n0_ n2_
 refine hK.out _ _ ⟨(blk_cell BI.out 0).trans rfl, (blk_cell BI.out 2).trans rfl, (blk_cell BI.out 3).trans rfl⟩ (fun hHeld => ?_)
 clear hK K
 refine norm_ (a' := ?_) ?_ ?_
 rotate_left
 ·show Act.put _ (some 27) _ = _
  simp only [Act.put, lA_, lZ_, lS_, i64_w, i32_w]
  rfl
 refine pure_ (i := 10) (N := some 5) (v := ?_) (a' := ?_) #[true, true, true, true, true, true, true, true, true, true, true] rfl rfl (by kernel_rfl) (fun _ _ _ h => h) (Or.inl ⟨by rfl, ?_⟩) ?_ ?_
 rotate_left
 ·intro w'
  go_simp
  with_reducible rfl
 rotate_left
 ·simp only [Act.put, lA_, lZ_, lS_, i64_w, i32_w]
  rfl
 refine done_ (by kernel_rfl) ?_
 obtain ⟨_, _, _, _, _, _, _, _, _, _, _, _⟩ := bc6 BI.out
 have h := H.out
 clear H
 by_cases hz : v = 0
 rotate_left
 ·rw [if_neg hz] at h
  obtain rfl := Option.some.inj h
  have hz0 : (v == 0) = false := by simpa using hz
  have hz1 : (v != 0) = true := by simpa using hz
  clear hz
  go_wp2
  go_ret
  exact ⟨rfl, HB.out⟩
 rw [if_pos hz] at h
 subst hz
 obtain ⟨ws, ht, h⟩ := Option.bind_eq_some_iff.mp h
 have HCC := Z_ ht
 clear ht
 obtain ⟨bb, hbb⟩ : ∃ bb, ws.any (gvBad lt lg) = bb := ⟨_, rfl⟩
 rw [hbb] at h
 have HA := Z_ hbb
 clear hbb
 cases bb with
 | true =>
  obtain rfl := Option.some.inj h
  go_wp2_with (first | ((with_reducible refine gD_ 35 rfl ?_); refine Kd.R_lit svK _ 32 ?hg (N := 35) ?hd (xs := [(A4, lv.length, c4), (A5, lw.length, c5)]) (inner := [.slice A4 lv.length c4, .slice A5 lw.length c5]) (ok := fun _ => True) (okp := fun _ => True) ?hr ?hp (fun _ hk => hk) trivial (Below.refl _ _) (Nat.le_refl _) (by simp) ?_; (case hd => rfl); (case hg => rfl); (case hr => first | (go_simp; done) | (go_simp; rfl)); (case hp => exact sv_reps _); intro vL wL hoL hb hg hn; clear hg hn; obtain ⟨a3, c35, eL⟩ := Kd.R_slice hoL; subst eL; have RL35 := Z_ (Kd.R_reads' hoL); clear hoL; replace BI := Z_ (bB_ (by repeat (first | exact BI.out | apply bN_ | apply bD_)) hb); replace HB := Z_ (lP_ (by repeat (first | exact HB.out | apply lN_ | apply lD_)) hb); clear hb; obtain ⟨_, _, _, _, _, _, _, _, _, _, _, _⟩ := bc6 BI.out) | (go_at_call 28; refine (impl_Given_28.calls a3 c35 [lv, lw] ws _ (sv_two RL35.out.2.2 (Kd.C_below a5.out (by repeat (first | exact HB.out | apply lN_ | apply lD_))) a6.out (Kd.C_below a7.out (by repeat (first | exact HB.out | apply lN_ | apply lD_))) a8.out) RL35.out.2.1 HCC.out).mono ?_; rintro e w36_ ⟨v36, rfl, ho36, hb⟩; obtain ⟨a4, c36, e36⟩ := Kd.R_slice ho36; subst e36; have RC := Z_ (Kd.R_reads' ho36); clear ho36; replace BI := Z_ (bB_ (by repeat (first | exact BI.out | apply bN_ | apply bD_)) hb); replace HB := Z_ (lP_ (by repeat (first | exact HB.out | apply lN_ | apply lD_)) hb); clear hb; obtain ⟨_, _, _, _, _, _, _, _, _, _, _, _⟩ := bc6 BI.out) | (go_at_call 27; refine (slices_ContainsFunc_Gv.calls 29 #[.pointer (some ⟨p, 0, none⟩)] (gvBad lt lg) a4 c36 ws _ (enters_of Try.func29 (by kernel_rfl) rfl) (fun W x _ hB => (impl_NetFault_1.calls p A0 A1 A2 A3 A4 A5 c0 c1 c2 c3 c4 c5 lb.length lh.length lv.length lw.length lt lg x W (hB.block p (blk_lt BI.out) |>.trans BI.out) (Kd.C_below a0.out (lP_ HB.out hB)) (Kd.C_below a2.out (lP_ HB.out hB))).mono (fun _ _ h => ⟨h.1, lP_ hB h.2⟩)) RC.out.2.2 RC.out.2.2.2.1).mono ?_; rintro e w38_ ⟨he, hb⟩; rw [HA.out] at he; subst he; replace BI := Z_ (bB_ (by repeat (first | exact BI.out | apply bN_ | apply bD_)) hb); replace HB := Z_ (lP_ (by repeat (first | exact HB.out | apply lN_ | apply lD_)) hb); clear hb; obtain ⟨_, _, _, _, _, _, _, _, _, _, _, _⟩ := bc6 BI.out))
  go_ret
  exact ⟨rfl, (by repeat (first | exact HB.out | apply lN_ | apply lD_))⟩
 | false =>
  obtain rfl := Option.some.inj h
  go_wp2_with (first | ((with_reducible refine gD_ 35 rfl ?_); refine Kd.R_lit svK _ 32 ?hg (N := 35) ?hd (xs := [(A4, lv.length, c4), (A5, lw.length, c5)]) (inner := [.slice A4 lv.length c4, .slice A5 lw.length c5]) (ok := fun _ => True) (okp := fun _ => True) ?hr ?hp (fun _ hk => hk) trivial (Below.refl _ _) (Nat.le_refl _) (by simp) ?_; (case hd => rfl); (case hg => rfl); (case hr => first | (go_simp; done) | (go_simp; rfl)); (case hp => exact sv_reps _); intro vL wL hoL hb hg hn; clear hg hn; obtain ⟨a3, c35, eL⟩ := Kd.R_slice hoL; subst eL; have RL35 := Z_ (Kd.R_reads' hoL); clear hoL; replace BI := Z_ (bB_ (by repeat (first | exact BI.out | apply bN_ | apply bD_)) hb); replace HB := Z_ (lP_ (by repeat (first | exact HB.out | apply lN_ | apply lD_)) hb); clear hb; obtain ⟨_, _, _, _, _, _, _, _, _, _, _, _⟩ := bc6 BI.out) | (go_at_call 28; refine (impl_Given_28.calls a3 c35 [lv, lw] ws _ (sv_two RL35.out.2.2 (Kd.C_below a5.out (by repeat (first | exact HB.out | apply lN_ | apply lD_))) a6.out (Kd.C_below a7.out (by repeat (first | exact HB.out | apply lN_ | apply lD_))) a8.out) RL35.out.2.1 HCC.out).mono ?_; rintro e w36_ ⟨v36, rfl, ho36, hb⟩; obtain ⟨a4, c36, e36⟩ := Kd.R_slice ho36; subst e36; have RC := Z_ (Kd.R_reads' ho36); clear ho36; replace BI := Z_ (bB_ (by repeat (first | exact BI.out | apply bN_ | apply bD_)) hb); replace HB := Z_ (lP_ (by repeat (first | exact HB.out | apply lN_ | apply lD_)) hb); clear hb; obtain ⟨_, _, _, _, _, _, _, _, _, _, _, _⟩ := bc6 BI.out) | (go_at_call 27; refine (slices_ContainsFunc_Gv.calls 29 #[.pointer (some ⟨p, 0, none⟩)] (gvBad lt lg) a4 c36 ws _ (enters_of Try.func29 (by kernel_rfl) rfl) (fun W x _ hB => (impl_NetFault_1.calls p A0 A1 A2 A3 A4 A5 c0 c1 c2 c3 c4 c5 lb.length lh.length lv.length lw.length lt lg x W (hB.block p (blk_lt BI.out) |>.trans BI.out) (Kd.C_below a0.out (lP_ HB.out hB)) (Kd.C_below a2.out (lP_ HB.out hB))).mono (fun _ _ h => ⟨h.1, lP_ hB h.2⟩)) RC.out.2.2 RC.out.2.2.2.1).mono ?_; rintro e w38_ ⟨he, hb⟩; rw [HA.out] at he; subst he; replace BI := Z_ (bB_ (by repeat (first | exact BI.out | apply bN_ | apply bD_)) hb); replace HB := Z_ (lP_ (by repeat (first | exact HB.out | apply lN_ | apply lD_)) hb); clear hb; obtain ⟨_, _, _, _, _, _, _, _, _, _, _, _⟩ := bc6 BI.out))
  go_ret
  exact ⟨rfl, (by repeat (first | exact HB.out | apply lN_ | apply lD_))⟩
end Go.Proofs.Ytbjnjjjhdjichaa.G
namespace Go.Proofs.Ytbjnjjjhdjichaa.G
open Go.RowKit Go.Proofs.YtbjnjjjhdjichaaW.PrintWords Go.Proofs.YtbjnjjjhdjichaaW.PrintLast Go.Proofs.YtbjnjjjhdjichaaW.PrintMore
attribute [local go_sem] max2_int min2_int max_two min_two max_three min_three max_four min_four   -- for this text's walks alone
set_option linter.unusedVariables false
set_option linter.unusedSimpArgs false
def laws_eqTerm.f (a0_0 a0_1 a0_2 a0_3 a1_0 a1_1 a1_2 a1_3 : Int) : Option (Bool) := if a0_0 = a1_0 then (if a0_1 = a1_1 then (if a0_2 = a1_2 then (if a0_3 = a1_3 then (some true) else (some false)) else (some false)) else (some false)) else (some false)
set_option maxHeartbeats 8000000 in
set_option maxRecDepth 100000 in
theorem laws_eqTerm.calls (a0_0 a0_1 a0_2 a0_3 a1_0 a1_1 a1_2 a1_3 : Int) (r : Bool) (w : World) (h : laws_eqTerm.f a0_0 a0_1 a0_2 a0_3 a1_0 a1_1 a1_2 a1_3 = some r) :
  Calls Try.prog 52 #[.agg #[.int .i64 a0_0, .int .i64 a0_1, .int .i64 a0_2, .int .i64 a0_3], .agg #[.int .i64 a1_0, .int .i64 a1_1, .int .i64 a1_2, .int .i64 a1_3]] w fun e w' => e = .returned (.bool r) ∧ Below w.heap.size w w' := by
 have hu76 := Try.underlying76
 have HB := Z_ (Below.refl w.heap.size w)
 unfold laws_eqTerm.f at h
 have H := h
 clear h
 replace H := iE_ H
 obtain ⟨c3b0, c3b1, H⟩ | ⟨c3b0, c3b1, H⟩ := H
 replace H := iE_ H
 obtain ⟨c4b0, c4b1, H⟩ | ⟨c4b0, c4b1, H⟩ := H
 replace H := iE_ H
 obtain ⟨c5b0, c5b1, H⟩ | ⟨c5b0, c5b1, H⟩ := H
 replace H := iE_ H
 obtain ⟨c6b0, c6b1, H⟩ | ⟨c6b0, c6b1, H⟩ := H
 all_goals
  obtain rfl := Option.some.inj H
  go_enter Try.func52, Try.ntmps52
  go_wp2_with (first | ((with_reducible refine gD_ 2 rfl ?_); refine bx_ #[.int .i64 a0_0, .int .i64 a0_1, .int .i64 a0_2, .int .i64 a0_3] 76 ?_; intro a3 hg w12 hbox hb; have a0 := Z_ hbox; have a5 := Z_ ((by rw [hg]; exact (below_size Lb_) : w.heap.size ≤ a3)); replace HB := Z_ (lP_ Lb_ hb); clear hb hbox hg) | ((with_reducible refine gD_ 3 rfl ?_); refine bx_ #[.int .i64 a1_0, .int .i64 a1_1, .int .i64 a1_2, .int .i64 a1_3] 76 ?_; intro a4 hg w13 hbox hb; have a6 := Z_ hbox; have a7 := Z_ ((by rw [hg]; exact (below_size HB.out) : w.heap.size ≤ a4)); replace HB := Z_ (lP_ HB.out hb); have a1 := Z_ ((by rw [hg]; exact Nat.ne_of_lt (blk_lt a0.out) : a3 ≠ a4)); replace a0 := Z_ (bB_ a0.out hb); have a2 := Z_ a1.out.symm; clear hb hbox hg; have a8 := a1.out; have a9 := a2.out; obtain ⟨_, _, _, _, _, _, _, _⟩ := bc4 a0.out; obtain ⟨_, _, _, _, _, _, _, _⟩ := bc4 a6.out))
  go_ret
  exact ⟨Er_, Lb_⟩
def laws_eqTermS.l0 : Nat → List (S76) → List (S76) → Int → Option (Bool)
 | 0, _, _, _ => none
 | k + 1, x0, x1, x5 => if x5 < (x0.length : Int) then (if 0 ≤ x5 then (if x5 < (x1.length : Int) then ((laws_eqTerm.f ((rd_T76 x0 x5).f0) ((rd_T76 x0 x5).f1) ((rd_T76 x0 x5).f2) ((rd_T76 x0 x5).f3) ((rd_T76 x1 x5).f0) ((rd_T76 x1 x5).f1) ((rd_T76 x1 x5).f2) ((rd_T76 x1 x5).f3)).bind fun t360 => (if t360 = true then (laws_eqTermS.l0 k x0 x1 (wrap64 (x5 + 1))) else (some false))) else (none)) else (none)) else (some true)
def laws_eqTermS.f (k : Nat) (l0 l1 : List (S76)) : Option (Bool) := if (l0.length : Int) = (l1.length : Int) then (laws_eqTermS.l0 k l0 l1 0) else (some false)
def laws_eqTermS.T6 : Bool × List (List Nat × List Nat) := (true, [([], []), ([], []), ([0, 1], [0, 1]), ([2], [2]), ([], []), ([], []), ([4, 5], [4, 5]), ([6], [6]), ([3, 7], [3, 7]), ([8], [8])])
def laws_eqTermS.B6 : List Nat := [0, 0, 3, 7, 0, 0, 48, 112, 255, 511]
theorem laws_eqTermS.tab6 : rtab .any (opsOf Try.f33 6) = laws_eqTermS.T6 := by kernel_rfl
theorem laws_eqTermS.bits6 : waitsOk laws_eqTermS.T6.2 laws_eqTermS.B6 = true := by kernel_rfl
set_option maxHeartbeats 8000000 in
set_option maxRecDepth 100000 in
theorem laws_eqTermS.calls (k : Nat) (A0 : Option Addr) (c0 : Nat) (l0 : List (S76)) (A1 : Option Addr) (c1 : Nat) (l1 : List (S76)) (r : Bool) (w : World) (hr0 : Kd.C k76 w A0 l0.length l0) (hc0 : l0.length ≤ c0) (hr1 : Kd.C k76 w A1 l1.length l1) (hc1 : l1.length ≤ c1) (h : laws_eqTermS.f k l0 l1 = some r) :
  Calls Try.prog 33 #[.slice A0 l0.length c0, .slice A1 l1.length c1] w fun e w' => e = .returned (.bool r) ∧ Below w.heap.size w w' := by
 have hu76 := Try.underlying76
 have a0 := Z_ hr0
 have a3 := Z_ hc0
 clear hr0 hc0
 have a1 := Z_ hr1
 have a4 := Z_ hc1
 clear hr1 hc1
 have HB := Z_ (Below.refl w.heap.size w)
 unfold laws_eqTermS.f at h
 have H := h
 clear h
 replace H := iC_ H
 obtain ⟨c3, H⟩ | ⟨c3, H⟩ := H
 rotate_left
 ·have c3b0 : ((l0.length : Int) == (l1.length : Int)) = false := beq_eq_false_iff_ne.mpr c3
  have c3b1 : ((l0.length : Int) != (l1.length : Int)) = true := bne_iff_ne.mpr c3
  have c3b2 : (l0.length == l1.length) = false := by first | simpa using c3 | (simp at c3 ⊢; omega)
  obtain rfl := Option.some.inj H
  go_enter Try.func33, Try.ntmps33
  go_wp2
  go_ret
  exact ⟨Er_, Lb_⟩
 rotate_right
 have c3b0 : ((l0.length : Int) == (l1.length : Int)) = true := beq_iff_eq.mpr c3
 have c3b1 : ((l0.length : Int) != (l1.length : Int)) = false := bne_eq_false_iff_eq.mpr c3
 have c3b2 : (l0.length == l1.length) = true := by first | simpa using c3 | (simp at c3 ⊢; omega)
 clear c3
 have H' := Z_ H
 clear H
 go_enter Try.func33, Try.ntmps33
 go_wp2
 go_loopg [5] k (fun kq v5 w' => ∃ (x5_1 : Int), v5 = .int .i64 x5_1 ∧ Aside0 (laws_eqTermS.l0 kq l0 l1 x5_1 = some r) ∧ Aside0 (kq ≤ k) ∧ Aside0 (Below w.heap.size w w'))
 case atStart => exact ⟨(0), Sr_, H', ⟨Nat.le_refl _⟩, ⟨Lb_⟩⟩
 case round =>
  clear H'
  try clear c1
  try clear p2
  try clear c3
  try clear c3b0
  try clear c3b1
  try clear c3b2
  obtain ⟨x5_1, rfl, HA, HK1, HB⟩ := hrel
  cases gk with
  | zero => exact absurd HA.out (by simp [laws_eqTermS.l0])
  | succ k1 =>
   have H := HA.out
   clear HA
   simp only [laws_eqTermS.l0] at H
   replace H := iD_ H
   obtain ⟨c4b0, H⟩ | ⟨c4b0, H⟩ := H
   rotate_left
   ·obtain rfl := Option.some.inj H
    go_wp2
    go_ret
    exact ⟨Er_, Lb_⟩
   rotate_right
   replace H := iM_ H
   obtain ⟨c5b0, H⟩ := H
   replace H := iM_ H
   obtain ⟨c6b0, H⟩ := H
   replace H := bS_ H
   obtain ⟨t360, A7, H⟩ := H
   replace H := iB_ H
   obtain ⟨rfl, H⟩ | ⟨rfl, H⟩ := H
   rotate_left
   ·obtain rfl := Option.some.inj H
    try go_wp2
    have n0_ := Z_ (lD_ HB.out)
    clear HB
    have HB := n0_
    clear n0_
    have p358 : 0 ≤ (x5_1 : Int) := dA_
    have q358 : x5_1 < (l0.length : Int) := dA_
    obtain ⟨ad358, e358, hx358_0, hx358_1, hx358_2, hx358_3⟩ := at_T76 a0.out x5_1 p358 q358
    have hw358_3 := hx358_3
    have hw358_2 := hx358_2
    have hw358_1 := hx358_1
    have hw358_0 := hx358_0
    cases e358
    replace hx358_0 := cB_ HB hx358_0
    replace hx358_1 := cB_ HB hx358_1
    replace hx358_2 := cB_ HB hx358_2
    replace hx358_3 := cB_ HB hx358_3
    replace p358 := eq_true p358
    replace q358 := eq_true q358
    have p359 : 0 ≤ (x5_1 : Int) := dA_
    have q359 : x5_1 < (l1.length : Int) := dA_
    obtain ⟨ad359, e359, hx359_0, hx359_1, hx359_2, hx359_3⟩ := at_T76 a1.out x5_1 p359 q359
    have hw359_3 := hx359_3
    have hw359_2 := hx359_2
    have hw359_1 := hx359_1
    have hw359_0 := hx359_0
    cases e359
    replace hx359_0 := cB_ HB hx359_0
    replace hx359_1 := cB_ HB hx359_1
    replace hx359_2 := cB_ HB hx359_2
    replace hx359_3 := cB_ HB hx359_3
    replace p359 := eq_true p359
    replace q359 := eq_true q359
    refine start_ (n := 10) (S := fun w' => w'.cell? (ad358.add ((x5_1).toNat * 4)) = some (.int .i64 ((rd_T76 l0 x5_1).f0)) ∧ w'.cell? ⟨(ad358.add ((x5_1).toNat * 4)).block, (ad358.add ((x5_1).toNat * 4)).off + 1, none⟩ = some (.int .i64 ((rd_T76 l0 x5_1).f1)) ∧ w'.cell? ⟨(ad358.add ((x5_1).toNat * 4)).block, (ad358.add ((x5_1).toNat * 4)).off + 2, none⟩ = some (.int .i64 ((rd_T76 l0 x5_1).f2)) ∧ w'.cell? ⟨(ad358.add ((x5_1).toNat * 4)).block, (ad358.add ((x5_1).toNat * 4)).off + 3, none⟩ = some (.int .i64 ((rd_T76 l0 x5_1).f3)) ∧ w'.cell? (ad359.add ((x5_1).toNat * 4)) = some (.int .i64 ((rd_T76 l1 x5_1).f0)) ∧ w'.cell? ⟨(ad359.add ((x5_1).toNat * 4)).block, (ad359.add ((x5_1).toNat * 4)).off + 1, none⟩ = some (.int .i64 ((rd_T76 l1 x5_1).f1)) ∧ w'.cell? ⟨(ad359.add ((x5_1).toNat * 4)).block, (ad359.add ((x5_1).toNat * 4)).off + 2, none⟩ = some (.int .i64 ((rd_T76 l1 x5_1).f2)) ∧ w'.cell? ⟨(ad359.add ((x5_1).toNat * 4)).block, (ad359.add ((x5_1).toNat * 4)).off + 3, none⟩ = some (.int .i64 ((rd_T76 l1 x5_1).f3))) (ds := []) #[false, false, false, false, false, false, false, false, false, false] (by kernel_rfl) rfl rfl ⟨(cB_ HB hw358_0), (cB_ HB hw358_1), (cB_ HB hw358_2), (cB_ HB hw358_3), (cB_ HB hw359_0), (cB_ HB hw359_1), (cB_ HB hw359_2), (cB_ HB hw359_3)⟩ (fun hHeld => ?_); refine with_tabW laws_eqTermS.tab6 laws_eqTermS.bits6 (fun HT_ HW_ => ?_)
    generalize wr.drew = w11 at HB hx358_0 hx358_1 hx358_2 hx358_3 hx359_0 hx359_1 hx359_2 hx359_3 hHeld ⊢
    refine pure_ (i := 0) (N := some 17) (v := ?_) (a' := ?_) #[true, false, false, false, false, false, false, false, false, false] rfl rfl (any_of HT_.out (by kernel_rfl)) (fun _ _ _ h => h) (Or.inl ⟨by rfl, ?_⟩) ?_ ?_
    rotate_left
    ·intro w'
     go_simp
     with_reducible rfl
    rotate_left
    ·simp only [Act.put, lA_, lZ_, lS_, i64_w, i32_w]
     rfl
    refine pure_ (i := 1) (N := some 18) (v := ?_) (a' := ?_) #[true, true, false, false, false, false, false, false, false, false] rfl rfl (any_of HT_.out (by kernel_rfl)) (fun _ _ _ h => h) (Or.inl ⟨by rfl, ?_⟩) ?_ ?_
    rotate_left
    ·intro w'
     go_simp
     with_reducible rfl
    rotate_left
    ·simp only [Act.put, lA_, lZ_, lS_, i64_w, i32_w]
     rfl
    refine pure_ (i := 2) (N := some 19) (v := ?_) (a' := ?_) #[true, true, true, false, false, false, false, false, false, false] rfl rfl (any_of HT_.out (by kernel_rfl)) (fun _ _ _ h => h) (Or.inl ⟨by rfl, ?_⟩) ?_ ?_
    rotate_left
    ·intro w'
     go_simp
     with_reducible rfl
    rotate_left
    ·simp only [Act.put, lA_, lZ_, lS_, i64_w, i32_w]
     rfl
    refine pure_ (i := 4) (N := some 21) (v := ?_) (a' := ?_) #[true, true, true, false, true, false, false, false, false, false] rfl rfl (any_of HT_.out (by kernel_rfl)) (fun _ _ _ h => h) (Or.inl ⟨by rfl, ?_⟩) ?_ ?_
    rotate_left
    ·intro w'
     go_simp
     with_reducible rfl
    rotate_left
    ·simp only [Act.put, lA_, lZ_, lS_, i64_w, i32_w]
     rfl
    refine pure_ (i := 5) (N := some 22) (v := ?_) (a' := ?_) #[true, true, true, false, true, true, false, false, false, false] rfl rfl (any_of HT_.out (by kernel_rfl)) (fun _ _ _ h => h) (Or.inl ⟨by rfl, ?_⟩) ?_ ?_
    rotate_left
    ·intro w'
     go_simp
     with_reducible rfl
    rotate_left
    ·simp only [Act.put, lA_, lZ_, lS_, i64_w, i32_w]
     rfl
    refine pure_ (i := 6) (N := some 23) (v := ?_) (a' := ?_) #[true, true, true, false, true, true, true, false, false, false] rfl rfl (any_of HT_.out (by kernel_rfl)) (fun _ _ _ h => h) (Or.inl ⟨by rfl, ?_⟩) ?_ ?_
    rotate_left
    ·intro w'
     go_simp
     with_reducible rfl
    rotate_left
    ·simp only [Act.put, lA_, lZ_, lS_, i64_w, i32_w]
     rfl
    refine take_ (i := 3) (N := some 20) (v := ?_) (a' := ?_) #[true, true, true, true, true, true, true, false, false, false] rfl rfl (take_ofW HT_.out HW_.out (by kernel_rfl)) (fun _ _ _ h => h) (Or.inl ⟨by rfl, ?_⟩) hHeld ?_ ?_
    rotate_left
    ·rintro w' ⟨s0, s1, s2, s3, s4, s5, s6, s7⟩
     go_simp
     with_reducible rfl
    rotate_left
    ·simp only [Act.put, lA_, lZ_, lS_, i64_w, i32_w]
     rfl
    refine take_ (i := 7) (N := some 24) (v := ?_) (a' := ?_) #[true, true, true, true, true, true, true, true, false, false] rfl rfl (take_ofW HT_.out HW_.out (by kernel_rfl)) (fun _ _ _ h => h) (Or.inl ⟨by rfl, ?_⟩) hHeld ?_ ?_
    rotate_left
    ·rintro w' ⟨s0, s1, s2, s3, s4, s5, s6, s7⟩
     go_simp
     with_reducible rfl
    rotate_left
    ·simp only [Act.put, lA_, lZ_, lS_, i64_w, i32_w]
     rfl
    refine one_ (i := 8) (N := some 25) #[true, true, true, true, true, true, true, true, true, false] rfl rfl (one_of HT_.out (by kernel_rfl)) (by decide) (fun K hK => ?_)
    refine goes_ Try.func52 (by kernel_rfl) rfl #[.agg #[.int .i64 ((rd_T76 l0 x5_1).f0), .int .i64 ((rd_T76 l0 x5_1).f1), .int .i64 ((rd_T76 l0 x5_1).f2), .int .i64 ((rd_T76 l0 x5_1).f3)], .agg #[.int .i64 ((rd_T76 l1 x5_1).f0), .int .i64 ((rd_T76 l1 x5_1).f1), .int .i64 ((rd_T76 l1 x5_1).f2), .int .i64 ((rd_T76 l1 x5_1).f3)]] (by rfl) rfl rfl (by (try simp only [List.map_toArray, List.map_cons, List.map_nil]); first | done | rfl | (simp only [List.length_drop, List.length_take]; rfl)) ?_
    with_reducible refine (laws_eqTerm.calls ((rd_T76 l0 x5_1).f0) ((rd_T76 l0 x5_1).f1) ((rd_T76 l0 x5_1).f2) ((rd_T76 l0 x5_1).f3) ((rd_T76 l1 x5_1).f0) ((rd_T76 l1 x5_1).f1) ((rd_T76 l1 x5_1).f2) ((rd_T76 l1 x5_1).f3) false _ A7.out).mono ?_
    rintro e w12 ⟨rfl, hb⟩
    refine ⟨_, rfl, ?_⟩
    have n0_ := Z_ (lP_ Lb_ hb)
    clear HB
    have HB := n0_
    clear n0_
    (try clear hb)
    (try clear hb2)
    (try clear hk)
    (try clear hi)
    refine hK.out _ _ ⟨(cB_ HB hw358_0), (cB_ HB hw358_1), (cB_ HB hw358_2), (cB_ HB hw358_3), (cB_ HB hw359_0), (cB_ HB hw359_1), (cB_ HB hw359_2), (cB_ HB hw359_3)⟩ (fun hHeld => ?_)
    clear hK K
    refine norm_ (a' := ?_) ?_ ?_
    rotate_left
    ·show Act.put _ (some 25) _ = _
     simp only [Act.put, lA_, lZ_, lS_, i64_w, i32_w]
     rfl
    refine pure_ (i := 9) (N := some 26) (v := ?_) (a' := ?_) #[true, true, true, true, true, true, true, true, true, true] rfl rfl (any_of HT_.out (by kernel_rfl)) (fun _ _ _ h => h) (Or.inl ⟨by rfl, ?_⟩) ?_ ?_
    rotate_left
    ·intro w'
     go_simp
     with_reducible rfl
    rotate_left
    ·simp only [Act.put, lA_, lZ_, lS_, i64_w, i32_w]
     rfl
    refine done_ (done_of HT_.out (by kernel_rfl)) ?_
    try go_wp2
    go_ret
    exact ⟨Er_, Lb_⟩
   rotate_right
   have H' := Z_ H
   clear H
   try go_wp2
   have n0_ := Z_ (lD_ HB.out)
   clear HB
   have HB := n0_
   clear n0_
   have p358 : 0 ≤ (x5_1 : Int) := dA_
   have q358 : x5_1 < (l0.length : Int) := dA_
   obtain ⟨ad358, e358, hx358_0, hx358_1, hx358_2, hx358_3⟩ := at_T76 a0.out x5_1 p358 q358
   have hw358_3 := hx358_3
   have hw358_2 := hx358_2
   have hw358_1 := hx358_1
   have hw358_0 := hx358_0
   cases e358
   replace hx358_0 := cB_ HB hx358_0
   replace hx358_1 := cB_ HB hx358_1
   replace hx358_2 := cB_ HB hx358_2
   replace hx358_3 := cB_ HB hx358_3
   replace p358 := eq_true p358
   replace q358 := eq_true q358
   have p359 : 0 ≤ (x5_1 : Int) := dA_
   have q359 : x5_1 < (l1.length : Int) := dA_
   obtain ⟨ad359, e359, hx359_0, hx359_1, hx359_2, hx359_3⟩ := at_T76 a1.out x5_1 p359 q359
   have hw359_3 := hx359_3
   have hw359_2 := hx359_2
   have hw359_1 := hx359_1
   have hw359_0 := hx359_0
   cases e359
   replace hx359_0 := cB_ HB hx359_0
   replace hx359_1 := cB_ HB hx359_1
   replace hx359_2 := cB_ HB hx359_2
   replace hx359_3 := cB_ HB hx359_3
   replace p359 := eq_true p359
   replace q359 := eq_true q359
   refine start_ (n := 10) (S := fun w' => w'.cell? (ad358.add ((x5_1).toNat * 4)) = some (.int .i64 ((rd_T76 l0 x5_1).f0)) ∧ w'.cell? ⟨(ad358.add ((x5_1).toNat * 4)).block, (ad358.add ((x5_1).toNat * 4)).off + 1, none⟩ = some (.int .i64 ((rd_T76 l0 x5_1).f1)) ∧ w'.cell? ⟨(ad358.add ((x5_1).toNat * 4)).block, (ad358.add ((x5_1).toNat * 4)).off + 2, none⟩ = some (.int .i64 ((rd_T76 l0 x5_1).f2)) ∧ w'.cell? ⟨(ad358.add ((x5_1).toNat * 4)).block, (ad358.add ((x5_1).toNat * 4)).off + 3, none⟩ = some (.int .i64 ((rd_T76 l0 x5_1).f3)) ∧ w'.cell? (ad359.add ((x5_1).toNat * 4)) = some (.int .i64 ((rd_T76 l1 x5_1).f0)) ∧ w'.cell? ⟨(ad359.add ((x5_1).toNat * 4)).block, (ad359.add ((x5_1).toNat * 4)).off + 1, none⟩ = some (.int .i64 ((rd_T76 l1 x5_1).f1)) ∧ w'.cell? ⟨(ad359.add ((x5_1).toNat * 4)).block, (ad359.add ((x5_1).toNat * 4)).off + 2, none⟩ = some (.int .i64 ((rd_T76 l1 x5_1).f2)) ∧ w'.cell? ⟨(ad359.add ((x5_1).toNat * 4)).block, (ad359.add ((x5_1).toNat * 4)).off + 3, none⟩ = some (.int .i64 ((rd_T76 l1 x5_1).f3))) (ds := []) #[false, false, false, false, false, false, false, false, false, false] (by kernel_rfl) rfl rfl ⟨(cB_ HB hw358_0), (cB_ HB hw358_1), (cB_ HB hw358_2), (cB_ HB hw358_3), (cB_ HB hw359_0), (cB_ HB hw359_1), (cB_ HB hw359_2), (cB_ HB hw359_3)⟩ (fun hHeld => ?_); refine with_tabW laws_eqTermS.tab6 laws_eqTermS.bits6 (fun HT_ HW_ => ?_)
   generalize wr.drew = w9 at HB hx358_0 hx358_1 hx358_2 hx358_3 hx359_0 hx359_1 hx359_2 hx359_3 hHeld ⊢
   refine pure_ (i := 0) (N := some 17) (v := ?_) (a' := ?_) #[true, false, false, false, false, false, false, false, false, false] rfl rfl (any_of HT_.out (by kernel_rfl)) (fun _ _ _ h => h) (Or.inl ⟨by rfl, ?_⟩) ?_ ?_
   rotate_left
   ·intro w'
    go_simp
    with_reducible rfl
   rotate_left
   ·simp only [Act.put, lA_, lZ_, lS_, i64_w, i32_w]
    rfl
   refine pure_ (i := 1) (N := some 18) (v := ?_) (a' := ?_) #[true, true, false, false, false, false, false, false, false, false] rfl rfl (any_of HT_.out (by kernel_rfl)) (fun _ _ _ h => h) (Or.inl ⟨by rfl, ?_⟩) ?_ ?_
   rotate_left
   ·intro w'
    go_simp
    with_reducible rfl
   rotate_left
   ·simp only [Act.put, lA_, lZ_, lS_, i64_w, i32_w]
    rfl
   refine pure_ (i := 2) (N := some 19) (v := ?_) (a' := ?_) #[true, true, true, false, false, false, false, false, false, false] rfl rfl (any_of HT_.out (by kernel_rfl)) (fun _ _ _ h => h) (Or.inl ⟨by rfl, ?_⟩) ?_ ?_
   rotate_left
   ·intro w'
    go_simp
    with_reducible rfl
   rotate_left
   ·simp only [Act.put, lA_, lZ_, lS_, i64_w, i32_w]
    rfl
   refine pure_ (i := 4) (N := some 21) (v := ?_) (a' := ?_) #[true, true, true, false, true, false, false, false, false, false] rfl rfl (any_of HT_.out (by kernel_rfl)) (fun _ _ _ h => h) (Or.inl ⟨by rfl, ?_⟩) ?_ ?_
   rotate_left
   ·intro w'
    go_simp
    with_reducible rfl
   rotate_left
   ·simp only [Act.put, lA_, lZ_, lS_, i64_w, i32_w]
    rfl
   refine pure_ (i := 5) (N := some 22) (v := ?_) (a' := ?_) #[true, true, true, false, true, true, false, false, false, false] rfl rfl (any_of HT_.out (by kernel_rfl)) (fun _ _ _ h => h) (Or.inl ⟨by rfl, ?_⟩) ?_ ?_
   rotate_left
   ·intro w'
    go_simp
    with_reducible rfl
   rotate_left
   ·simp only [Act.put, lA_, lZ_, lS_, i64_w, i32_w]
    rfl
   refine pure_ (i := 6) (N := some 23) (v := ?_) (a' := ?_) #[true, true, true, false, true, true, true, false, false, false] rfl rfl (any_of HT_.out (by kernel_rfl)) (fun _ _ _ h => h) (Or.inl ⟨by rfl, ?_⟩) ?_ ?_
   rotate_left
   ·intro w'
    go_simp
    with_reducible rfl
   rotate_left
   ·simp only [Act.put, lA_, lZ_, lS_, i64_w, i32_w]
    rfl
   refine take_ (i := 3) (N := some 20) (v := ?_) (a' := ?_) #[true, true, true, true, true, true, true, false, false, false] rfl rfl (take_ofW HT_.out HW_.out (by kernel_rfl)) (fun _ _ _ h => h) (Or.inl ⟨by rfl, ?_⟩) hHeld ?_ ?_
   rotate_left
   ·rintro w' ⟨s0, s1, s2, s3, s4, s5, s6, s7⟩
    go_simp
    with_reducible rfl
   rotate_left
   ·simp only [Act.put, lA_, lZ_, lS_, i64_w, i32_w]
    rfl
   refine take_ (i := 7) (N := some 24) (v := ?_) (a' := ?_) #[true, true, true, true, true, true, true, true, false, false] rfl rfl (take_ofW HT_.out HW_.out (by kernel_rfl)) (fun _ _ _ h => h) (Or.inl ⟨by rfl, ?_⟩) hHeld ?_ ?_
   rotate_left
   ·rintro w' ⟨s0, s1, s2, s3, s4, s5, s6, s7⟩
    go_simp
    with_reducible rfl
   rotate_left
   ·simp only [Act.put, lA_, lZ_, lS_, i64_w, i32_w]
    rfl
   refine one_ (i := 8) (N := some 25) #[true, true, true, true, true, true, true, true, true, false] rfl rfl (one_of HT_.out (by kernel_rfl)) (by decide) (fun K hK => ?_)
   refine goes_ Try.func52 (by kernel_rfl) rfl #[.agg #[.int .i64 ((rd_T76 l0 x5_1).f0), .int .i64 ((rd_T76 l0 x5_1).f1), .int .i64 ((rd_T76 l0 x5_1).f2), .int .i64 ((rd_T76 l0 x5_1).f3)], .agg #[.int .i64 ((rd_T76 l1 x5_1).f0), .int .i64 ((rd_T76 l1 x5_1).f1), .int .i64 ((rd_T76 l1 x5_1).f2), .int .i64 ((rd_T76 l1 x5_1).f3)]] (by rfl) rfl rfl (by (try simp only [List.map_toArray, List.map_cons, List.map_nil]); first | done | rfl | (simp only [List.length_drop, List.length_take]; rfl)) ?_
   with_reducible refine (laws_eqTerm.calls ((rd_T76 l0 x5_1).f0) ((rd_T76 l0 x5_1).f1) ((rd_T76 l0 x5_1).f2) ((rd_T76 l0 x5_1).f3) ((rd_T76 l1 x5_1).f0) ((rd_T76 l1 x5_1).f1) ((rd_T76 l1 x5_1).f2) ((rd_T76 l1 x5_1).f3) true _ A7.out).mono ?_
   rintro e w10 ⟨rfl, hb⟩
   refine ⟨_, rfl, ?_⟩
   have n0_ := Z_ (lP_ Lb_ hb)
   clear HB
   have HB := n0_
   clear n0_
   (try clear hb)
   (try clear hb2)
   (try clear hk)
   (try clear hi)
   refine hK.out _ _ ⟨(cB_ HB hw358_0), (cB_ HB hw358_1), (cB_ HB hw358_2), (cB_ HB hw358_3), (cB_ HB hw359_0), (cB_ HB hw359_1), (cB_ HB hw359_2), (cB_ HB hw359_3)⟩ (fun hHeld => ?_)
   clear hK K
   refine norm_ (a' := ?_) ?_ ?_
   rotate_left
   ·show Act.put _ (some 25) _ = _
    simp only [Act.put, lA_, lZ_, lS_, i64_w, i32_w]
    rfl
   refine pure_ (i := 9) (N := some 26) (v := ?_) (a' := ?_) #[true, true, true, true, true, true, true, true, true, true] rfl rfl (any_of HT_.out (by kernel_rfl)) (fun _ _ _ h => h) (Or.inl ⟨by rfl, ?_⟩) ?_ ?_
   rotate_left
   ·intro w'
    go_simp
    with_reducible rfl
   rotate_left
   ·simp only [Act.put, lA_, lZ_, lS_, i64_w, i32_w]
    rfl
   refine done_ (done_of HT_.out (by kernel_rfl)) ?_
   try go_wp2
   go_roundg k1
   case measure => have := HK1.out; omega
   case rel => exact ⟨(wrap64 (x5_1 + 1)), Sr_, H', ⟨by have := HK1.out; omega⟩, ⟨Lb_⟩⟩
def laws_eqKeys.f (a0_0 a0_1 a0_2 a0_3 a1_0 a1_1 a1_2 a1_3 : Int) : Option (Bool) := if a0_0 = a1_0 then (if a0_1 = a1_1 then (if a0_2 = a1_2 then (if a0_3 = a1_3 then (some true) else (some false)) else (some false)) else (some false)) else (some false)
set_option maxHeartbeats 8000000 in
set_option maxRecDepth 100000 in
theorem laws_eqKeys.calls (a0_0 a0_1 a0_2 a0_3 a1_0 a1_1 a1_2 a1_3 : Int) (r : Bool) (w : World) (h : laws_eqKeys.f a0_0 a0_1 a0_2 a0_3 a1_0 a1_1 a1_2 a1_3 = some r) :
  Calls Try.prog 81 #[.agg #[.int .i64 a0_0, .int .i64 a0_1, .int .i64 a0_2, .int .i64 a0_3], .agg #[.int .i64 a1_0, .int .i64 a1_1, .int .i64 a1_2, .int .i64 a1_3]] w fun e w' => e = .returned (.bool r) ∧ Below w.heap.size w w' := by
 have hu79 := Try.underlying79
 have HB := Z_ (Below.refl w.heap.size w)
 unfold laws_eqKeys.f at h
 have H := h
 clear h
 replace H := iE_ H
 obtain ⟨c3b0, c3b1, H⟩ | ⟨c3b0, c3b1, H⟩ := H
 replace H := iE_ H
 obtain ⟨c4b0, c4b1, H⟩ | ⟨c4b0, c4b1, H⟩ := H
 replace H := iE_ H
 obtain ⟨c5b0, c5b1, H⟩ | ⟨c5b0, c5b1, H⟩ := H
 replace H := iE_ H
 obtain ⟨c6b0, c6b1, H⟩ | ⟨c6b0, c6b1, H⟩ := H
 all_goals
  obtain rfl := Option.some.inj H
  go_enter Try.func81, Try.ntmps81
  go_wp2_with (first | ((with_reducible refine gD_ 2 rfl ?_); refine bx_ #[.int .i64 a0_0, .int .i64 a0_1, .int .i64 a0_2, .int .i64 a0_3] 79 ?_; intro a3 hg w12 hbox hb; have a0 := Z_ hbox; have a5 := Z_ ((by rw [hg]; exact (below_size Lb_) : w.heap.size ≤ a3)); replace HB := Z_ (lP_ Lb_ hb); clear hb hbox hg) | ((with_reducible refine gD_ 3 rfl ?_); refine bx_ #[.int .i64 a1_0, .int .i64 a1_1, .int .i64 a1_2, .int .i64 a1_3] 79 ?_; intro a4 hg w13 hbox hb; have a6 := Z_ hbox; have a7 := Z_ ((by rw [hg]; exact (below_size HB.out) : w.heap.size ≤ a4)); replace HB := Z_ (lP_ HB.out hb); have a1 := Z_ ((by rw [hg]; exact Nat.ne_of_lt (blk_lt a0.out) : a3 ≠ a4)); replace a0 := Z_ (bB_ a0.out hb); have a2 := Z_ a1.out.symm; clear hb hbox hg; have a8 := a1.out; have a9 := a2.out; obtain ⟨_, _, _, _, _, _, _, _⟩ := bc4 a0.out; obtain ⟨_, _, _, _, _, _, _, _⟩ := bc4 a6.out))
  go_ret
  exact ⟨Er_, Lb_⟩
def laws_eqWindow.f (a0_0 a0_1 a1_0 a1_1 : Int) : Option (Bool) := if a0_0 = a1_0 then (if a0_1 = a1_1 then (some true) else (some false)) else (some false)
set_option maxHeartbeats 8000000 in
set_option maxRecDepth 100000 in
theorem laws_eqWindow.calls (a0_0 a0_1 a1_0 a1_1 : Int) (r : Bool) (w : World) (h : laws_eqWindow.f a0_0 a0_1 a1_0 a1_1 = some r) :
  Calls Try.prog 82 #[.agg #[.int .i64 a0_0, .int .i64 a0_1], .agg #[.int .i64 a1_0, .int .i64 a1_1]] w fun e w' => e = .returned (.bool r) ∧ Below w.heap.size w w' := by
 have hu81 := Try.underlying81
 have HB := Z_ (Below.refl w.heap.size w)
 unfold laws_eqWindow.f at h
 have H := h
 clear h
 replace H := iE_ H
 obtain ⟨c3b0, c3b1, H⟩ | ⟨c3b0, c3b1, H⟩ := H
 replace H := iE_ H
 obtain ⟨c4b0, c4b1, H⟩ | ⟨c4b0, c4b1, H⟩ := H
 all_goals
  obtain rfl := Option.some.inj H
  go_enter Try.func82, Try.ntmps82
  go_wp2_with (first | ((with_reducible refine gD_ 2 rfl ?_); refine bx_ #[.int .i64 a0_0, .int .i64 a0_1] 81 ?_; intro a3 hg w10 hbox hb; have a0 := Z_ hbox; have a5 := Z_ ((by rw [hg]; exact (below_size Lb_) : w.heap.size ≤ a3)); replace HB := Z_ (lP_ Lb_ hb); clear hb hbox hg) | ((with_reducible refine gD_ 3 rfl ?_); refine bx_ #[.int .i64 a1_0, .int .i64 a1_1] 81 ?_; intro a4 hg w11 hbox hb; have a6 := Z_ hbox; have a7 := Z_ ((by rw [hg]; exact (below_size HB.out) : w.heap.size ≤ a4)); replace HB := Z_ (lP_ HB.out hb); have a1 := Z_ ((by rw [hg]; exact Nat.ne_of_lt (blk_lt a0.out) : a3 ≠ a4)); replace a0 := Z_ (bB_ a0.out hb); have a2 := Z_ a1.out.symm; clear hb hbox hg; have a8 := a1.out; have a9 := a2.out; obtain ⟨_, _, _, _⟩ := bc2 a0.out; obtain ⟨_, _, _, _⟩ := bc2 a6.out))
  go_ret
  exact ⟨Er_, Lb_⟩
def laws_eqTalk.f (a0_0 a0_1 a0_2 a0_3 a0_4 a0_5 a0_6 a0_7 a0_8 a0_9 a0_10 a0_11 a0_12 a0_13 a0_14 a0_15 a0_16 a0_17 a0_18 a0_19 a1_0 a1_1 a1_2 a1_3 a1_4 a1_5 a1_6 a1_7 a1_8 a1_9 a1_10 a1_11 a1_12 a1_13 a1_14 a1_15 a1_16 a1_17 a1_18 a1_19 : Int) : Option (Bool) := if a0_0 = a1_0 then (if a0_1 = a1_1 then (if a0_2 = a1_2 then (if a0_3 = a1_3 then (if a0_4 = a1_4 then (if a0_5 = a1_5 then (if a0_6 = a1_6 then (if a0_7 = a1_7 then (if a0_8 = a1_8 then (if a0_9 = a1_9 then (if a0_10 = a1_10 then ((laws_eqKeys.f a0_11 a0_12 a0_13 a0_14 a1_11 a1_12 a1_13 a1_14).bind fun t367 => (if t367 = true then (if a0_15 = a1_15 then (if a0_16 = a1_16 then (if a0_17 = a1_17 then ((laws_eqWindow.f a0_18 a0_19 a1_18 a1_19).bind fun t368 => (if t368 = true then (some true) else (some false))) else (some false)) else (some false)) else (some false)) else (some false))) else (some false)) else (some false)) else (some false)) else (some false)) else (some false)) else (some false)) else (some false)) else (some false)) else (some false)) else (some false)) else (some false)
set_option maxHeartbeats 8000000 in
set_option maxRecDepth 100000 in
theorem laws_eqTalk.calls (a0_0 a0_1 a0_2 a0_3 a0_4 a0_5 a0_6 a0_7 a0_8 a0_9 a0_10 a0_11 a0_12 a0_13 a0_14 a0_15 a0_16 a0_17 a0_18 a0_19 a1_0 a1_1 a1_2 a1_3 a1_4 a1_5 a1_6 a1_7 a1_8 a1_9 a1_10 a1_11 a1_12 a1_13 a1_14 a1_15 a1_16 a1_17 a1_18 a1_19 : Int) (r : Bool) (w : World) (h : laws_eqTalk.f a0_0 a0_1 a0_2 a0_3 a0_4 a0_5 a0_6 a0_7 a0_8 a0_9 a0_10 a0_11 a0_12 a0_13 a0_14 a0_15 a0_16 a0_17 a0_18 a0_19 a1_0 a1_1 a1_2 a1_3 a1_4 a1_5 a1_6 a1_7 a1_8 a1_9 a1_10 a1_11 a1_12 a1_13 a1_14 a1_15 a1_16 a1_17 a1_18 a1_19 = some r) :
  Calls Try.prog 77 #[.agg #[.int .i64 a0_0, .int .i64 a0_1, .int .i64 a0_2, .int .i64 a0_3, .int .i64 a0_4, .int .i64 a0_5, .int .i64 a0_6, .int .i64 a0_7, .int .i64 a0_8, .int .i64 a0_9, .int .i64 a0_10, .int .i64 a0_11, .int .i64 a0_12, .int .i64 a0_13, .int .i64 a0_14, .int .i64 a0_15, .int .i64 a0_16, .int .i64 a0_17, .int .i64 a0_18, .int .i64 a0_19], .agg #[.int .i64 a1_0, .int .i64 a1_1, .int .i64 a1_2, .int .i64 a1_3, .int .i64 a1_4, .int .i64 a1_5, .int .i64 a1_6, .int .i64 a1_7, .int .i64 a1_8, .int .i64 a1_9, .int .i64 a1_10, .int .i64 a1_11, .int .i64 a1_12, .int .i64 a1_13, .int .i64 a1_14, .int .i64 a1_15, .int .i64 a1_16, .int .i64 a1_17, .int .i64 a1_18, .int .i64 a1_19]] w fun e w' => e = .returned (.bool r) ∧ Below w.heap.size w w' := by
 have hu83 := Try.underlying83
 have hu79 := Try.underlying79
 have hu81 := Try.underlying81
 have HB := Z_ (Below.refl w.heap.size w)
 unfold laws_eqTalk.f at h
 have H := h
 clear h
 replace H := iE_ H
 obtain ⟨c3b0, c3b1, H⟩ | ⟨c3b0, c3b1, H⟩ := H
 replace H := iE_ H
 obtain ⟨c4b0, c4b1, H⟩ | ⟨c4b0, c4b1, H⟩ := H
 replace H := iE_ H
 obtain ⟨c5b0, c5b1, H⟩ | ⟨c5b0, c5b1, H⟩ := H
 replace H := iE_ H
 obtain ⟨c6b0, c6b1, H⟩ | ⟨c6b0, c6b1, H⟩ := H
 replace H := iE_ H
 obtain ⟨c7b0, c7b1, H⟩ | ⟨c7b0, c7b1, H⟩ := H
 replace H := iE_ H
 obtain ⟨c8b0, c8b1, H⟩ | ⟨c8b0, c8b1, H⟩ := H
 replace H := iE_ H
 obtain ⟨c9b0, c9b1, H⟩ | ⟨c9b0, c9b1, H⟩ := H
 replace H := iE_ H
 obtain ⟨c10b0, c10b1, H⟩ | ⟨c10b0, c10b1, H⟩ := H
 replace H := iE_ H
 obtain ⟨c11b0, c11b1, H⟩ | ⟨c11b0, c11b1, H⟩ := H
 replace H := iE_ H
 obtain ⟨c12b0, c12b1, H⟩ | ⟨c12b0, c12b1, H⟩ := H
 replace H := iE_ H
 obtain ⟨c13b0, c13b1, H⟩ | ⟨c13b0, c13b1, H⟩ := H
 replace H := bS_ H
 obtain ⟨t367, a8, H⟩ := H
 replace H := iB_ H
 obtain ⟨rfl, H⟩ | ⟨rfl, H⟩ := H
 replace H := iE_ H
 obtain ⟨c16b0, c16b1, H⟩ | ⟨c16b0, c16b1, H⟩ := H
 replace H := iE_ H
 obtain ⟨c17b0, c17b1, H⟩ | ⟨c17b0, c17b1, H⟩ := H
 replace H := iE_ H
 obtain ⟨c18b0, c18b1, H⟩ | ⟨c18b0, c18b1, H⟩ := H
 replace H := bS_ H
 obtain ⟨t368, ab, H⟩ := H
 replace H := iB_ H
 obtain ⟨rfl, H⟩ | ⟨rfl, H⟩ := H
 all_goals
  obtain rfl := Option.some.inj H
  go_enter Try.func77, Try.ntmps77
  go_wp2_with (first | ((with_reducible refine gD_ 2 rfl ?_); refine bx_ #[.int .i64 a0_0, .int .i64 a0_1, .int .i64 a0_2, .int .i64 a0_3, .int .i64 a0_4, .int .i64 a0_5, .int .i64 a0_6, .int .i64 a0_7, .int .i64 a0_8, .int .i64 a0_9, .int .i64 a0_10, .int .i64 a0_11, .int .i64 a0_12, .int .i64 a0_13, .int .i64 a0_14, .int .i64 a0_15, .int .i64 a0_16, .int .i64 a0_17, .int .i64 a0_18, .int .i64 a0_19] 83 ?_; intro a4 hg w104 hbox hb; have a0 := Z_ hbox; have a6 := Z_ ((by rw [hg]; exact (below_size Lb_) : w.heap.size ≤ a4)); replace HB := Z_ (lP_ Lb_ hb); clear hb hbox hg) | ((with_reducible refine gD_ 3 rfl ?_); refine bx_ #[.int .i64 a1_0, .int .i64 a1_1, .int .i64 a1_2, .int .i64 a1_3, .int .i64 a1_4, .int .i64 a1_5, .int .i64 a1_6, .int .i64 a1_7, .int .i64 a1_8, .int .i64 a1_9, .int .i64 a1_10, .int .i64 a1_11, .int .i64 a1_12, .int .i64 a1_13, .int .i64 a1_14, .int .i64 a1_15, .int .i64 a1_16, .int .i64 a1_17, .int .i64 a1_18, .int .i64 a1_19] 83 ?_; intro a5 hg w100 hbox hb; have a3 := Z_ hbox; have a7 := Z_ ((by rw [hg]; exact (below_size HB.out) : w.heap.size ≤ a5)); replace HB := Z_ (lP_ HB.out hb); have a1 := Z_ ((by rw [hg]; exact Nat.ne_of_lt (blk_lt a0.out) : a4 ≠ a5)); replace a0 := Z_ (bB_ a0.out hb); have a2 := Z_ a1.out.symm; clear hb hbox hg; have ac := a1.out; have ad := a2.out; obtain ⟨_, _, _, _, _, _, _, _, _, _, _, _, _, _, _, _, _, _, _, _, _, _, _, _, _, _, _, _, _, _, _, _, _, _, _, _, _, _, _, _⟩ := bc20 a0.out; obtain ⟨_, _, _, _, _, _, _, _, _, _, _, _, _, _, _, _, _, _, _, _, _, _, _, _, _, _, _, _, _, _, _, _, _, _, _, _, _, _, _, _⟩ := bc20 a3.out) | ((with_reducible refine gate_callee (f := 81) rfl ?_); refine goesA_ (some 64) rfl rfl Try.func81 (by kernel_rfl) rfl #[.agg #[.int .i64 a0_11, .int .i64 a0_12, .int .i64 a0_13, .int .i64 a0_14], .agg #[.int .i64 a1_11, .int .i64 a1_12, .int .i64 a1_13, .int .i64 a1_14]] rfl ?_; (with_reducible refine (laws_eqKeys.calls a0_11 a0_12 a0_13 a0_14 a1_11 a1_12 a1_13 a1_14 _ _ a8.out).mono ?_); rintro e w26 ⟨rfl, hb⟩; refine ⟨_, rfl, ?_⟩; replace a0 := Z_ (bB_ a0.out hb); replace a3 := Z_ (bB_ a3.out hb); replace HB := Z_ (lP_ HB.out hb); (try clear hb); obtain ⟨_, _, _, _, _, _, _, _, _, _, _, _, _, _, _, _, _, _, _, _, _, _, _, _, _, _, _, _, _, _, _, _, _, _, _, _, _, _, _, _⟩ := bc20 a0.out; obtain ⟨_, _, _, _, _, _, _, _, _, _, _, _, _, _, _, _, _, _, _, _, _, _, _, _, _, _, _, _, _, _, _, _, _, _, _, _, _, _, _, _⟩ := bc20 a3.out) | ((with_reducible refine gate_callee (f := 82) rfl ?_); refine goesA_ (some 85) rfl rfl Try.func82 (by kernel_rfl) rfl #[.agg #[.int .i64 a0_18, .int .i64 a0_19], .agg #[.int .i64 a1_18, .int .i64 a1_19]] rfl ?_; (with_reducible refine (laws_eqWindow.calls a0_18 a0_19 a1_18 a1_19 _ _ ab.out).mono ?_); rintro e w29 ⟨rfl, hb⟩; refine ⟨_, rfl, ?_⟩; replace HB := Z_ (lP_ (by repeat (first | (with_reducible first | exact HB.out | refine lS1_ ?_ a6.out | refine lS1_ ?_ a7.out) | exact HB.out)) hb); (try clear hb)))
  go_ret
  exact ⟨Er_, Lb_⟩
def laws_eqTalkS.l0 : Nat → List (S83) → List (S83) → Int → Option (Bool)
 | 0, _, _, _ => none
 | k + 1, x0, x1, x5 => if x5 < (x0.length : Int) then (if 0 ≤ x5 then (if x5 < (x1.length : Int) then ((laws_eqTalk.f ((rd_T83 x0 x5).f0) ((rd_T83 x0 x5).f1) ((rd_T83 x0 x5).f2) ((rd_T83 x0 x5).f3) ((rd_T83 x0 x5).f4) ((rd_T83 x0 x5).f5) ((rd_T83 x0 x5).f6) ((rd_T83 x0 x5).f7) ((rd_T83 x0 x5).f8) ((rd_T83 x0 x5).f9) ((rd_T83 x0 x5).f10) ((rd_T83 x0 x5).f11.f0) ((rd_T83 x0 x5).f11.f1) ((rd_T83 x0 x5).f11.f2) ((rd_T83 x0 x5).f11.f3) ((rd_T83 x0 x5).f12) ((rd_T83 x0 x5).f13) ((rd_T83 x0 x5).f14) ((rd_T83 x0 x5).f15.f0) ((rd_T83 x0 x5).f15.f1) ((rd_T83 x1 x5).f0) ((rd_T83 x1 x5).f1) ((rd_T83 x1 x5).f2) ((rd_T83 x1 x5).f3) ((rd_T83 x1 x5).f4) ((rd_T83 x1 x5).f5) ((rd_T83 x1 x5).f6) ((rd_T83 x1 x5).f7) ((rd_T83 x1 x5).f8) ((rd_T83 x1 x5).f9) ((rd_T83 x1 x5).f10) ((rd_T83 x1 x5).f11.f0) ((rd_T83 x1 x5).f11.f1) ((rd_T83 x1 x5).f11.f2) ((rd_T83 x1 x5).f11.f3) ((rd_T83 x1 x5).f12) ((rd_T83 x1 x5).f13) ((rd_T83 x1 x5).f14) ((rd_T83 x1 x5).f15.f0) ((rd_T83 x1 x5).f15.f1)).bind fun t371 => (if t371 = true then (laws_eqTalkS.l0 k x0 x1 (wrap64 (x5 + 1))) else (some false))) else (none)) else (none)) else (some true)
def laws_eqTalkS.f (k : Nat) (l0 l1 : List (S83)) : Option (Bool) := if (l0.length : Int) = (l1.length : Int) then (laws_eqTalkS.l0 k l0 l1 0) else (some false)
def laws_eqTalkS.T6 : Bool × List (List Nat × List Nat) := (true, [([], []), ([], []), ([0, 1], [0, 1]), ([2], [2]), ([], []), ([], []), ([4, 5], [4, 5]), ([6], [6]), ([3, 7], [3, 7]), ([8], [8])])
def laws_eqTalkS.B6 : List Nat := [0, 0, 3, 7, 0, 0, 48, 112, 255, 511]
theorem laws_eqTalkS.tab6 : rtab .any (opsOf Try.f69 6) = laws_eqTalkS.T6 := by kernel_rfl
theorem laws_eqTalkS.bits6 : waitsOk laws_eqTalkS.T6.2 laws_eqTalkS.B6 = true := by kernel_rfl
set_option maxHeartbeats 8000000 in
set_option maxRecDepth 100000 in
theorem laws_eqTalkS.calls (k : Nat) (A0 : Option Addr) (c0 : Nat) (l0 : List (S83)) (A1 : Option Addr) (c1 : Nat) (l1 : List (S83)) (r : Bool) (w : World) (hr0 : Kd.C k83 w A0 l0.length l0) (hc0 : l0.length ≤ c0) (hr1 : Kd.C k83 w A1 l1.length l1) (hc1 : l1.length ≤ c1) (h : laws_eqTalkS.f k l0 l1 = some r) :
  Calls Try.prog 69 #[.slice A0 l0.length c0, .slice A1 l1.length c1] w fun e w' => e = .returned (.bool r) ∧ Below w.heap.size w w' := by
 have hu83 := Try.underlying83
 have a0 := Z_ hr0
 have a3 := Z_ hc0
 clear hr0 hc0
 have a1 := Z_ hr1
 have a4 := Z_ hc1
 clear hr1 hc1
 have HB := Z_ (Below.refl w.heap.size w)
 unfold laws_eqTalkS.f at h
 have H := h
 clear h
 replace H := iC_ H
 obtain ⟨c3, H⟩ | ⟨c3, H⟩ := H
 rotate_left
 ·have c3b0 : ((l0.length : Int) == (l1.length : Int)) = false := beq_eq_false_iff_ne.mpr c3
  have c3b1 : ((l0.length : Int) != (l1.length : Int)) = true := bne_iff_ne.mpr c3
  have c3b2 : (l0.length == l1.length) = false := by first | simpa using c3 | (simp at c3 ⊢; omega)
  obtain rfl := Option.some.inj H
  go_enter Try.func69, Try.ntmps69
  go_wp2
  go_ret
  exact ⟨Er_, Lb_⟩
 rotate_right
 have c3b0 : ((l0.length : Int) == (l1.length : Int)) = true := beq_iff_eq.mpr c3
 have c3b1 : ((l0.length : Int) != (l1.length : Int)) = false := bne_eq_false_iff_eq.mpr c3
 have c3b2 : (l0.length == l1.length) = true := by first | simpa using c3 | (simp at c3 ⊢; omega)
 clear c3
 have H' := Z_ H
 clear H
 go_enter Try.func69, Try.ntmps69
 go_wp2
 go_loopg [5] k (fun kq v5 w' => ∃ (x5_1 : Int), v5 = .int .i64 x5_1 ∧ Aside0 (laws_eqTalkS.l0 kq l0 l1 x5_1 = some r) ∧ Aside0 (kq ≤ k) ∧ Aside0 (Below w.heap.size w w'))
 case atStart => exact ⟨(0), Sr_, H', ⟨Nat.le_refl _⟩, ⟨Lb_⟩⟩
 case round =>
  clear H'
  try clear c1
  try clear p2
  try clear c3
  try clear c3b0
  try clear c3b1
  try clear c3b2
  obtain ⟨x5_1, rfl, HA, HK1, HB⟩ := hrel
  cases gk with
  | zero => exact absurd HA.out (by simp [laws_eqTalkS.l0])
  | succ k1 =>
   have H := HA.out
   clear HA
   simp only [laws_eqTalkS.l0] at H
   replace H := iD_ H
   obtain ⟨c4b0, H⟩ | ⟨c4b0, H⟩ := H
   rotate_left
   ·obtain rfl := Option.some.inj H
    go_wp2
    go_ret
    exact ⟨Er_, Lb_⟩
   rotate_right
   replace H := iM_ H
   obtain ⟨c5b0, H⟩ := H
   replace H := iM_ H
   obtain ⟨c6b0, H⟩ := H
   replace H := bS_ H
   obtain ⟨t371, A7, H⟩ := H
   replace H := iB_ H
   obtain ⟨rfl, H⟩ | ⟨rfl, H⟩ := H
   rotate_left
   ·obtain rfl := Option.some.inj H
    try go_wp2
    have n0_ := Z_ (lD_ HB.out)
    clear HB
    have HB := n0_
    clear n0_
    have p369 : 0 ≤ (x5_1 : Int) := dA_
    have q369 : x5_1 < (l0.length : Int) := dA_
    obtain ⟨ad369, e369, hL369⟩ := at_L83 a0.out x5_1 p369 q369
    have hW369 := hL369
    cases e369
    replace hL369 := RowAt.below (B := 0) hL369 HB.out
    replace p369 := eq_true p369
    replace q369 := eq_true q369
    have p370 : 0 ≤ (x5_1 : Int) := dA_
    have q370 : x5_1 < (l1.length : Int) := dA_
    obtain ⟨ad370, e370, hL370⟩ := at_L83 a1.out x5_1 p370 q370
    have hW370 := hL370
    cases e370
    replace hL370 := RowAt.below (B := 0) hL370 HB.out
    replace p370 := eq_true p370
    replace q370 := eq_true q370
    refine start_ (n := 10) (S := fun w' => RowAt w' (ad369.add ((x5_1).toNat * 20)) [.int .i64 ((rd_T83 l0 x5_1).f0), .int .i64 ((rd_T83 l0 x5_1).f1), .int .i64 ((rd_T83 l0 x5_1).f2), .int .i64 ((rd_T83 l0 x5_1).f3), .int .i64 ((rd_T83 l0 x5_1).f4), .int .i64 ((rd_T83 l0 x5_1).f5), .int .i64 ((rd_T83 l0 x5_1).f6), .int .i64 ((rd_T83 l0 x5_1).f7), .int .i64 ((rd_T83 l0 x5_1).f8), .int .i64 ((rd_T83 l0 x5_1).f9), .int .i64 ((rd_T83 l0 x5_1).f10), .int .i64 ((rd_T83 l0 x5_1).f11.f0), .int .i64 ((rd_T83 l0 x5_1).f11.f1), .int .i64 ((rd_T83 l0 x5_1).f11.f2), .int .i64 ((rd_T83 l0 x5_1).f11.f3), .int .i64 ((rd_T83 l0 x5_1).f12), .int .i64 ((rd_T83 l0 x5_1).f13), .int .i64 ((rd_T83 l0 x5_1).f14), .int .i64 ((rd_T83 l0 x5_1).f15.f0), .int .i64 ((rd_T83 l0 x5_1).f15.f1)] ∧ RowAt w' (ad370.add ((x5_1).toNat * 20)) [.int .i64 ((rd_T83 l1 x5_1).f0), .int .i64 ((rd_T83 l1 x5_1).f1), .int .i64 ((rd_T83 l1 x5_1).f2), .int .i64 ((rd_T83 l1 x5_1).f3), .int .i64 ((rd_T83 l1 x5_1).f4), .int .i64 ((rd_T83 l1 x5_1).f5), .int .i64 ((rd_T83 l1 x5_1).f6), .int .i64 ((rd_T83 l1 x5_1).f7), .int .i64 ((rd_T83 l1 x5_1).f8), .int .i64 ((rd_T83 l1 x5_1).f9), .int .i64 ((rd_T83 l1 x5_1).f10), .int .i64 ((rd_T83 l1 x5_1).f11.f0), .int .i64 ((rd_T83 l1 x5_1).f11.f1), .int .i64 ((rd_T83 l1 x5_1).f11.f2), .int .i64 ((rd_T83 l1 x5_1).f11.f3), .int .i64 ((rd_T83 l1 x5_1).f12), .int .i64 ((rd_T83 l1 x5_1).f13), .int .i64 ((rd_T83 l1 x5_1).f14), .int .i64 ((rd_T83 l1 x5_1).f15.f0), .int .i64 ((rd_T83 l1 x5_1).f15.f1)]) (ds := []) #[false, false, false, false, false, false, false, false, false, false] (by kernel_rfl) rfl rfl ⟨(RowAt.below (B := 0) hW369 HB.out), (RowAt.below (B := 0) hW370 HB.out)⟩ (fun hHeld => ?_); refine with_tabW laws_eqTalkS.tab6 laws_eqTalkS.bits6 (fun HT_ HW_ => ?_)
    generalize wr.drew = w11 at HB hL369 hL370 hHeld ⊢
    refine pure_ (i := 0) (N := some 17) (v := ?_) (a' := ?_) #[true, false, false, false, false, false, false, false, false, false] rfl rfl (any_of HT_.out (by kernel_rfl)) (fun _ _ _ h => h) (Or.inl ⟨by rfl, ?_⟩) ?_ ?_
    rotate_left
    ·intro w'
     go_simp
     with_reducible rfl
    rotate_left
    ·simp only [Act.put, lA_, lZ_, lS_, i64_w, i32_w]
     rfl
    refine pure_ (i := 1) (N := some 18) (v := ?_) (a' := ?_) #[true, true, false, false, false, false, false, false, false, false] rfl rfl (any_of HT_.out (by kernel_rfl)) (fun _ _ _ h => h) (Or.inl ⟨by rfl, ?_⟩) ?_ ?_
    rotate_left
    ·intro w'
     go_simp
     with_reducible rfl
    rotate_left
    ·simp only [Act.put, lA_, lZ_, lS_, i64_w, i32_w]
     rfl
    refine pure_ (i := 2) (N := some 19) (v := ?_) (a' := ?_) #[true, true, true, false, false, false, false, false, false, false] rfl rfl (any_of HT_.out (by kernel_rfl)) (fun _ _ _ h => h) (Or.inl ⟨by rfl, ?_⟩) ?_ ?_
    rotate_left
    ·intro w'
     go_simp
     with_reducible rfl
    rotate_left
    ·simp only [Act.put, lA_, lZ_, lS_, i64_w, i32_w]
     rfl
    refine pure_ (i := 4) (N := some 21) (v := ?_) (a' := ?_) #[true, true, true, false, true, false, false, false, false, false] rfl rfl (any_of HT_.out (by kernel_rfl)) (fun _ _ _ h => h) (Or.inl ⟨by rfl, ?_⟩) ?_ ?_
    rotate_left
    ·intro w'
     go_simp
     with_reducible rfl
    rotate_left
    ·simp only [Act.put, lA_, lZ_, lS_, i64_w, i32_w]
     rfl
    refine pure_ (i := 5) (N := some 22) (v := ?_) (a' := ?_) #[true, true, true, false, true, true, false, false, false, false] rfl rfl (any_of HT_.out (by kernel_rfl)) (fun _ _ _ h => h) (Or.inl ⟨by rfl, ?_⟩) ?_ ?_
    rotate_left
    ·intro w'
     go_simp
     with_reducible rfl
    rotate_left
    ·simp only [Act.put, lA_, lZ_, lS_, i64_w, i32_w]
     rfl
    refine pure_ (i := 6) (N := some 23) (v := ?_) (a' := ?_) #[true, true, true, false, true, true, true, false, false, false] rfl rfl (any_of HT_.out (by kernel_rfl)) (fun _ _ _ h => h) (Or.inl ⟨by rfl, ?_⟩) ?_ ?_
    rotate_left
    ·intro w'
     go_simp
     with_reducible rfl
    rotate_left
    ·simp only [Act.put, lA_, lZ_, lS_, i64_w, i32_w]
     rfl
    refine take_ (i := 3) (N := some 20) (v := ?_) (a' := ?_) #[true, true, true, true, true, true, true, false, false, false] rfl rfl (take_ofW HT_.out HW_.out (by kernel_rfl)) (fun _ _ _ h => h) (Or.inl ⟨by rfl, ?_⟩) hHeld ?_ ?_
    rotate_left
    ·rintro w' ⟨s0, s1⟩
     first | (refine (exec_loadRow (by rfl) (by rfl) s0 Try.underlying83 rfl size83_).trans ?_; with_reducible rfl) | (refine (exec_loadRow (by rfl) (by rfl) s0 Try.underlying118 rfl size118_).trans ?_; with_reducible rfl) | (refine (exec_loadRow (by rfl) (by rfl) s1 Try.underlying83 rfl size83_).trans ?_; with_reducible rfl) | (refine (exec_loadRow (by rfl) (by rfl) s1 Try.underlying118 rfl size118_).trans ?_; with_reducible rfl) | (go_simp; with_reducible rfl)
    rotate_left
    ·simp only [Act.put, lA_, lZ_, lS_, i64_w, i32_w]
     rfl
    refine take_ (i := 7) (N := some 24) (v := ?_) (a' := ?_) #[true, true, true, true, true, true, true, true, false, false] rfl rfl (take_ofW HT_.out HW_.out (by kernel_rfl)) (fun _ _ _ h => h) (Or.inl ⟨by rfl, ?_⟩) hHeld ?_ ?_
    rotate_left
    ·rintro w' ⟨s0, s1⟩
     first | (refine (exec_loadRow (by rfl) (by rfl) s0 Try.underlying83 rfl size83_).trans ?_; with_reducible rfl) | (refine (exec_loadRow (by rfl) (by rfl) s0 Try.underlying118 rfl size118_).trans ?_; with_reducible rfl) | (refine (exec_loadRow (by rfl) (by rfl) s1 Try.underlying83 rfl size83_).trans ?_; with_reducible rfl) | (refine (exec_loadRow (by rfl) (by rfl) s1 Try.underlying118 rfl size118_).trans ?_; with_reducible rfl) | (go_simp; with_reducible rfl)
    rotate_left
    ·simp only [Act.put, lA_, lZ_, lS_, i64_w, i32_w]
     rfl
    refine one_ (i := 8) (N := some 25) #[true, true, true, true, true, true, true, true, true, false] rfl rfl (one_of HT_.out (by kernel_rfl)) (by decide) (fun K hK => ?_)
    refine goes_ Try.func77 (by kernel_rfl) rfl #[.agg #[.int .i64 ((rd_T83 l0 x5_1).f0), .int .i64 ((rd_T83 l0 x5_1).f1), .int .i64 ((rd_T83 l0 x5_1).f2), .int .i64 ((rd_T83 l0 x5_1).f3), .int .i64 ((rd_T83 l0 x5_1).f4), .int .i64 ((rd_T83 l0 x5_1).f5), .int .i64 ((rd_T83 l0 x5_1).f6), .int .i64 ((rd_T83 l0 x5_1).f7), .int .i64 ((rd_T83 l0 x5_1).f8), .int .i64 ((rd_T83 l0 x5_1).f9), .int .i64 ((rd_T83 l0 x5_1).f10), .int .i64 ((rd_T83 l0 x5_1).f11.f0), .int .i64 ((rd_T83 l0 x5_1).f11.f1), .int .i64 ((rd_T83 l0 x5_1).f11.f2), .int .i64 ((rd_T83 l0 x5_1).f11.f3), .int .i64 ((rd_T83 l0 x5_1).f12), .int .i64 ((rd_T83 l0 x5_1).f13), .int .i64 ((rd_T83 l0 x5_1).f14), .int .i64 ((rd_T83 l0 x5_1).f15.f0), .int .i64 ((rd_T83 l0 x5_1).f15.f1)], .agg #[.int .i64 ((rd_T83 l1 x5_1).f0), .int .i64 ((rd_T83 l1 x5_1).f1), .int .i64 ((rd_T83 l1 x5_1).f2), .int .i64 ((rd_T83 l1 x5_1).f3), .int .i64 ((rd_T83 l1 x5_1).f4), .int .i64 ((rd_T83 l1 x5_1).f5), .int .i64 ((rd_T83 l1 x5_1).f6), .int .i64 ((rd_T83 l1 x5_1).f7), .int .i64 ((rd_T83 l1 x5_1).f8), .int .i64 ((rd_T83 l1 x5_1).f9), .int .i64 ((rd_T83 l1 x5_1).f10), .int .i64 ((rd_T83 l1 x5_1).f11.f0), .int .i64 ((rd_T83 l1 x5_1).f11.f1), .int .i64 ((rd_T83 l1 x5_1).f11.f2), .int .i64 ((rd_T83 l1 x5_1).f11.f3), .int .i64 ((rd_T83 l1 x5_1).f12), .int .i64 ((rd_T83 l1 x5_1).f13), .int .i64 ((rd_T83 l1 x5_1).f14), .int .i64 ((rd_T83 l1 x5_1).f15.f0), .int .i64 ((rd_T83 l1 x5_1).f15.f1)]] (by rfl) rfl rfl (by (try simp only [List.map_toArray, List.map_cons, List.map_nil]); first | done | rfl | (simp only [List.length_drop, List.length_take]; rfl)) ?_
    with_reducible refine (laws_eqTalk.calls ((rd_T83 l0 x5_1).f0) ((rd_T83 l0 x5_1).f1) ((rd_T83 l0 x5_1).f2) ((rd_T83 l0 x5_1).f3) ((rd_T83 l0 x5_1).f4) ((rd_T83 l0 x5_1).f5) ((rd_T83 l0 x5_1).f6) ((rd_T83 l0 x5_1).f7) ((rd_T83 l0 x5_1).f8) ((rd_T83 l0 x5_1).f9) ((rd_T83 l0 x5_1).f10) ((rd_T83 l0 x5_1).f11.f0) ((rd_T83 l0 x5_1).f11.f1) ((rd_T83 l0 x5_1).f11.f2) ((rd_T83 l0 x5_1).f11.f3) ((rd_T83 l0 x5_1).f12) ((rd_T83 l0 x5_1).f13) ((rd_T83 l0 x5_1).f14) ((rd_T83 l0 x5_1).f15.f0) ((rd_T83 l0 x5_1).f15.f1) ((rd_T83 l1 x5_1).f0) ((rd_T83 l1 x5_1).f1) ((rd_T83 l1 x5_1).f2) ((rd_T83 l1 x5_1).f3) ((rd_T83 l1 x5_1).f4) ((rd_T83 l1 x5_1).f5) ((rd_T83 l1 x5_1).f6) ((rd_T83 l1 x5_1).f7) ((rd_T83 l1 x5_1).f8) ((rd_T83 l1 x5_1).f9) ((rd_T83 l1 x5_1).f10) ((rd_T83 l1 x5_1).f11.f0) ((rd_T83 l1 x5_1).f11.f1) ((rd_T83 l1 x5_1).f11.f2) ((rd_T83 l1 x5_1).f11.f3) ((rd_T83 l1 x5_1).f12) ((rd_T83 l1 x5_1).f13) ((rd_T83 l1 x5_1).f14) ((rd_T83 l1 x5_1).f15.f0) ((rd_T83 l1 x5_1).f15.f1) false _ A7.out).mono ?_
    rintro e w12 ⟨rfl, hb⟩
    refine ⟨_, rfl, ?_⟩
    have n0_ := Z_ (lP_ Lb_ hb)
    clear HB
    have HB := n0_
    clear n0_
    (try clear hb)
    (try clear hb2)
    (try clear hk)
    (try clear hi)
    refine hK.out _ _ ⟨(RowAt.below (B := 0) hW369 HB.out), (RowAt.below (B := 0) hW370 HB.out)⟩ (fun hHeld => ?_)
    clear hK K
    refine norm_ (a' := ?_) ?_ ?_
    rotate_left
    ·show Act.put _ (some 25) _ = _
     simp only [Act.put, lA_, lZ_, lS_, i64_w, i32_w]
     rfl
    refine pure_ (i := 9) (N := some 26) (v := ?_) (a' := ?_) #[true, true, true, true, true, true, true, true, true, true] rfl rfl (any_of HT_.out (by kernel_rfl)) (fun _ _ _ h => h) (Or.inl ⟨by rfl, ?_⟩) ?_ ?_
    rotate_left
    ·intro w'
     go_simp
     with_reducible rfl
    rotate_left
    ·simp only [Act.put, lA_, lZ_, lS_, i64_w, i32_w]
     rfl
    refine done_ (done_of HT_.out (by kernel_rfl)) ?_
    try go_wp2
    go_ret
    exact ⟨Er_, Lb_⟩
   rotate_right
   have H' := Z_ H
   clear H
   try go_wp2
   have n0_ := Z_ (lD_ HB.out)
   clear HB
   have HB := n0_
   clear n0_
   have p369 : 0 ≤ (x5_1 : Int) := dA_
   have q369 : x5_1 < (l0.length : Int) := dA_
   obtain ⟨ad369, e369, hL369⟩ := at_L83 a0.out x5_1 p369 q369
   have hW369 := hL369
   cases e369
   replace hL369 := RowAt.below (B := 0) hL369 HB.out
   replace p369 := eq_true p369
   replace q369 := eq_true q369
   have p370 : 0 ≤ (x5_1 : Int) := dA_
   have q370 : x5_1 < (l1.length : Int) := dA_
   obtain ⟨ad370, e370, hL370⟩ := at_L83 a1.out x5_1 p370 q370
   have hW370 := hL370
   cases e370
   replace hL370 := RowAt.below (B := 0) hL370 HB.out
   replace p370 := eq_true p370
   replace q370 := eq_true q370
   refine start_ (n := 10) (S := fun w' => RowAt w' (ad369.add ((x5_1).toNat * 20)) [.int .i64 ((rd_T83 l0 x5_1).f0), .int .i64 ((rd_T83 l0 x5_1).f1), .int .i64 ((rd_T83 l0 x5_1).f2), .int .i64 ((rd_T83 l0 x5_1).f3), .int .i64 ((rd_T83 l0 x5_1).f4), .int .i64 ((rd_T83 l0 x5_1).f5), .int .i64 ((rd_T83 l0 x5_1).f6), .int .i64 ((rd_T83 l0 x5_1).f7), .int .i64 ((rd_T83 l0 x5_1).f8), .int .i64 ((rd_T83 l0 x5_1).f9), .int .i64 ((rd_T83 l0 x5_1).f10), .int .i64 ((rd_T83 l0 x5_1).f11.f0), .int .i64 ((rd_T83 l0 x5_1).f11.f1), .int .i64 ((rd_T83 l0 x5_1).f11.f2), .int .i64 ((rd_T83 l0 x5_1).f11.f3), .int .i64 ((rd_T83 l0 x5_1).f12), .int .i64 ((rd_T83 l0 x5_1).f13), .int .i64 ((rd_T83 l0 x5_1).f14), .int .i64 ((rd_T83 l0 x5_1).f15.f0), .int .i64 ((rd_T83 l0 x5_1).f15.f1)] ∧ RowAt w' (ad370.add ((x5_1).toNat * 20)) [.int .i64 ((rd_T83 l1 x5_1).f0), .int .i64 ((rd_T83 l1 x5_1).f1), .int .i64 ((rd_T83 l1 x5_1).f2), .int .i64 ((rd_T83 l1 x5_1).f3), .int .i64 ((rd_T83 l1 x5_1).f4), .int .i64 ((rd_T83 l1 x5_1).f5), .int .i64 ((rd_T83 l1 x5_1).f6), .int .i64 ((rd_T83 l1 x5_1).f7), .int .i64 ((rd_T83 l1 x5_1).f8), .int .i64 ((rd_T83 l1 x5_1).f9), .int .i64 ((rd_T83 l1 x5_1).f10), .int .i64 ((rd_T83 l1 x5_1).f11.f0), .int .i64 ((rd_T83 l1 x5_1).f11.f1), .int .i64 ((rd_T83 l1 x5_1).f11.f2), .int .i64 ((rd_T83 l1 x5_1).f11.f3), .int .i64 ((rd_T83 l1 x5_1).f12), .int .i64 ((rd_T83 l1 x5_1).f13), .int .i64 ((rd_T83 l1 x5_1).f14), .int .i64 ((rd_T83 l1 x5_1).f15.f0), .int .i64 ((rd_T83 l1 x5_1).f15.f1)]) (ds := []) #[false, false, false, false, false, false, false, false, false, false] (by kernel_rfl) rfl rfl ⟨(RowAt.below (B := 0) hW369 HB.out), (RowAt.below (B := 0) hW370 HB.out)⟩ (fun hHeld => ?_); refine with_tabW laws_eqTalkS.tab6 laws_eqTalkS.bits6 (fun HT_ HW_ => ?_)
   generalize wr.drew = w9 at HB hL369 hL370 hHeld ⊢
   refine pure_ (i := 0) (N := some 17) (v := ?_) (a' := ?_) #[true, false, false, false, false, false, false, false, false, false] rfl rfl (any_of HT_.out (by kernel_rfl)) (fun _ _ _ h => h) (Or.inl ⟨by rfl, ?_⟩) ?_ ?_
   rotate_left
   ·intro w'
    go_simp
    with_reducible rfl
   rotate_left
   ·simp only [Act.put, lA_, lZ_, lS_, i64_w, i32_w]
    rfl
   refine pure_ (i := 1) (N := some 18) (v := ?_) (a' := ?_) #[true, true, false, false, false, false, false, false, false, false] rfl rfl (any_of HT_.out (by kernel_rfl)) (fun _ _ _ h => h) (Or.inl ⟨by rfl, ?_⟩) ?_ ?_
   rotate_left
   ·intro w'
    go_simp
    with_reducible rfl
   rotate_left
   ·simp only [Act.put, lA_, lZ_, lS_, i64_w, i32_w]
    rfl
   refine pure_ (i := 2) (N := some 19) (v := ?_) (a' := ?_) #[true, true, true, false, false, false, false, false, false, false] rfl rfl (any_of HT_.out (by kernel_rfl)) (fun _ _ _ h => h) (Or.inl ⟨by rfl, ?_⟩) ?_ ?_
   rotate_left
   ·intro w'
    go_simp
    with_reducible rfl
   rotate_left
   ·simp only [Act.put, lA_, lZ_, lS_, i64_w, i32_w]
    rfl
   refine pure_ (i := 4) (N := some 21) (v := ?_) (a' := ?_) #[true, true, true, false, true, false, false, false, false, false] rfl rfl (any_of HT_.out (by kernel_rfl)) (fun _ _ _ h => h) (Or.inl ⟨by rfl, ?_⟩) ?_ ?_
   rotate_left
   ·intro w'
    go_simp
    with_reducible rfl
   rotate_left
   ·simp only [Act.put, lA_, lZ_, lS_, i64_w, i32_w]
    rfl
   refine pure_ (i := 5) (N := some 22) (v := ?_) (a' := ?_) #[true, true, true, false, true, true, false, false, false, false] rfl rfl (any_of HT_.out (by kernel_rfl)) (fun _ _ _ h => h) (Or.inl ⟨by rfl, ?_⟩) ?_ ?_
   rotate_left
   ·intro w'
    go_simp
    with_reducible rfl
   rotate_left
   ·simp only [Act.put, lA_, lZ_, lS_, i64_w, i32_w]
    rfl
   refine pure_ (i := 6) (N := some 23) (v := ?_) (a' := ?_) #[true, true, true, false, true, true, true, false, false, false] rfl rfl (any_of HT_.out (by kernel_rfl)) (fun _ _ _ h => h) (Or.inl ⟨by rfl, ?_⟩) ?_ ?_
   rotate_left
   ·intro w'
    go_simp
    with_reducible rfl
   rotate_left
   ·simp only [Act.put, lA_, lZ_, lS_, i64_w, i32_w]
    rfl
   refine take_ (i := 3) (N := some 20) (v := ?_) (a' := ?_) #[true, true, true, true, true, true, true, false, false, false] rfl rfl (take_ofW HT_.out HW_.out (by kernel_rfl)) (fun _ _ _ h => h) (Or.inl ⟨by rfl, ?_⟩) hHeld ?_ ?_
   rotate_left
   ·rintro w' ⟨s0, s1⟩
    first | (refine (exec_loadRow (by rfl) (by rfl) s0 Try.underlying83 rfl size83_).trans ?_; with_reducible rfl) | (refine (exec_loadRow (by rfl) (by rfl) s0 Try.underlying118 rfl size118_).trans ?_; with_reducible rfl) | (refine (exec_loadRow (by rfl) (by rfl) s1 Try.underlying83 rfl size83_).trans ?_; with_reducible rfl) | (refine (exec_loadRow (by rfl) (by rfl) s1 Try.underlying118 rfl size118_).trans ?_; with_reducible rfl) | (go_simp; with_reducible rfl)
   rotate_left
   ·simp only [Act.put, lA_, lZ_, lS_, i64_w, i32_w]
    rfl
   refine take_ (i := 7) (N := some 24) (v := ?_) (a' := ?_) #[true, true, true, true, true, true, true, true, false, false] rfl rfl (take_ofW HT_.out HW_.out (by kernel_rfl)) (fun _ _ _ h => h) (Or.inl ⟨by rfl, ?_⟩) hHeld ?_ ?_
   rotate_left
   ·rintro w' ⟨s0, s1⟩
    first | (refine (exec_loadRow (by rfl) (by rfl) s0 Try.underlying83 rfl size83_).trans ?_; with_reducible rfl) | (refine (exec_loadRow (by rfl) (by rfl) s0 Try.underlying118 rfl size118_).trans ?_; with_reducible rfl) | (refine (exec_loadRow (by rfl) (by rfl) s1 Try.underlying83 rfl size83_).trans ?_; with_reducible rfl) | (refine (exec_loadRow (by rfl) (by rfl) s1 Try.underlying118 rfl size118_).trans ?_; with_reducible rfl) | (go_simp; with_reducible rfl)
   rotate_left
   ·simp only [Act.put, lA_, lZ_, lS_, i64_w, i32_w]
    rfl
   refine one_ (i := 8) (N := some 25) #[true, true, true, true, true, true, true, true, true, false] rfl rfl (one_of HT_.out (by kernel_rfl)) (by decide) (fun K hK => ?_)
   refine goes_ Try.func77 (by kernel_rfl) rfl #[.agg #[.int .i64 ((rd_T83 l0 x5_1).f0), .int .i64 ((rd_T83 l0 x5_1).f1), .int .i64 ((rd_T83 l0 x5_1).f2), .int .i64 ((rd_T83 l0 x5_1).f3), .int .i64 ((rd_T83 l0 x5_1).f4), .int .i64 ((rd_T83 l0 x5_1).f5), .int .i64 ((rd_T83 l0 x5_1).f6), .int .i64 ((rd_T83 l0 x5_1).f7), .int .i64 ((rd_T83 l0 x5_1).f8), .int .i64 ((rd_T83 l0 x5_1).f9), .int .i64 ((rd_T83 l0 x5_1).f10), .int .i64 ((rd_T83 l0 x5_1).f11.f0), .int .i64 ((rd_T83 l0 x5_1).f11.f1), .int .i64 ((rd_T83 l0 x5_1).f11.f2), .int .i64 ((rd_T83 l0 x5_1).f11.f3), .int .i64 ((rd_T83 l0 x5_1).f12), .int .i64 ((rd_T83 l0 x5_1).f13), .int .i64 ((rd_T83 l0 x5_1).f14), .int .i64 ((rd_T83 l0 x5_1).f15.f0), .int .i64 ((rd_T83 l0 x5_1).f15.f1)], .agg #[.int .i64 ((rd_T83 l1 x5_1).f0), .int .i64 ((rd_T83 l1 x5_1).f1), .int .i64 ((rd_T83 l1 x5_1).f2), .int .i64 ((rd_T83 l1 x5_1).f3), .int .i64 ((rd_T83 l1 x5_1).f4), .int .i64 ((rd_T83 l1 x5_1).f5), .int .i64 ((rd_T83 l1 x5_1).f6), .int .i64 ((rd_T83 l1 x5_1).f7), .int .i64 ((rd_T83 l1 x5_1).f8), .int .i64 ((rd_T83 l1 x5_1).f9), .int .i64 ((rd_T83 l1 x5_1).f10), .int .i64 ((rd_T83 l1 x5_1).f11.f0), .int .i64 ((rd_T83 l1 x5_1).f11.f1), .int .i64 ((rd_T83 l1 x5_1).f11.f2), .int .i64 ((rd_T83 l1 x5_1).f11.f3), .int .i64 ((rd_T83 l1 x5_1).f12), .int .i64 ((rd_T83 l1 x5_1).f13), .int .i64 ((rd_T83 l1 x5_1).f14), .int .i64 ((rd_T83 l1 x5_1).f15.f0), .int .i64 ((rd_T83 l1 x5_1).f15.f1)]] (by rfl) rfl rfl (by (try simp only [List.map_toArray, List.map_cons, List.map_nil]); first | done | rfl | (simp only [List.length_drop, List.length_take]; rfl)) ?_
   with_reducible refine (laws_eqTalk.calls ((rd_T83 l0 x5_1).f0) ((rd_T83 l0 x5_1).f1) ((rd_T83 l0 x5_1).f2) ((rd_T83 l0 x5_1).f3) ((rd_T83 l0 x5_1).f4) ((rd_T83 l0 x5_1).f5) ((rd_T83 l0 x5_1).f6) ((rd_T83 l0 x5_1).f7) ((rd_T83 l0 x5_1).f8) ((rd_T83 l0 x5_1).f9) ((rd_T83 l0 x5_1).f10) ((rd_T83 l0 x5_1).f11.f0) ((rd_T83 l0 x5_1).f11.f1) ((rd_T83 l0 x5_1).f11.f2) ((rd_T83 l0 x5_1).f11.f3) ((rd_T83 l0 x5_1).f12) ((rd_T83 l0 x5_1).f13) ((rd_T83 l0 x5_1).f14) ((rd_T83 l0 x5_1).f15.f0) ((rd_T83 l0 x5_1).f15.f1) ((rd_T83 l1 x5_1).f0) ((rd_T83 l1 x5_1).f1) ((rd_T83 l1 x5_1).f2) ((rd_T83 l1 x5_1).f3) ((rd_T83 l1 x5_1).f4) ((rd_T83 l1 x5_1).f5) ((rd_T83 l1 x5_1).f6) ((rd_T83 l1 x5_1).f7) ((rd_T83 l1 x5_1).f8) ((rd_T83 l1 x5_1).f9) ((rd_T83 l1 x5_1).f10) ((rd_T83 l1 x5_1).f11.f0) ((rd_T83 l1 x5_1).f11.f1) ((rd_T83 l1 x5_1).f11.f2) ((rd_T83 l1 x5_1).f11.f3) ((rd_T83 l1 x5_1).f12) ((rd_T83 l1 x5_1).f13) ((rd_T83 l1 x5_1).f14) ((rd_T83 l1 x5_1).f15.f0) ((rd_T83 l1 x5_1).f15.f1) true _ A7.out).mono ?_
   rintro e w10 ⟨rfl, hb⟩
   refine ⟨_, rfl, ?_⟩
   have n0_ := Z_ (lP_ Lb_ hb)
   clear HB
   have HB := n0_
   clear n0_
   (try clear hb)
   (try clear hb2)
   (try clear hk)
   (try clear hi)
   refine hK.out _ _ ⟨(RowAt.below (B := 0) hW369 HB.out), (RowAt.below (B := 0) hW370 HB.out)⟩ (fun hHeld => ?_)
   clear hK K
   refine norm_ (a' := ?_) ?_ ?_
   rotate_left
   ·show Act.put _ (some 25) _ = _
    simp only [Act.put, lA_, lZ_, lS_, i64_w, i32_w]
    rfl
   refine pure_ (i := 9) (N := some 26) (v := ?_) (a' := ?_) #[true, true, true, true, true, true, true, true, true, true] rfl rfl (any_of HT_.out (by kernel_rfl)) (fun _ _ _ h => h) (Or.inl ⟨by rfl, ?_⟩) ?_ ?_
   rotate_left
   ·intro w'
    go_simp
    with_reducible rfl
   rotate_left
   ·simp only [Act.put, lA_, lZ_, lS_, i64_w, i32_w]
    rfl
   refine done_ (done_of HT_.out (by kernel_rfl)) ?_
   try go_wp2
   go_roundg k1
   case measure => have := HK1.out; omega
   case rel => exact ⟨(wrap64 (x5_1 + 1)), Sr_, H', ⟨by have := HK1.out; omega⟩, ⟨Lb_⟩⟩
def laws_eqGate.f (k : Nat) (a0_0 a0_1 : Int) (l0_2 : List (S83)) (a1_0 a1_1 : Int) (l1_2 : List (S83)) : Option (Bool) := if a0_0 = a1_0 then (if a0_1 = a1_1 then ((laws_eqTalkS.f k l0_2 l1_2).bind fun t374 => (if t374 = true then (some true) else (some false))) else (some false)) else (some false)
set_option maxHeartbeats 8000000 in
set_option maxRecDepth 100000 in
theorem laws_eqGate.calls (k : Nat) (a0_0 a0_1 : Int) (A0_2 : Option Addr) (c0_2 : Nat) (l0_2 : List (S83)) (a1_0 a1_1 : Int) (A1_2 : Option Addr) (c1_2 : Nat) (l1_2 : List (S83)) (r : Bool) (w : World) (hr0_2 : Kd.C k83 w A0_2 l0_2.length l0_2) (hc0_2 : l0_2.length ≤ c0_2) (hr1_2 : Kd.C k83 w A1_2 l1_2.length l1_2) (hc1_2 : l1_2.length ≤ c1_2) (h : laws_eqGate.f k a0_0 a0_1 l0_2 a1_0 a1_1 l1_2 = some r) :
  Calls Try.prog 53 #[.agg #[.int .i64 a0_0, .int .i64 a0_1, .slice A0_2 l0_2.length c0_2], .agg #[.int .i64 a1_0, .int .i64 a1_1, .slice A1_2 l1_2.length c1_2]] w fun e w' => e = .returned (.bool r) ∧ Below w.heap.size w w' := by
 have hu46 := Try.underlying46
 have HR0_2 := Z_ hr0_2
 have HC0_2 := Z_ hc0_2
 clear hr0_2 hc0_2
 have HR1_2 := Z_ hr1_2
 have HC1_2 := Z_ hc1_2
 clear hr1_2 hc1_2
 have HB := Z_ (Below.refl w.heap.size w)
 unfold laws_eqGate.f at h
 have H := h
 clear h
 replace H := iE_ H
 obtain ⟨c3b0, c3b1, H⟩ | ⟨c3b0, c3b1, H⟩ := H
 replace H := iE_ H
 obtain ⟨c4b0, c4b1, H⟩ | ⟨c4b0, c4b1, H⟩ := H
 replace H := bS_ H
 obtain ⟨t374, A5, H⟩ := H
 replace H := iB_ H
 obtain ⟨rfl, H⟩ | ⟨rfl, H⟩ := H
 all_goals
  obtain rfl := Option.some.inj H
  go_enter Try.func53, Try.ntmps53
  go_wp2_with (first | ((with_reducible refine gD_ 2 rfl ?_); refine bx_ #[.int .i64 a0_0, .int .i64 a0_1, .slice A0_2 l0_2.length c0_2] 46 ?_; intro a3 hg w13 hbox hb; have a0 := Z_ hbox; have a5 := Z_ ((by rw [hg]; exact (below_size Lb_) : w.heap.size ≤ a3)); replace HB := Z_ (lP_ Lb_ hb); clear hb hbox hg) | ((with_reducible refine gD_ 3 rfl ?_); refine bx_ #[.int .i64 a1_0, .int .i64 a1_1, .slice A1_2 l1_2.length c1_2] 46 ?_; intro a4 hg w14 hbox hb; have a7 := Z_ hbox; have a6 := Z_ ((by rw [hg]; exact (below_size HB.out) : w.heap.size ≤ a4)); replace HB := Z_ (lP_ HB.out hb); have a1 := Z_ ((by rw [hg]; exact Nat.ne_of_lt (blk_lt a0.out) : a3 ≠ a4)); replace a0 := Z_ (bB_ a0.out hb); have a2 := Z_ a1.out.symm; clear hb hbox hg; have a9 := a1.out; have aa := a2.out; obtain ⟨_, _, _, _, _, _⟩ := bc3 a0.out; obtain ⟨_, _, _, _, _, _⟩ := bc3 a7.out) | ((with_reducible refine gate_callee (f := 69) rfl ?_); refine goesA_ (some 19) rfl rfl Try.func69 (by kernel_rfl) rfl #[.slice A0_2 l0_2.length c0_2, .slice A1_2 l1_2.length c1_2] rfl ?_; (with_reducible refine (laws_eqTalkS.calls k _ _ l0_2 _ _ l1_2 _ _ ?side1 ?side2 ?side3 ?side4 A5.out).mono ?_); (case side1 => repeat (first | exact (Kd.C_below HR0_2.out HB.out) | (with_reducible refine Kd.C_alloc ?_ _) | (with_reducible refine Kd.C_drewN ?_ _) | (with_reducible refine Kd.C_drew ?_))); (case side2 => exact HC0_2.out); (case side3 => repeat (first | exact (Kd.C_below HR1_2.out HB.out) | (with_reducible refine Kd.C_alloc ?_ _) | (with_reducible refine Kd.C_drewN ?_ _) | (with_reducible refine Kd.C_drew ?_))); (case side4 => exact HC1_2.out); rintro e w12 ⟨rfl, hb⟩; refine ⟨_, rfl, ?_⟩; replace HB := Z_ (lP_ (by repeat (first | (with_reducible first | exact HB.out | refine lS1_ ?_ a5.out | refine lS1_ ?_ a6.out) | exact HB.out)) hb); (try clear hb)))
  go_ret
  exact ⟨Er_, Lb_⟩
end Go.Proofs.Ytbjnjjjhdjichaa.G
