/- Part 5 of the proof of FnExactGateFault: what the functions on its road do, and the plain laws. -/
import Derived.Test.YtaniedjfkiklmaaCFnExactGateFault4
namespace Go.Proofs.Ytaniedjfkiklmaa.G
open Go.RowKit Go.Proofs.YtaniedjfkiklmaaW.PrintWords Go.Proofs.YtaniedjfkiklmaaW.PrintLast Go.Proofs.YtaniedjfkiklmaaW.PrintMore
attribute [local go_sem] max2_int min2_int max_two min_two max_three min_three max_four min_four   -- for this text's walks alone
set_option linter.unusedVariables false
set_option linter.unusedSimpArgs false
attribute [local go_sem high] eqA56
def IsS58 (w0 W : World) (g : Nat) (f0 : Int) (f1 : Int) (f2 : Int) (f3 : Int) (f4 : Int) (f5 : Int) (f6 : Int) (f7 : Int) (f8 : Int) (f9 : Int) (f10 : Int) (f11 : Int) (f12 : Int) (f13 : Int) (f14 : Int) (f15 : Int) (f16 : Int) (f17 : Int) (f18 : Int) (f19 : Int) : Prop := W.heap[g]? = some (.cells #[.int .i64 f0, .int .i64 f1, .int .i64 f2, .int .i64 f3, .int .i64 f4, .int .i64 f5, .int .i64 f6, .int .i64 f7, .int .i64 f8, .int .i64 f9, .int .i64 f10, .int .i64 f11, .int .i64 f12, .int .i64 f13, .int .i64 f14, .int .i64 f15, .int .i64 f16, .int .i64 f17, .int .i64 f18, .int .i64 f19] 58 (0, 0)) ∧ w0.heap.size ≤ g
theorem IsS58.grown {w0 W : World} {g : Nat} {f0 : Int} {f1 : Int} {f2 : Int} {f3 : Int} {f4 : Int} {f5 : Int} {f6 : Int} {f7 : Int} {f8 : Int} {f9 : Int} {f10 : Int} {f11 : Int} {f12 : Int} {f13 : Int} {f14 : Int} {f15 : Int} {f16 : Int} {f17 : Int} {f18 : Int} {f19 : Int} {W1 : World} {row : Option Nat} (h : IsS58 w0 W g f0 f1 f2 f3 f4 f5 f6 f7 f8 f9 f10 f11 f12 f13 f14 f15 f16 f17 f18 f19) (hw : W.grownBy W1 row) (hne : some g ≠ row) : IsS58 w0 W1 g f0 f1 f2 f3 f4 f5 f6 f7 f8 f9 f10 f11 f12 f13 f14 f15 f16 f17 f18 f19 := by
 obtain ⟨hb, hg⟩ := h
 exact ⟨blk_grown hb hw hne, hg⟩
theorem IsS58.kept {w0 W : World} {g : Nat} {f0 : Int} {f1 : Int} {f2 : Int} {f3 : Int} {f4 : Int} {f5 : Int} {f6 : Int} {f7 : Int} {f8 : Int} {f9 : Int} {f10 : Int} {f11 : Int} {f12 : Int} {f13 : Int} {f14 : Int} {f15 : Int} {f16 : Int} {f17 : Int} {f18 : Int} {f19 : Int} {W1 : World} {S : Nat → Prop} (h : IsS58 w0 W g f0 f1 f2 f3 f4 f5 f6 f7 f8 f9 f10 f11 f12 f13 f14 f15 f16 f17 f18 f19) (hk : Kept W W1 S) (hne : ¬ S g) : IsS58 w0 W1 g f0 f1 f2 f3 f4 f5 f6 f7 f8 f9 f10 f11 f12 f13 f14 f15 f16 f17 f18 f19 := by
 obtain ⟨hb, hg⟩ := h
 exact ⟨blk_kept hb hk hne, hg⟩
theorem IsS58.below {w0 W : World} {g : Nat} {f0 : Int} {f1 : Int} {f2 : Int} {f3 : Int} {f4 : Int} {f5 : Int} {f6 : Int} {f7 : Int} {f8 : Int} {f9 : Int} {f10 : Int} {f11 : Int} {f12 : Int} {f13 : Int} {f14 : Int} {f15 : Int} {f16 : Int} {f17 : Int} {f18 : Int} {f19 : Int} {W1 : World} (h : IsS58 w0 W g f0 f1 f2 f3 f4 f5 f6 f7 f8 f9 f10 f11 f12 f13 f14 f15 f16 f17 f18 f19) (hw : Below W.heap.size W W1) : IsS58 w0 W1 g f0 f1 f2 f3 f4 f5 f6 f7 f8 f9 f10 f11 f12 f13 f14 f15 f16 f17 f18 f19 := h.grown (grown_of_below hw none) (by simp)
theorem IsS58.alloc {w0 W : World} {g : Nat} {f0 : Int} {f1 : Int} {f2 : Int} {f3 : Int} {f4 : Int} {f5 : Int} {f6 : Int} {f7 : Int} {f8 : Int} {f9 : Int} {f10 : Int} {f11 : Int} {f12 : Int} {f13 : Int} {f14 : Int} {f15 : Int} {f16 : Int} {f17 : Int} {f18 : Int} {f19 : Int} (h : IsS58 w0 W g f0 f1 f2 f3 f4 f5 f6 f7 f8 f9 f10 f11 f12 f13 f14 f15 f16 f17 f18 f19) (o : Obj) : IsS58 w0 (W.alloc o) g f0 f1 f2 f3 f4 f5 f6 f7 f8 f9 f10 f11 f12 f13 f14 f15 f16 f17 f18 f19 := h.below (lA1_ (Below.refl _ _) o)
theorem IsS58.drewN {w0 W : World} {g : Nat} {f0 : Int} {f1 : Int} {f2 : Int} {f3 : Int} {f4 : Int} {f5 : Int} {f6 : Int} {f7 : Int} {f8 : Int} {f9 : Int} {f10 : Int} {f11 : Int} {f12 : Int} {f13 : Int} {f14 : Int} {f15 : Int} {f16 : Int} {f17 : Int} {f18 : Int} {f19 : Int} (h : IsS58 w0 W g f0 f1 f2 f3 f4 f5 f6 f7 f8 f9 f10 f11 f12 f13 f14 f15 f16 f17 f18 f19) (m : Nat) : IsS58 w0 (W.drewN m) g f0 f1 f2 f3 f4 f5 f6 f7 f8 f9 f10 f11 f12 f13 f14 f15 f16 f17 f18 f19 := h
theorem IsS58.drew {w0 W : World} {g : Nat} {f0 : Int} {f1 : Int} {f2 : Int} {f3 : Int} {f4 : Int} {f5 : Int} {f6 : Int} {f7 : Int} {f8 : Int} {f9 : Int} {f10 : Int} {f11 : Int} {f12 : Int} {f13 : Int} {f14 : Int} {f15 : Int} {f16 : Int} {f17 : Int} {f18 : Int} {f19 : Int} (h : IsS58 w0 W g f0 f1 f2 f3 f4 f5 f6 f7 f8 f9 f10 f11 f12 f13 f14 f15 f16 f17 f18 f19) : IsS58 w0 W.drew g f0 f1 f2 f3 f4 f5 f6 f7 f8 f9 f10 f11 f12 f13 f14 f15 f16 f17 f18 f19 := h
theorem IsS58.at_ {w0 W : World} {g : Nat} {f0 : Int} {f1 : Int} {f2 : Int} {f3 : Int} {f4 : Int} {f5 : Int} {f6 : Int} {f7 : Int} {f8 : Int} {f9 : Int} {f10 : Int} {f11 : Int} {f12 : Int} {f13 : Int} {f14 : Int} {f15 : Int} {f16 : Int} {f17 : Int} {f18 : Int} {f19 : Int} {w' : World} {m : Nat} (hq : W.drewN m = w') (h : IsS58 w0 W g f0 f1 f2 f3 f4 f5 f6 f7 f8 f9 f10 f11 f12 f13 f14 f15 f16 f17 f18 f19) : IsS58 w0 w' g f0 f1 f2 f3 f4 f5 f6 f7 f8 f9 f10 f11 f12 f13 f14 f15 f16 f17 f18 f19 := by subst hq; exact IsS58.drewN h m
theorem IsS58.apart {w0 W : World} {g : Nat} {f0 : Int} {f1 : Int} {f2 : Int} {f3 : Int} {f4 : Int} {f5 : Int} {f6 : Int} {f7 : Int} {f8 : Int} {f9 : Int} {f10 : Int} {f11 : Int} {f12 : Int} {f13 : Int} {f14 : Int} {f15 : Int} {f16 : Int} {f17 : Int} {f18 : Int} {f19 : Int} {α : Type} {d : Kd α} {e : Nat} {base : Nat} {ok : Nat → Prop} {v : Value} {xs : List α} (h : IsS58 w0 W g f0 f1 f2 f3 f4 f5 f6 f7 f8 f9 f10 f11 f12 f13 f14 f15 f16 f17 f18 f19) (ho : d.R e W base ok v xs) (ht : ∀ q, q ∈ e :: d.E → q ≠ 58) : d.R e W base (fun k => ok k ∧ k ≠ g) v xs := by
 obtain ⟨hb, hg⟩ := h
 exact Kd.R_types ho hb ht
theorem IsS58.own_ne {w0 W : World} {g : Nat} {f0 : Int} {f1 : Int} {f2 : Int} {f3 : Int} {f4 : Int} {f5 : Int} {f6 : Int} {f7 : Int} {f8 : Int} {f9 : Int} {f10 : Int} {f11 : Int} {f12 : Int} {f13 : Int} {f14 : Int} {f15 : Int} {f16 : Int} {f17 : Int} {f18 : Int} {f19 : Int} {α : Type} {d : Kd α} {e : Nat} {base : Nat} {ok : Nat → Prop} {v : Value} {xs : List α} (h : IsS58 w0 W g f0 f1 f2 f3 f4 f5 f6 f7 f8 f9 f10 f11 f12 f13 f14 f15 f16 f17 f18 f19) (ho : d.R e W base ok v xs) (ht : e ≠ 58) : some g ≠ v.ownBlock := by
 obtain ⟨hb, hg⟩ := h
 exact Kd.R_ne ho hb ht
theorem IsS58.lt {w0 W : World} {g : Nat} {f0 : Int} {f1 : Int} {f2 : Int} {f3 : Int} {f4 : Int} {f5 : Int} {f6 : Int} {f7 : Int} {f8 : Int} {f9 : Int} {f10 : Int} {f11 : Int} {f12 : Int} {f13 : Int} {f14 : Int} {f15 : Int} {f16 : Int} {f17 : Int} {f18 : Int} {f19 : Int} (h : IsS58 w0 W g f0 f1 f2 f3 f4 f5 f6 f7 f8 f9 f10 f11 f12 f13 f14 f15 f16 f17 f18 f19) : g < W.heap.size := by
 obtain ⟨hb, hg⟩ := h
 exact blk_lt hb
theorem IsS58.ge {w0 W : World} {g : Nat} {f0 : Int} {f1 : Int} {f2 : Int} {f3 : Int} {f4 : Int} {f5 : Int} {f6 : Int} {f7 : Int} {f8 : Int} {f9 : Int} {f10 : Int} {f11 : Int} {f12 : Int} {f13 : Int} {f14 : Int} {f15 : Int} {f16 : Int} {f17 : Int} {f18 : Int} {f19 : Int} (h : IsS58 w0 W g f0 f1 f2 f3 f4 f5 f6 f7 f8 f9 f10 f11 f12 f13 f14 f15 f16 f17 f18 f19) : w0.heap.size ≤ g := by
 obtain ⟨hb, hg⟩ := h
 exact hg
theorem cellS58_0 {W : World} {g : Nat} {f0 : Int} {f1 : Int} {f2 : Int} {f3 : Int} {f4 : Int} {f5 : Int} {f6 : Int} {f7 : Int} {f8 : Int} {f9 : Int} {f10 : Int} {f11 : Int} {f12 : Int} {f13 : Int} {f14 : Int} {f15 : Int} {f16 : Int} {f17 : Int} {f18 : Int} {f19 : Int} (h : W.heap[g]? = some (.cells #[.int .i64 f0, .int .i64 f1, .int .i64 f2, .int .i64 f3, .int .i64 f4, .int .i64 f5, .int .i64 f6, .int .i64 f7, .int .i64 f8, .int .i64 f9, .int .i64 f10, .int .i64 f11, .int .i64 f12, .int .i64 f13, .int .i64 f14, .int .i64 f15, .int .i64 f16, .int .i64 f17, .int .i64 f18, .int .i64 f19] 58 (0, 0))) : W.cell? ⟨g, 0, none⟩ = some (.int .i64 f0) := (blk_cell h 0).trans rfl
theorem IsS58.set_0 {w0 W : World} {g : Nat} {f0 : Int} {f1 : Int} {f2 : Int} {f3 : Int} {f4 : Int} {f5 : Int} {f6 : Int} {f7 : Int} {f8 : Int} {f9 : Int} {f10 : Int} {f11 : Int} {f12 : Int} {f13 : Int} {f14 : Int} {f15 : Int} {f16 : Int} {f17 : Int} {f18 : Int} {f19 : Int} (h : IsS58 w0 W g f0 f1 f2 f3 f4 f5 f6 f7 f8 f9 f10 f11 f12 f13 f14 f15 f16 f17 f18 f19) (x : Int) : IsS58 w0 (W.setCell ⟨g, 0, none⟩ (.int .i64 x)) g x f1 f2 f3 f4 f5 f6 f7 f8 f9 f10 f11 f12 f13 f14 f15 f16 f17 f18 f19 := by
 obtain ⟨hb, hg⟩ := h
 exact ⟨by simpa using blk_set hb 0 (.int .i64 x), hg⟩
theorem cellS58_1 {W : World} {g : Nat} {f0 : Int} {f1 : Int} {f2 : Int} {f3 : Int} {f4 : Int} {f5 : Int} {f6 : Int} {f7 : Int} {f8 : Int} {f9 : Int} {f10 : Int} {f11 : Int} {f12 : Int} {f13 : Int} {f14 : Int} {f15 : Int} {f16 : Int} {f17 : Int} {f18 : Int} {f19 : Int} (h : W.heap[g]? = some (.cells #[.int .i64 f0, .int .i64 f1, .int .i64 f2, .int .i64 f3, .int .i64 f4, .int .i64 f5, .int .i64 f6, .int .i64 f7, .int .i64 f8, .int .i64 f9, .int .i64 f10, .int .i64 f11, .int .i64 f12, .int .i64 f13, .int .i64 f14, .int .i64 f15, .int .i64 f16, .int .i64 f17, .int .i64 f18, .int .i64 f19] 58 (0, 0))) : W.cell? ⟨g, 1, none⟩ = some (.int .i64 f1) := (blk_cell h 1).trans rfl
theorem IsS58.set_1 {w0 W : World} {g : Nat} {f0 : Int} {f1 : Int} {f2 : Int} {f3 : Int} {f4 : Int} {f5 : Int} {f6 : Int} {f7 : Int} {f8 : Int} {f9 : Int} {f10 : Int} {f11 : Int} {f12 : Int} {f13 : Int} {f14 : Int} {f15 : Int} {f16 : Int} {f17 : Int} {f18 : Int} {f19 : Int} (h : IsS58 w0 W g f0 f1 f2 f3 f4 f5 f6 f7 f8 f9 f10 f11 f12 f13 f14 f15 f16 f17 f18 f19) (x : Int) : IsS58 w0 (W.setCell ⟨g, 1, none⟩ (.int .i64 x)) g f0 x f2 f3 f4 f5 f6 f7 f8 f9 f10 f11 f12 f13 f14 f15 f16 f17 f18 f19 := by
 obtain ⟨hb, hg⟩ := h
 exact ⟨by simpa using blk_set hb 1 (.int .i64 x), hg⟩
theorem cellS58_2 {W : World} {g : Nat} {f0 : Int} {f1 : Int} {f2 : Int} {f3 : Int} {f4 : Int} {f5 : Int} {f6 : Int} {f7 : Int} {f8 : Int} {f9 : Int} {f10 : Int} {f11 : Int} {f12 : Int} {f13 : Int} {f14 : Int} {f15 : Int} {f16 : Int} {f17 : Int} {f18 : Int} {f19 : Int} (h : W.heap[g]? = some (.cells #[.int .i64 f0, .int .i64 f1, .int .i64 f2, .int .i64 f3, .int .i64 f4, .int .i64 f5, .int .i64 f6, .int .i64 f7, .int .i64 f8, .int .i64 f9, .int .i64 f10, .int .i64 f11, .int .i64 f12, .int .i64 f13, .int .i64 f14, .int .i64 f15, .int .i64 f16, .int .i64 f17, .int .i64 f18, .int .i64 f19] 58 (0, 0))) : W.cell? ⟨g, 2, none⟩ = some (.int .i64 f2) := (blk_cell h 2).trans rfl
theorem IsS58.set_2 {w0 W : World} {g : Nat} {f0 : Int} {f1 : Int} {f2 : Int} {f3 : Int} {f4 : Int} {f5 : Int} {f6 : Int} {f7 : Int} {f8 : Int} {f9 : Int} {f10 : Int} {f11 : Int} {f12 : Int} {f13 : Int} {f14 : Int} {f15 : Int} {f16 : Int} {f17 : Int} {f18 : Int} {f19 : Int} (h : IsS58 w0 W g f0 f1 f2 f3 f4 f5 f6 f7 f8 f9 f10 f11 f12 f13 f14 f15 f16 f17 f18 f19) (x : Int) : IsS58 w0 (W.setCell ⟨g, 2, none⟩ (.int .i64 x)) g f0 f1 x f3 f4 f5 f6 f7 f8 f9 f10 f11 f12 f13 f14 f15 f16 f17 f18 f19 := by
 obtain ⟨hb, hg⟩ := h
 exact ⟨by simpa using blk_set hb 2 (.int .i64 x), hg⟩
theorem cellS58_3 {W : World} {g : Nat} {f0 : Int} {f1 : Int} {f2 : Int} {f3 : Int} {f4 : Int} {f5 : Int} {f6 : Int} {f7 : Int} {f8 : Int} {f9 : Int} {f10 : Int} {f11 : Int} {f12 : Int} {f13 : Int} {f14 : Int} {f15 : Int} {f16 : Int} {f17 : Int} {f18 : Int} {f19 : Int} (h : W.heap[g]? = some (.cells #[.int .i64 f0, .int .i64 f1, .int .i64 f2, .int .i64 f3, .int .i64 f4, .int .i64 f5, .int .i64 f6, .int .i64 f7, .int .i64 f8, .int .i64 f9, .int .i64 f10, .int .i64 f11, .int .i64 f12, .int .i64 f13, .int .i64 f14, .int .i64 f15, .int .i64 f16, .int .i64 f17, .int .i64 f18, .int .i64 f19] 58 (0, 0))) : W.cell? ⟨g, 3, none⟩ = some (.int .i64 f3) := (blk_cell h 3).trans rfl
theorem IsS58.set_3 {w0 W : World} {g : Nat} {f0 : Int} {f1 : Int} {f2 : Int} {f3 : Int} {f4 : Int} {f5 : Int} {f6 : Int} {f7 : Int} {f8 : Int} {f9 : Int} {f10 : Int} {f11 : Int} {f12 : Int} {f13 : Int} {f14 : Int} {f15 : Int} {f16 : Int} {f17 : Int} {f18 : Int} {f19 : Int} (h : IsS58 w0 W g f0 f1 f2 f3 f4 f5 f6 f7 f8 f9 f10 f11 f12 f13 f14 f15 f16 f17 f18 f19) (x : Int) : IsS58 w0 (W.setCell ⟨g, 3, none⟩ (.int .i64 x)) g f0 f1 f2 x f4 f5 f6 f7 f8 f9 f10 f11 f12 f13 f14 f15 f16 f17 f18 f19 := by
 obtain ⟨hb, hg⟩ := h
 exact ⟨by simpa using blk_set hb 3 (.int .i64 x), hg⟩
theorem cellS58_4 {W : World} {g : Nat} {f0 : Int} {f1 : Int} {f2 : Int} {f3 : Int} {f4 : Int} {f5 : Int} {f6 : Int} {f7 : Int} {f8 : Int} {f9 : Int} {f10 : Int} {f11 : Int} {f12 : Int} {f13 : Int} {f14 : Int} {f15 : Int} {f16 : Int} {f17 : Int} {f18 : Int} {f19 : Int} (h : W.heap[g]? = some (.cells #[.int .i64 f0, .int .i64 f1, .int .i64 f2, .int .i64 f3, .int .i64 f4, .int .i64 f5, .int .i64 f6, .int .i64 f7, .int .i64 f8, .int .i64 f9, .int .i64 f10, .int .i64 f11, .int .i64 f12, .int .i64 f13, .int .i64 f14, .int .i64 f15, .int .i64 f16, .int .i64 f17, .int .i64 f18, .int .i64 f19] 58 (0, 0))) : W.cell? ⟨g, 4, none⟩ = some (.int .i64 f4) := (blk_cell h 4).trans rfl
theorem IsS58.set_4 {w0 W : World} {g : Nat} {f0 : Int} {f1 : Int} {f2 : Int} {f3 : Int} {f4 : Int} {f5 : Int} {f6 : Int} {f7 : Int} {f8 : Int} {f9 : Int} {f10 : Int} {f11 : Int} {f12 : Int} {f13 : Int} {f14 : Int} {f15 : Int} {f16 : Int} {f17 : Int} {f18 : Int} {f19 : Int} (h : IsS58 w0 W g f0 f1 f2 f3 f4 f5 f6 f7 f8 f9 f10 f11 f12 f13 f14 f15 f16 f17 f18 f19) (x : Int) : IsS58 w0 (W.setCell ⟨g, 4, none⟩ (.int .i64 x)) g f0 f1 f2 f3 x f5 f6 f7 f8 f9 f10 f11 f12 f13 f14 f15 f16 f17 f18 f19 := by
 obtain ⟨hb, hg⟩ := h
 exact ⟨by simpa using blk_set hb 4 (.int .i64 x), hg⟩
theorem cellS58_5 {W : World} {g : Nat} {f0 : Int} {f1 : Int} {f2 : Int} {f3 : Int} {f4 : Int} {f5 : Int} {f6 : Int} {f7 : Int} {f8 : Int} {f9 : Int} {f10 : Int} {f11 : Int} {f12 : Int} {f13 : Int} {f14 : Int} {f15 : Int} {f16 : Int} {f17 : Int} {f18 : Int} {f19 : Int} (h : W.heap[g]? = some (.cells #[.int .i64 f0, .int .i64 f1, .int .i64 f2, .int .i64 f3, .int .i64 f4, .int .i64 f5, .int .i64 f6, .int .i64 f7, .int .i64 f8, .int .i64 f9, .int .i64 f10, .int .i64 f11, .int .i64 f12, .int .i64 f13, .int .i64 f14, .int .i64 f15, .int .i64 f16, .int .i64 f17, .int .i64 f18, .int .i64 f19] 58 (0, 0))) : W.cell? ⟨g, 5, none⟩ = some (.int .i64 f5) := (blk_cell h 5).trans rfl
theorem IsS58.set_5 {w0 W : World} {g : Nat} {f0 : Int} {f1 : Int} {f2 : Int} {f3 : Int} {f4 : Int} {f5 : Int} {f6 : Int} {f7 : Int} {f8 : Int} {f9 : Int} {f10 : Int} {f11 : Int} {f12 : Int} {f13 : Int} {f14 : Int} {f15 : Int} {f16 : Int} {f17 : Int} {f18 : Int} {f19 : Int} (h : IsS58 w0 W g f0 f1 f2 f3 f4 f5 f6 f7 f8 f9 f10 f11 f12 f13 f14 f15 f16 f17 f18 f19) (x : Int) : IsS58 w0 (W.setCell ⟨g, 5, none⟩ (.int .i64 x)) g f0 f1 f2 f3 f4 x f6 f7 f8 f9 f10 f11 f12 f13 f14 f15 f16 f17 f18 f19 := by
 obtain ⟨hb, hg⟩ := h
 exact ⟨by simpa using blk_set hb 5 (.int .i64 x), hg⟩
theorem cellS58_6 {W : World} {g : Nat} {f0 : Int} {f1 : Int} {f2 : Int} {f3 : Int} {f4 : Int} {f5 : Int} {f6 : Int} {f7 : Int} {f8 : Int} {f9 : Int} {f10 : Int} {f11 : Int} {f12 : Int} {f13 : Int} {f14 : Int} {f15 : Int} {f16 : Int} {f17 : Int} {f18 : Int} {f19 : Int} (h : W.heap[g]? = some (.cells #[.int .i64 f0, .int .i64 f1, .int .i64 f2, .int .i64 f3, .int .i64 f4, .int .i64 f5, .int .i64 f6, .int .i64 f7, .int .i64 f8, .int .i64 f9, .int .i64 f10, .int .i64 f11, .int .i64 f12, .int .i64 f13, .int .i64 f14, .int .i64 f15, .int .i64 f16, .int .i64 f17, .int .i64 f18, .int .i64 f19] 58 (0, 0))) : W.cell? ⟨g, 6, none⟩ = some (.int .i64 f6) := (blk_cell h 6).trans rfl
theorem IsS58.set_6 {w0 W : World} {g : Nat} {f0 : Int} {f1 : Int} {f2 : Int} {f3 : Int} {f4 : Int} {f5 : Int} {f6 : Int} {f7 : Int} {f8 : Int} {f9 : Int} {f10 : Int} {f11 : Int} {f12 : Int} {f13 : Int} {f14 : Int} {f15 : Int} {f16 : Int} {f17 : Int} {f18 : Int} {f19 : Int} (h : IsS58 w0 W g f0 f1 f2 f3 f4 f5 f6 f7 f8 f9 f10 f11 f12 f13 f14 f15 f16 f17 f18 f19) (x : Int) : IsS58 w0 (W.setCell ⟨g, 6, none⟩ (.int .i64 x)) g f0 f1 f2 f3 f4 f5 x f7 f8 f9 f10 f11 f12 f13 f14 f15 f16 f17 f18 f19 := by
 obtain ⟨hb, hg⟩ := h
 exact ⟨by simpa using blk_set hb 6 (.int .i64 x), hg⟩
theorem cellS58_7 {W : World} {g : Nat} {f0 : Int} {f1 : Int} {f2 : Int} {f3 : Int} {f4 : Int} {f5 : Int} {f6 : Int} {f7 : Int} {f8 : Int} {f9 : Int} {f10 : Int} {f11 : Int} {f12 : Int} {f13 : Int} {f14 : Int} {f15 : Int} {f16 : Int} {f17 : Int} {f18 : Int} {f19 : Int} (h : W.heap[g]? = some (.cells #[.int .i64 f0, .int .i64 f1, .int .i64 f2, .int .i64 f3, .int .i64 f4, .int .i64 f5, .int .i64 f6, .int .i64 f7, .int .i64 f8, .int .i64 f9, .int .i64 f10, .int .i64 f11, .int .i64 f12, .int .i64 f13, .int .i64 f14, .int .i64 f15, .int .i64 f16, .int .i64 f17, .int .i64 f18, .int .i64 f19] 58 (0, 0))) : W.cell? ⟨g, 7, none⟩ = some (.int .i64 f7) := (blk_cell h 7).trans rfl
theorem IsS58.set_7 {w0 W : World} {g : Nat} {f0 : Int} {f1 : Int} {f2 : Int} {f3 : Int} {f4 : Int} {f5 : Int} {f6 : Int} {f7 : Int} {f8 : Int} {f9 : Int} {f10 : Int} {f11 : Int} {f12 : Int} {f13 : Int} {f14 : Int} {f15 : Int} {f16 : Int} {f17 : Int} {f18 : Int} {f19 : Int} (h : IsS58 w0 W g f0 f1 f2 f3 f4 f5 f6 f7 f8 f9 f10 f11 f12 f13 f14 f15 f16 f17 f18 f19) (x : Int) : IsS58 w0 (W.setCell ⟨g, 7, none⟩ (.int .i64 x)) g f0 f1 f2 f3 f4 f5 f6 x f8 f9 f10 f11 f12 f13 f14 f15 f16 f17 f18 f19 := by
 obtain ⟨hb, hg⟩ := h
 exact ⟨by simpa using blk_set hb 7 (.int .i64 x), hg⟩
theorem cellS58_8 {W : World} {g : Nat} {f0 : Int} {f1 : Int} {f2 : Int} {f3 : Int} {f4 : Int} {f5 : Int} {f6 : Int} {f7 : Int} {f8 : Int} {f9 : Int} {f10 : Int} {f11 : Int} {f12 : Int} {f13 : Int} {f14 : Int} {f15 : Int} {f16 : Int} {f17 : Int} {f18 : Int} {f19 : Int} (h : W.heap[g]? = some (.cells #[.int .i64 f0, .int .i64 f1, .int .i64 f2, .int .i64 f3, .int .i64 f4, .int .i64 f5, .int .i64 f6, .int .i64 f7, .int .i64 f8, .int .i64 f9, .int .i64 f10, .int .i64 f11, .int .i64 f12, .int .i64 f13, .int .i64 f14, .int .i64 f15, .int .i64 f16, .int .i64 f17, .int .i64 f18, .int .i64 f19] 58 (0, 0))) : W.cell? ⟨g, 8, none⟩ = some (.int .i64 f8) := (blk_cell h 8).trans rfl
theorem IsS58.set_8 {w0 W : World} {g : Nat} {f0 : Int} {f1 : Int} {f2 : Int} {f3 : Int} {f4 : Int} {f5 : Int} {f6 : Int} {f7 : Int} {f8 : Int} {f9 : Int} {f10 : Int} {f11 : Int} {f12 : Int} {f13 : Int} {f14 : Int} {f15 : Int} {f16 : Int} {f17 : Int} {f18 : Int} {f19 : Int} (h : IsS58 w0 W g f0 f1 f2 f3 f4 f5 f6 f7 f8 f9 f10 f11 f12 f13 f14 f15 f16 f17 f18 f19) (x : Int) : IsS58 w0 (W.setCell ⟨g, 8, none⟩ (.int .i64 x)) g f0 f1 f2 f3 f4 f5 f6 f7 x f9 f10 f11 f12 f13 f14 f15 f16 f17 f18 f19 := by
 obtain ⟨hb, hg⟩ := h
 exact ⟨by simpa using blk_set hb 8 (.int .i64 x), hg⟩
theorem cellS58_9 {W : World} {g : Nat} {f0 : Int} {f1 : Int} {f2 : Int} {f3 : Int} {f4 : Int} {f5 : Int} {f6 : Int} {f7 : Int} {f8 : Int} {f9 : Int} {f10 : Int} {f11 : Int} {f12 : Int} {f13 : Int} {f14 : Int} {f15 : Int} {f16 : Int} {f17 : Int} {f18 : Int} {f19 : Int} (h : W.heap[g]? = some (.cells #[.int .i64 f0, .int .i64 f1, .int .i64 f2, .int .i64 f3, .int .i64 f4, .int .i64 f5, .int .i64 f6, .int .i64 f7, .int .i64 f8, .int .i64 f9, .int .i64 f10, .int .i64 f11, .int .i64 f12, .int .i64 f13, .int .i64 f14, .int .i64 f15, .int .i64 f16, .int .i64 f17, .int .i64 f18, .int .i64 f19] 58 (0, 0))) : W.cell? ⟨g, 9, none⟩ = some (.int .i64 f9) := (blk_cell h 9).trans rfl
theorem IsS58.set_9 {w0 W : World} {g : Nat} {f0 : Int} {f1 : Int} {f2 : Int} {f3 : Int} {f4 : Int} {f5 : Int} {f6 : Int} {f7 : Int} {f8 : Int} {f9 : Int} {f10 : Int} {f11 : Int} {f12 : Int} {f13 : Int} {f14 : Int} {f15 : Int} {f16 : Int} {f17 : Int} {f18 : Int} {f19 : Int} (h : IsS58 w0 W g f0 f1 f2 f3 f4 f5 f6 f7 f8 f9 f10 f11 f12 f13 f14 f15 f16 f17 f18 f19) (x : Int) : IsS58 w0 (W.setCell ⟨g, 9, none⟩ (.int .i64 x)) g f0 f1 f2 f3 f4 f5 f6 f7 f8 x f10 f11 f12 f13 f14 f15 f16 f17 f18 f19 := by
 obtain ⟨hb, hg⟩ := h
 exact ⟨by simpa using blk_set hb 9 (.int .i64 x), hg⟩
theorem cellS58_10 {W : World} {g : Nat} {f0 : Int} {f1 : Int} {f2 : Int} {f3 : Int} {f4 : Int} {f5 : Int} {f6 : Int} {f7 : Int} {f8 : Int} {f9 : Int} {f10 : Int} {f11 : Int} {f12 : Int} {f13 : Int} {f14 : Int} {f15 : Int} {f16 : Int} {f17 : Int} {f18 : Int} {f19 : Int} (h : W.heap[g]? = some (.cells #[.int .i64 f0, .int .i64 f1, .int .i64 f2, .int .i64 f3, .int .i64 f4, .int .i64 f5, .int .i64 f6, .int .i64 f7, .int .i64 f8, .int .i64 f9, .int .i64 f10, .int .i64 f11, .int .i64 f12, .int .i64 f13, .int .i64 f14, .int .i64 f15, .int .i64 f16, .int .i64 f17, .int .i64 f18, .int .i64 f19] 58 (0, 0))) : W.cell? ⟨g, 10, none⟩ = some (.int .i64 f10) := (blk_cell h 10).trans rfl
theorem IsS58.set_10 {w0 W : World} {g : Nat} {f0 : Int} {f1 : Int} {f2 : Int} {f3 : Int} {f4 : Int} {f5 : Int} {f6 : Int} {f7 : Int} {f8 : Int} {f9 : Int} {f10 : Int} {f11 : Int} {f12 : Int} {f13 : Int} {f14 : Int} {f15 : Int} {f16 : Int} {f17 : Int} {f18 : Int} {f19 : Int} (h : IsS58 w0 W g f0 f1 f2 f3 f4 f5 f6 f7 f8 f9 f10 f11 f12 f13 f14 f15 f16 f17 f18 f19) (x : Int) : IsS58 w0 (W.setCell ⟨g, 10, none⟩ (.int .i64 x)) g f0 f1 f2 f3 f4 f5 f6 f7 f8 f9 x f11 f12 f13 f14 f15 f16 f17 f18 f19 := by
 obtain ⟨hb, hg⟩ := h
 exact ⟨by simpa using blk_set hb 10 (.int .i64 x), hg⟩
theorem cellS58_11 {W : World} {g : Nat} {f0 : Int} {f1 : Int} {f2 : Int} {f3 : Int} {f4 : Int} {f5 : Int} {f6 : Int} {f7 : Int} {f8 : Int} {f9 : Int} {f10 : Int} {f11 : Int} {f12 : Int} {f13 : Int} {f14 : Int} {f15 : Int} {f16 : Int} {f17 : Int} {f18 : Int} {f19 : Int} (h : W.heap[g]? = some (.cells #[.int .i64 f0, .int .i64 f1, .int .i64 f2, .int .i64 f3, .int .i64 f4, .int .i64 f5, .int .i64 f6, .int .i64 f7, .int .i64 f8, .int .i64 f9, .int .i64 f10, .int .i64 f11, .int .i64 f12, .int .i64 f13, .int .i64 f14, .int .i64 f15, .int .i64 f16, .int .i64 f17, .int .i64 f18, .int .i64 f19] 58 (0, 0))) : W.cell? ⟨g, 11, none⟩ = some (.int .i64 f11) := (blk_cell h 11).trans rfl
theorem IsS58.set_11 {w0 W : World} {g : Nat} {f0 : Int} {f1 : Int} {f2 : Int} {f3 : Int} {f4 : Int} {f5 : Int} {f6 : Int} {f7 : Int} {f8 : Int} {f9 : Int} {f10 : Int} {f11 : Int} {f12 : Int} {f13 : Int} {f14 : Int} {f15 : Int} {f16 : Int} {f17 : Int} {f18 : Int} {f19 : Int} (h : IsS58 w0 W g f0 f1 f2 f3 f4 f5 f6 f7 f8 f9 f10 f11 f12 f13 f14 f15 f16 f17 f18 f19) (x : Int) : IsS58 w0 (W.setCell ⟨g, 11, none⟩ (.int .i64 x)) g f0 f1 f2 f3 f4 f5 f6 f7 f8 f9 f10 x f12 f13 f14 f15 f16 f17 f18 f19 := by
 obtain ⟨hb, hg⟩ := h
 exact ⟨by simpa using blk_set hb 11 (.int .i64 x), hg⟩
theorem cellS58_12 {W : World} {g : Nat} {f0 : Int} {f1 : Int} {f2 : Int} {f3 : Int} {f4 : Int} {f5 : Int} {f6 : Int} {f7 : Int} {f8 : Int} {f9 : Int} {f10 : Int} {f11 : Int} {f12 : Int} {f13 : Int} {f14 : Int} {f15 : Int} {f16 : Int} {f17 : Int} {f18 : Int} {f19 : Int} (h : W.heap[g]? = some (.cells #[.int .i64 f0, .int .i64 f1, .int .i64 f2, .int .i64 f3, .int .i64 f4, .int .i64 f5, .int .i64 f6, .int .i64 f7, .int .i64 f8, .int .i64 f9, .int .i64 f10, .int .i64 f11, .int .i64 f12, .int .i64 f13, .int .i64 f14, .int .i64 f15, .int .i64 f16, .int .i64 f17, .int .i64 f18, .int .i64 f19] 58 (0, 0))) : W.cell? ⟨g, 12, none⟩ = some (.int .i64 f12) := (blk_cell h 12).trans rfl
theorem IsS58.set_12 {w0 W : World} {g : Nat} {f0 : Int} {f1 : Int} {f2 : Int} {f3 : Int} {f4 : Int} {f5 : Int} {f6 : Int} {f7 : Int} {f8 : Int} {f9 : Int} {f10 : Int} {f11 : Int} {f12 : Int} {f13 : Int} {f14 : Int} {f15 : Int} {f16 : Int} {f17 : Int} {f18 : Int} {f19 : Int} (h : IsS58 w0 W g f0 f1 f2 f3 f4 f5 f6 f7 f8 f9 f10 f11 f12 f13 f14 f15 f16 f17 f18 f19) (x : Int) : IsS58 w0 (W.setCell ⟨g, 12, none⟩ (.int .i64 x)) g f0 f1 f2 f3 f4 f5 f6 f7 f8 f9 f10 f11 x f13 f14 f15 f16 f17 f18 f19 := by
 obtain ⟨hb, hg⟩ := h
 exact ⟨by simpa using blk_set hb 12 (.int .i64 x), hg⟩
theorem cellS58_13 {W : World} {g : Nat} {f0 : Int} {f1 : Int} {f2 : Int} {f3 : Int} {f4 : Int} {f5 : Int} {f6 : Int} {f7 : Int} {f8 : Int} {f9 : Int} {f10 : Int} {f11 : Int} {f12 : Int} {f13 : Int} {f14 : Int} {f15 : Int} {f16 : Int} {f17 : Int} {f18 : Int} {f19 : Int} (h : W.heap[g]? = some (.cells #[.int .i64 f0, .int .i64 f1, .int .i64 f2, .int .i64 f3, .int .i64 f4, .int .i64 f5, .int .i64 f6, .int .i64 f7, .int .i64 f8, .int .i64 f9, .int .i64 f10, .int .i64 f11, .int .i64 f12, .int .i64 f13, .int .i64 f14, .int .i64 f15, .int .i64 f16, .int .i64 f17, .int .i64 f18, .int .i64 f19] 58 (0, 0))) : W.cell? ⟨g, 13, none⟩ = some (.int .i64 f13) := (blk_cell h 13).trans rfl
theorem IsS58.set_13 {w0 W : World} {g : Nat} {f0 : Int} {f1 : Int} {f2 : Int} {f3 : Int} {f4 : Int} {f5 : Int} {f6 : Int} {f7 : Int} {f8 : Int} {f9 : Int} {f10 : Int} {f11 : Int} {f12 : Int} {f13 : Int} {f14 : Int} {f15 : Int} {f16 : Int} {f17 : Int} {f18 : Int} {f19 : Int} (h : IsS58 w0 W g f0 f1 f2 f3 f4 f5 f6 f7 f8 f9 f10 f11 f12 f13 f14 f15 f16 f17 f18 f19) (x : Int) : IsS58 w0 (W.setCell ⟨g, 13, none⟩ (.int .i64 x)) g f0 f1 f2 f3 f4 f5 f6 f7 f8 f9 f10 f11 f12 x f14 f15 f16 f17 f18 f19 := by
 obtain ⟨hb, hg⟩ := h
 exact ⟨by simpa using blk_set hb 13 (.int .i64 x), hg⟩
theorem cellS58_14 {W : World} {g : Nat} {f0 : Int} {f1 : Int} {f2 : Int} {f3 : Int} {f4 : Int} {f5 : Int} {f6 : Int} {f7 : Int} {f8 : Int} {f9 : Int} {f10 : Int} {f11 : Int} {f12 : Int} {f13 : Int} {f14 : Int} {f15 : Int} {f16 : Int} {f17 : Int} {f18 : Int} {f19 : Int} (h : W.heap[g]? = some (.cells #[.int .i64 f0, .int .i64 f1, .int .i64 f2, .int .i64 f3, .int .i64 f4, .int .i64 f5, .int .i64 f6, .int .i64 f7, .int .i64 f8, .int .i64 f9, .int .i64 f10, .int .i64 f11, .int .i64 f12, .int .i64 f13, .int .i64 f14, .int .i64 f15, .int .i64 f16, .int .i64 f17, .int .i64 f18, .int .i64 f19] 58 (0, 0))) : W.cell? ⟨g, 14, none⟩ = some (.int .i64 f14) := (blk_cell h 14).trans rfl
theorem IsS58.set_14 {w0 W : World} {g : Nat} {f0 : Int} {f1 : Int} {f2 : Int} {f3 : Int} {f4 : Int} {f5 : Int} {f6 : Int} {f7 : Int} {f8 : Int} {f9 : Int} {f10 : Int} {f11 : Int} {f12 : Int} {f13 : Int} {f14 : Int} {f15 : Int} {f16 : Int} {f17 : Int} {f18 : Int} {f19 : Int} (h : IsS58 w0 W g f0 f1 f2 f3 f4 f5 f6 f7 f8 f9 f10 f11 f12 f13 f14 f15 f16 f17 f18 f19) (x : Int) : IsS58 w0 (W.setCell ⟨g, 14, none⟩ (.int .i64 x)) g f0 f1 f2 f3 f4 f5 f6 f7 f8 f9 f10 f11 f12 f13 x f15 f16 f17 f18 f19 := by
 obtain ⟨hb, hg⟩ := h
 exact ⟨by simpa using blk_set hb 14 (.int .i64 x), hg⟩
theorem cellS58_15 {W : World} {g : Nat} {f0 : Int} {f1 : Int} {f2 : Int} {f3 : Int} {f4 : Int} {f5 : Int} {f6 : Int} {f7 : Int} {f8 : Int} {f9 : Int} {f10 : Int} {f11 : Int} {f12 : Int} {f13 : Int} {f14 : Int} {f15 : Int} {f16 : Int} {f17 : Int} {f18 : Int} {f19 : Int} (h : W.heap[g]? = some (.cells #[.int .i64 f0, .int .i64 f1, .int .i64 f2, .int .i64 f3, .int .i64 f4, .int .i64 f5, .int .i64 f6, .int .i64 f7, .int .i64 f8, .int .i64 f9, .int .i64 f10, .int .i64 f11, .int .i64 f12, .int .i64 f13, .int .i64 f14, .int .i64 f15, .int .i64 f16, .int .i64 f17, .int .i64 f18, .int .i64 f19] 58 (0, 0))) : W.cell? ⟨g, 15, none⟩ = some (.int .i64 f15) := (blk_cell h 15).trans rfl
theorem IsS58.set_15 {w0 W : World} {g : Nat} {f0 : Int} {f1 : Int} {f2 : Int} {f3 : Int} {f4 : Int} {f5 : Int} {f6 : Int} {f7 : Int} {f8 : Int} {f9 : Int} {f10 : Int} {f11 : Int} {f12 : Int} {f13 : Int} {f14 : Int} {f15 : Int} {f16 : Int} {f17 : Int} {f18 : Int} {f19 : Int} (h : IsS58 w0 W g f0 f1 f2 f3 f4 f5 f6 f7 f8 f9 f10 f11 f12 f13 f14 f15 f16 f17 f18 f19) (x : Int) : IsS58 w0 (W.setCell ⟨g, 15, none⟩ (.int .i64 x)) g f0 f1 f2 f3 f4 f5 f6 f7 f8 f9 f10 f11 f12 f13 f14 x f16 f17 f18 f19 := by
 obtain ⟨hb, hg⟩ := h
 exact ⟨by simpa using blk_set hb 15 (.int .i64 x), hg⟩
theorem cellS58_16 {W : World} {g : Nat} {f0 : Int} {f1 : Int} {f2 : Int} {f3 : Int} {f4 : Int} {f5 : Int} {f6 : Int} {f7 : Int} {f8 : Int} {f9 : Int} {f10 : Int} {f11 : Int} {f12 : Int} {f13 : Int} {f14 : Int} {f15 : Int} {f16 : Int} {f17 : Int} {f18 : Int} {f19 : Int} (h : W.heap[g]? = some (.cells #[.int .i64 f0, .int .i64 f1, .int .i64 f2, .int .i64 f3, .int .i64 f4, .int .i64 f5, .int .i64 f6, .int .i64 f7, .int .i64 f8, .int .i64 f9, .int .i64 f10, .int .i64 f11, .int .i64 f12, .int .i64 f13, .int .i64 f14, .int .i64 f15, .int .i64 f16, .int .i64 f17, .int .i64 f18, .int .i64 f19] 58 (0, 0))) : W.cell? ⟨g, 16, none⟩ = some (.int .i64 f16) := (blk_cell h 16).trans rfl
theorem IsS58.set_16 {w0 W : World} {g : Nat} {f0 : Int} {f1 : Int} {f2 : Int} {f3 : Int} {f4 : Int} {f5 : Int} {f6 : Int} {f7 : Int} {f8 : Int} {f9 : Int} {f10 : Int} {f11 : Int} {f12 : Int} {f13 : Int} {f14 : Int} {f15 : Int} {f16 : Int} {f17 : Int} {f18 : Int} {f19 : Int} (h : IsS58 w0 W g f0 f1 f2 f3 f4 f5 f6 f7 f8 f9 f10 f11 f12 f13 f14 f15 f16 f17 f18 f19) (x : Int) : IsS58 w0 (W.setCell ⟨g, 16, none⟩ (.int .i64 x)) g f0 f1 f2 f3 f4 f5 f6 f7 f8 f9 f10 f11 f12 f13 f14 f15 x f17 f18 f19 := by
 obtain ⟨hb, hg⟩ := h
 exact ⟨by simpa using blk_set hb 16 (.int .i64 x), hg⟩
theorem cellS58_17 {W : World} {g : Nat} {f0 : Int} {f1 : Int} {f2 : Int} {f3 : Int} {f4 : Int} {f5 : Int} {f6 : Int} {f7 : Int} {f8 : Int} {f9 : Int} {f10 : Int} {f11 : Int} {f12 : Int} {f13 : Int} {f14 : Int} {f15 : Int} {f16 : Int} {f17 : Int} {f18 : Int} {f19 : Int} (h : W.heap[g]? = some (.cells #[.int .i64 f0, .int .i64 f1, .int .i64 f2, .int .i64 f3, .int .i64 f4, .int .i64 f5, .int .i64 f6, .int .i64 f7, .int .i64 f8, .int .i64 f9, .int .i64 f10, .int .i64 f11, .int .i64 f12, .int .i64 f13, .int .i64 f14, .int .i64 f15, .int .i64 f16, .int .i64 f17, .int .i64 f18, .int .i64 f19] 58 (0, 0))) : W.cell? ⟨g, 17, none⟩ = some (.int .i64 f17) := (blk_cell h 17).trans rfl
theorem IsS58.set_17 {w0 W : World} {g : Nat} {f0 : Int} {f1 : Int} {f2 : Int} {f3 : Int} {f4 : Int} {f5 : Int} {f6 : Int} {f7 : Int} {f8 : Int} {f9 : Int} {f10 : Int} {f11 : Int} {f12 : Int} {f13 : Int} {f14 : Int} {f15 : Int} {f16 : Int} {f17 : Int} {f18 : Int} {f19 : Int} (h : IsS58 w0 W g f0 f1 f2 f3 f4 f5 f6 f7 f8 f9 f10 f11 f12 f13 f14 f15 f16 f17 f18 f19) (x : Int) : IsS58 w0 (W.setCell ⟨g, 17, none⟩ (.int .i64 x)) g f0 f1 f2 f3 f4 f5 f6 f7 f8 f9 f10 f11 f12 f13 f14 f15 f16 x f18 f19 := by
 obtain ⟨hb, hg⟩ := h
 exact ⟨by simpa using blk_set hb 17 (.int .i64 x), hg⟩
theorem cellS58_18 {W : World} {g : Nat} {f0 : Int} {f1 : Int} {f2 : Int} {f3 : Int} {f4 : Int} {f5 : Int} {f6 : Int} {f7 : Int} {f8 : Int} {f9 : Int} {f10 : Int} {f11 : Int} {f12 : Int} {f13 : Int} {f14 : Int} {f15 : Int} {f16 : Int} {f17 : Int} {f18 : Int} {f19 : Int} (h : W.heap[g]? = some (.cells #[.int .i64 f0, .int .i64 f1, .int .i64 f2, .int .i64 f3, .int .i64 f4, .int .i64 f5, .int .i64 f6, .int .i64 f7, .int .i64 f8, .int .i64 f9, .int .i64 f10, .int .i64 f11, .int .i64 f12, .int .i64 f13, .int .i64 f14, .int .i64 f15, .int .i64 f16, .int .i64 f17, .int .i64 f18, .int .i64 f19] 58 (0, 0))) : W.cell? ⟨g, 18, none⟩ = some (.int .i64 f18) := (blk_cell h 18).trans rfl
theorem IsS58.set_18 {w0 W : World} {g : Nat} {f0 : Int} {f1 : Int} {f2 : Int} {f3 : Int} {f4 : Int} {f5 : Int} {f6 : Int} {f7 : Int} {f8 : Int} {f9 : Int} {f10 : Int} {f11 : Int} {f12 : Int} {f13 : Int} {f14 : Int} {f15 : Int} {f16 : Int} {f17 : Int} {f18 : Int} {f19 : Int} (h : IsS58 w0 W g f0 f1 f2 f3 f4 f5 f6 f7 f8 f9 f10 f11 f12 f13 f14 f15 f16 f17 f18 f19) (x : Int) : IsS58 w0 (W.setCell ⟨g, 18, none⟩ (.int .i64 x)) g f0 f1 f2 f3 f4 f5 f6 f7 f8 f9 f10 f11 f12 f13 f14 f15 f16 f17 x f19 := by
 obtain ⟨hb, hg⟩ := h
 exact ⟨by simpa using blk_set hb 18 (.int .i64 x), hg⟩
theorem cellS58_19 {W : World} {g : Nat} {f0 : Int} {f1 : Int} {f2 : Int} {f3 : Int} {f4 : Int} {f5 : Int} {f6 : Int} {f7 : Int} {f8 : Int} {f9 : Int} {f10 : Int} {f11 : Int} {f12 : Int} {f13 : Int} {f14 : Int} {f15 : Int} {f16 : Int} {f17 : Int} {f18 : Int} {f19 : Int} (h : W.heap[g]? = some (.cells #[.int .i64 f0, .int .i64 f1, .int .i64 f2, .int .i64 f3, .int .i64 f4, .int .i64 f5, .int .i64 f6, .int .i64 f7, .int .i64 f8, .int .i64 f9, .int .i64 f10, .int .i64 f11, .int .i64 f12, .int .i64 f13, .int .i64 f14, .int .i64 f15, .int .i64 f16, .int .i64 f17, .int .i64 f18, .int .i64 f19] 58 (0, 0))) : W.cell? ⟨g, 19, none⟩ = some (.int .i64 f19) := (blk_cell h 19).trans rfl
theorem IsS58.set_19 {w0 W : World} {g : Nat} {f0 : Int} {f1 : Int} {f2 : Int} {f3 : Int} {f4 : Int} {f5 : Int} {f6 : Int} {f7 : Int} {f8 : Int} {f9 : Int} {f10 : Int} {f11 : Int} {f12 : Int} {f13 : Int} {f14 : Int} {f15 : Int} {f16 : Int} {f17 : Int} {f18 : Int} {f19 : Int} (h : IsS58 w0 W g f0 f1 f2 f3 f4 f5 f6 f7 f8 f9 f10 f11 f12 f13 f14 f15 f16 f17 f18 f19) (x : Int) : IsS58 w0 (W.setCell ⟨g, 19, none⟩ (.int .i64 x)) g f0 f1 f2 f3 f4 f5 f6 f7 f8 f9 f10 f11 f12 f13 f14 f15 f16 f17 f18 x := by
 obtain ⟨hb, hg⟩ := h
 exact ⟨by simpa using blk_set hb 19 (.int .i64 x), hg⟩
theorem IsS58.new (w0 W : World) (f0 : Int) (f1 : Int) (f2 : Int) (f3 : Int) (f4 : Int) (f5 : Int) (f6 : Int) (f7 : Int) (f8 : Int) (f9 : Int) (f10 : Int) (f11 : Int) (f12 : Int) (f13 : Int) (f14 : Int) (f15 : Int) (f16 : Int) (f17 : Int) (f18 : Int) (f19 : Int) (hB : Below w0.heap.size w0 W) : IsS58 w0 (W.alloc (.cells #[.int .i64 f0, .int .i64 f1, .int .i64 f2, .int .i64 f3, .int .i64 f4, .int .i64 f5, .int .i64 f6, .int .i64 f7, .int .i64 f8, .int .i64 f9, .int .i64 f10, .int .i64 f11, .int .i64 f12, .int .i64 f13, .int .i64 f14, .int .i64 f15, .int .i64 f16, .int .i64 f17, .int .i64 f18, .int .i64 f19] 58)) W.heap.size f0 f1 f2 f3 f4 f5 f6 f7 f8 f9 f10 f11 f12 f13 f14 f15 f16 f17 f18 f19 := ⟨by simpa using heap_alloc_new W _, hB.size⟩
mutual
def impl_Talk_formOk.j0 : Nat → Bool → Bool → Int → Int → Int → Int → Int → Int → Int → Int → Int → Int → Int → Int → Int → Int → Int → Int → Int → Int → Int → Int → Option (Bool × Int × Int × Int × Int × Int × Int × Int × Int × Int × Int × Int × Int × Int × Int × Int × Int × Int × Int × Int × Int)
 | 0, _, _, _, _, _, _, _, _, _, _, _, _, _, _, _, _, _, _, _, _, _, _ => none
 | k + 1, x3, x9, x1000, x1001, x1002, x1003, x1004, x1005, x1006, x1007, x1008, x1009, x1010, x1011, x1012, x1013, x1014, x1015, x1016, x1017, x1018, x1019 => if x9 = true then (some (false, x1000, x1001, x1002, x1003, x1004, x1005, x1006, x1007, x1008, x1009, x1010, x1011, x1012, x1013, x1014, x1015, x1016, x1017, x1018, x1019)) else (if x1000 = 0 then (if x1001 = 1 then (impl_Talk_formOk.j1 k x3 true x1000 x1001 x1002 x1003 x1004 x1005 x1006 x1007 x1008 x1009 x1010 x1011 x1012 x1013 x1014 x1015 x1016 x1017 x1018 x1019) else (impl_Talk_formOk.j1 k x3 x3 x1000 x1001 x1002 x1003 x1004 x1005 x1006 x1007 x1008 x1009 x1010 x1011 x1012 x1013 x1014 x1015 x1016 x1017 x1018 x1019)) else (impl_Talk_formOk.j1 k x3 false x1000 x1001 x1002 x1003 x1004 x1005 x1006 x1007 x1008 x1009 x1010 x1011 x1012 x1013 x1014 x1015 x1016 x1017 x1018 x1019))
def impl_Talk_formOk.j1 : Nat → Bool → Bool → Int → Int → Int → Int → Int → Int → Int → Int → Int → Int → Int → Int → Int → Int → Int → Int → Int → Int → Int → Int → Option (Bool × Int × Int × Int × Int × Int × Int × Int × Int × Int × Int × Int × Int × Int × Int × Int × Int × Int × Int × Int × Int)
 | 0, _, _, _, _, _, _, _, _, _, _, _, _, _, _, _, _, _, _, _, _, _, _ => none
 | k + 1, x3, x22, x1000, x1001, x1002, x1003, x1004, x1005, x1006, x1007, x1008, x1009, x1010, x1011, x1012, x1013, x1014, x1015, x1016, x1017, x1018, x1019 => if x22 = true then (some (false, x1000, x1001, x1002, x1003, x1004, x1005, x1006, x1007, x1008, x1009, x1010, x1011, x1012, x1013, x1014, x1015, x1016, x1017, x1018, x1019)) else (if x1000 = 0 then (if x3 = true then (some (true, x1000, x1001, x1002, x1003, x1004, x1005, x1006, x1007, x1008, x1009, x1010, x1011, x1012, x1013, x1014, x1015, x1016, x1017, x1018, x1019)) else (if x1017 = 0 then (some ((x1018 == 0 && (x1019 == 0)), x1000, x1001, x1002, x1003, x1004, x1005, x1006, x1007, x1008, x1009, x1010, x1011, x1012, x1013, x1014, x1015, x1016, x1017, x1018, x1019)) else (some (false, x1000, x1001, x1002, x1003, x1004, x1005, x1006, x1007, x1008, x1009, x1010, x1011, x1012, x1013, x1014, x1015, x1016, x1017, x1018, x1019)))) else (if x1001 = 2 then (if x3 = true then (some (true, x1000, x1001, x1002, x1003, x1004, x1005, x1006, x1007, x1008, x1009, x1010, x1011, x1012, x1013, x1014, x1015, x1016, x1017, x1018, x1019)) else (some (false, x1000, x1001, x1002, x1003, x1004, x1005, x1006, x1007, x1008, x1009, x1010, x1011, x1012, x1013, x1014, x1015, x1016, x1017, x1018, x1019))) else (if x3 = true then (some (true, x1000, x1001, x1002, x1003, x1004, x1005, x1006, x1007, x1008, x1009, x1010, x1011, x1012, x1013, x1014, x1015, x1016, x1017, x1018, x1019)) else (if x1017 = 0 then (some ((x1018 == 0 && (x1019 == 0)), x1000, x1001, x1002, x1003, x1004, x1005, x1006, x1007, x1008, x1009, x1010, x1011, x1012, x1013, x1014, x1015, x1016, x1017, x1018, x1019)) else (some (false, x1000, x1001, x1002, x1003, x1004, x1005, x1006, x1007, x1008, x1009, x1010, x1011, x1012, x1013, x1014, x1015, x1016, x1017, x1018, x1019))))))
end
def impl_Talk_formOk.f (k : Nat) (s0_0 : Int) (s0_1 : Int) (s0_2 : Int) (s0_3 : Int) (s0_4 : Int) (s0_5 : Int) (s0_6 : Int) (s0_7 : Int) (s0_8 : Int) (s0_9 : Int) (s0_10 : Int) (s0_11 : Int) (s0_12 : Int) (s0_13 : Int) (s0_14 : Int) (s0_15 : Int) (s0_16 : Int) (s0_17 : Int) (s0_18 : Int) (s0_19 : Int) : Option (Bool × Int × Int × Int × Int × Int × Int × Int × Int × Int × Int × Int × Int × Int × Int × Int × Int × Int × Int × Int × Int) := if s0_1 = 2 then (impl_Talk_formOk.j0 k (s0_2 == 3) (s0_2 == 1) s0_0 s0_1 s0_2 s0_3 s0_4 s0_5 s0_6 s0_7 s0_8 s0_9 s0_10 s0_11 s0_12 s0_13 s0_14 s0_15 s0_16 s0_17 s0_18 s0_19) else (impl_Talk_formOk.j0 k (s0_2 == 3) false s0_0 s0_1 s0_2 s0_3 s0_4 s0_5 s0_6 s0_7 s0_8 s0_9 s0_10 s0_11 s0_12 s0_13 s0_14 s0_15 s0_16 s0_17 s0_18 s0_19)
set_option maxHeartbeats 8000000 in
set_option maxRecDepth 100000 in
theorem impl_Talk_formOk.calls (k : Nat) (g : Nat) (s0_0 : Int) (s0_1 : Int) (s0_2 : Int) (s0_3 : Int) (s0_4 : Int) (s0_5 : Int) (s0_6 : Int) (s0_7 : Int) (s0_8 : Int) (s0_9 : Int) (s0_10 : Int) (s0_11 : Int) (s0_12 : Int) (s0_13 : Int) (s0_14 : Int) (s0_15 : Int) (s0_16 : Int) (s0_17 : Int) (s0_18 : Int) (s0_19 : Int) (r1 : Bool) (r2 : Int) (r3 : Int) (r4 : Int) (r5 : Int) (r6 : Int) (r7 : Int) (r8 : Int) (r9 : Int) (r10 : Int) (r11 : Int) (r12 : Int) (r13 : Int) (r14 : Int) (r15 : Int) (r16 : Int) (r17 : Int) (r18 : Int) (r19 : Int) (r20 : Int) (r21 : Int) (w0 w : World) (hI : IsS58 w0 w g s0_0 s0_1 s0_2 s0_3 s0_4 s0_5 s0_6 s0_7 s0_8 s0_9 s0_10 s0_11 s0_12 s0_13 s0_14 s0_15 s0_16 s0_17 s0_18 s0_19) (hB : Below w0.heap.size w0 w) (h : impl_Talk_formOk.f k s0_0 s0_1 s0_2 s0_3 s0_4 s0_5 s0_6 s0_7 s0_8 s0_9 s0_10 s0_11 s0_12 s0_13 s0_14 s0_15 s0_16 s0_17 s0_18 s0_19 = some (r1, r2, r3, r4, r5, r6, r7, r8, r9, r10, r11, r12, r13, r14, r15, r16, r17, r18, r19, r20, r21)) :
  Calls Try.prog 53 #[.pointer (some ⟨g, 0, none⟩)] w fun e w' => e = .returned (.bool r1) ∧ IsS58 w0 w' g r2 r3 r4 r5 r6 r7 r8 r9 r10 r11 r12 r13 r14 r15 r16 r17 r18 r19 r20 r21 ∧ Below w0.heap.size w0 w' ∧ KeepBut w w' g none := by
 have hu56 := Try.underlying56
 have HI0 := Aside0.mk hI
 have HK := Aside0.mk (KeepBut.refl w g none)
 have HL := Aside0.mk hB.size
 clear hI
 have HW0 := Aside0.mk hB.size
 have HB := Aside0.mk hB
 clear hB
 have H : (if s0_1 = 2 then (impl_Talk_formOk.j0 k (s0_2 == 3) (s0_2 == 1) s0_0 s0_1 s0_2 s0_3 s0_4 s0_5 s0_6 s0_7 s0_8 s0_9 s0_10 s0_11 s0_12 s0_13 s0_14 s0_15 s0_16 s0_17 s0_18 s0_19) else (impl_Talk_formOk.j0 k (s0_2 == 3) false s0_0 s0_1 s0_2 s0_3 s0_4 s0_5 s0_6 s0_7 s0_8 s0_9 s0_10 s0_11 s0_12 s0_13 s0_14 s0_15 s0_16 s0_17 s0_18 s0_19)) = some (r1, r2, r3, r4, r5, r6, r7, r8, r9, r10, r11, r12, r13, r14, r15, r16, r17, r18, r19, r20, r21) := h
 clear h
 have a0 := Aside0.mk H
 clear H
 obtain ⟨HGz3, hgz3⟩ := HI0.out
 have hcz3_0 := cellS58_0 HGz3
 have hcz3_1 := cellS58_1 HGz3
 have hcz3_2 := cellS58_2 HGz3
 have hcz3_3 := cellS58_3 HGz3
 have hcz3_4 := cellS58_4 HGz3
 have hcz3_5 := cellS58_5 HGz3
 have hcz3_6 := cellS58_6 HGz3
 have hcz3_7 := cellS58_7 HGz3
 have hcz3_8 := cellS58_8 HGz3
 have hcz3_9 := cellS58_9 HGz3
 have hcz3_10 := cellS58_10 HGz3
 have hcz3_11 := cellS58_11 HGz3
 have hcz3_12 := cellS58_12 HGz3
 have hcz3_13 := cellS58_13 HGz3
 have hcz3_14 := cellS58_14 HGz3
 have hcz3_15 := cellS58_15 HGz3
 have hcz3_16 := cellS58_16 HGz3
 have hcz3_17 := cellS58_17 HGz3
 have hcz3_18 := cellS58_18 HGz3
 have hcz3_19 := cellS58_19 HGz3
 have hfz3_0 := blk_frozen HGz3 0
 have hfz3_1 := blk_frozen HGz3 1
 have hfz3_2 := blk_frozen HGz3 2
 have hfz3_3 := blk_frozen HGz3 3
 have hfz3_4 := blk_frozen HGz3 4
 have hfz3_5 := blk_frozen HGz3 5
 have hfz3_6 := blk_frozen HGz3 6
 have hfz3_7 := blk_frozen HGz3 7
 have hfz3_8 := blk_frozen HGz3 8
 have hfz3_9 := blk_frozen HGz3 9
 have hfz3_10 := blk_frozen HGz3 10
 have hfz3_11 := blk_frozen HGz3 11
 have hfz3_12 := blk_frozen HGz3 12
 have hfz3_13 := blk_frozen HGz3 13
 have hfz3_14 := blk_frozen HGz3 14
 have hfz3_15 := blk_frozen HGz3 15
 have hfz3_16 := blk_frozen HGz3 16
 have hfz3_17 := blk_frozen HGz3 17
 have hfz3_18 := blk_frozen HGz3 18
 have hfz3_19 := blk_frozen HGz3 19
 clear HGz3 hgz3
 go_enter Try.func53, Try.ntmps53
 go_upto_region 2 with (fail)
 go_cut [9] (fun v9 wc => ∃ (kq : Nat) (x9_1 : Bool), v9 = .bool x9_1 ∧ Aside0 (impl_Talk_formOk.j0 kq (s0_2 == 3) x9_1 s0_0 s0_1 s0_2 s0_3 s0_4 s0_5 s0_6 s0_7 s0_8 s0_9 s0_10 s0_11 s0_12 s0_13 s0_14 s0_15 s0_16 s0_17 s0_18 s0_19 = some (r1, r2, r3, r4, r5, r6, r7, r8, r9, r10, r11, r12, r13, r14, r15, r16, r17, r18, r19, r20, r21)) ∧ Aside0 (kq ≤ k) ∧ Aside0 (IsS58 w0 wc g s0_0 s0_1 s0_2 s0_3 s0_4 s0_5 s0_6 s0_7 s0_8 s0_9 s0_10 s0_11 s0_12 s0_13 s0_14 s0_15 s0_16 s0_17 s0_18 s0_19) ∧ Aside0 (KeepBut w wc g none) ∧ Aside0 (Below w0.heap.size w0 wc))
 case first =>
  have H := a0.out
  clear a0
  by_cases c4 : s0_1 = 2
  ·rw [if_pos c4] at H
   have c4b0 : (s0_1 == 2) = true := beq_iff_eq.mpr c4
   have c4b1 : (s0_1 != 2) = false := bne_eq_false_iff_eq.mpr c4
   clear c4
   (first | rw [c4b0] | (simp only [i64_w, i32_w]; rw [c4b0]) | skip)
   have H' := Aside0.mk H
   clear H
   obtain ⟨HGz5, hgz5⟩ := HI0.out
   have hcz5_0 := cellS58_0 HGz5
   have hcz5_1 := cellS58_1 HGz5
   have hcz5_2 := cellS58_2 HGz5
   have hcz5_3 := cellS58_3 HGz5
   have hcz5_4 := cellS58_4 HGz5
   have hcz5_5 := cellS58_5 HGz5
   have hcz5_6 := cellS58_6 HGz5
   have hcz5_7 := cellS58_7 HGz5
   have hcz5_8 := cellS58_8 HGz5
   have hcz5_9 := cellS58_9 HGz5
   have hcz5_10 := cellS58_10 HGz5
   have hcz5_11 := cellS58_11 HGz5
   have hcz5_12 := cellS58_12 HGz5
   have hcz5_13 := cellS58_13 HGz5
   have hcz5_14 := cellS58_14 HGz5
   have hcz5_15 := cellS58_15 HGz5
   have hcz5_16 := cellS58_16 HGz5
   have hcz5_17 := cellS58_17 HGz5
   have hcz5_18 := cellS58_18 HGz5
   have hcz5_19 := cellS58_19 HGz5
   have hfz5_0 := blk_frozen HGz5 0
   have hfz5_1 := blk_frozen HGz5 1
   have hfz5_2 := blk_frozen HGz5 2
   have hfz5_3 := blk_frozen HGz5 3
   have hfz5_4 := blk_frozen HGz5 4
   have hfz5_5 := blk_frozen HGz5 5
   have hfz5_6 := blk_frozen HGz5 6
   have hfz5_7 := blk_frozen HGz5 7
   have hfz5_8 := blk_frozen HGz5 8
   have hfz5_9 := blk_frozen HGz5 9
   have hfz5_10 := blk_frozen HGz5 10
   have hfz5_11 := blk_frozen HGz5 11
   have hfz5_12 := blk_frozen HGz5 12
   have hfz5_13 := blk_frozen HGz5 13
   have hfz5_14 := blk_frozen HGz5 14
   have hfz5_15 := blk_frozen HGz5 15
   have hfz5_16 := blk_frozen HGz5 16
   have hfz5_17 := blk_frozen HGz5 17
   have hfz5_18 := blk_frozen HGz5 18
   have hfz5_19 := blk_frozen HGz5 19
   clear HGz5 hgz5
   go_wp2
   go_meet
   case rel => exact ⟨_, ((s0_2 == 1)), (by first | rfl | (simp; done) | (simp [*]; done)), H', ⟨by first | omega | exact Nat.le_refl _⟩, ⟨by repeat (first | (with_reducible first | exact HI0.out | apply IsS58.alloc | apply IsS58.drewN | apply IsS58.drew | apply IsS58.set_0 | apply IsS58.set_1 | apply IsS58.set_2 | apply IsS58.set_3 | apply IsS58.set_4 | apply IsS58.set_5 | apply IsS58.set_6 | apply IsS58.set_7 | apply IsS58.set_8 | apply IsS58.set_9 | apply IsS58.set_10 | apply IsS58.set_11 | apply IsS58.set_12 | apply IsS58.set_13 | apply IsS58.set_14 | apply IsS58.set_15 | apply IsS58.set_16 | apply IsS58.set_17 | apply IsS58.set_18 | apply IsS58.set_19) | exact HI0.out)⟩, ⟨by repeat (first | (with_reducible first | exact HK.out | apply KeepBut.set_ | apply kN_ | apply kD_ | apply kA_) | exact HK.out)⟩, ⟨by repeat (first | (with_reducible first | exact HB.out | apply lA1_ | apply lN_ | apply lD_ | refine lS1_ ?_ (IsS58.ge HI0.out)) | exact HB.out)⟩⟩
  ·rw [if_neg c4] at H
   have c4b0 : (s0_1 == 2) = false := beq_eq_false_iff_ne.mpr c4
   have c4b1 : (s0_1 != 2) = true := bne_iff_ne.mpr c4
   (first | rw [c4b0] | (simp only [i64_w, i32_w]; rw [c4b0]) | skip)
   have H' := Aside0.mk H
   clear H
   obtain ⟨HGz6, hgz6⟩ := HI0.out
   have hcz6_0 := cellS58_0 HGz6
   have hcz6_1 := cellS58_1 HGz6
   have hcz6_2 := cellS58_2 HGz6
   have hcz6_3 := cellS58_3 HGz6
   have hcz6_4 := cellS58_4 HGz6
   have hcz6_5 := cellS58_5 HGz6
   have hcz6_6 := cellS58_6 HGz6
   have hcz6_7 := cellS58_7 HGz6
   have hcz6_8 := cellS58_8 HGz6
   have hcz6_9 := cellS58_9 HGz6
   have hcz6_10 := cellS58_10 HGz6
   have hcz6_11 := cellS58_11 HGz6
   have hcz6_12 := cellS58_12 HGz6
   have hcz6_13 := cellS58_13 HGz6
   have hcz6_14 := cellS58_14 HGz6
   have hcz6_15 := cellS58_15 HGz6
   have hcz6_16 := cellS58_16 HGz6
   have hcz6_17 := cellS58_17 HGz6
   have hcz6_18 := cellS58_18 HGz6
   have hcz6_19 := cellS58_19 HGz6
   have hfz6_0 := blk_frozen HGz6 0
   have hfz6_1 := blk_frozen HGz6 1
   have hfz6_2 := blk_frozen HGz6 2
   have hfz6_3 := blk_frozen HGz6 3
   have hfz6_4 := blk_frozen HGz6 4
   have hfz6_5 := blk_frozen HGz6 5
   have hfz6_6 := blk_frozen HGz6 6
   have hfz6_7 := blk_frozen HGz6 7
   have hfz6_8 := blk_frozen HGz6 8
   have hfz6_9 := blk_frozen HGz6 9
   have hfz6_10 := blk_frozen HGz6 10
   have hfz6_11 := blk_frozen HGz6 11
   have hfz6_12 := blk_frozen HGz6 12
   have hfz6_13 := blk_frozen HGz6 13
   have hfz6_14 := blk_frozen HGz6 14
   have hfz6_15 := blk_frozen HGz6 15
   have hfz6_16 := blk_frozen HGz6 16
   have hfz6_17 := blk_frozen HGz6 17
   have hfz6_18 := blk_frozen HGz6 18
   have hfz6_19 := blk_frozen HGz6 19
   clear HGz6 hgz6
   go_wp2
   go_meet
   case rel => exact ⟨_, (false), (by first | rfl | (simp; done) | (simp [*]; done)), H', ⟨by first | omega | exact Nat.le_refl _⟩, ⟨by repeat (first | (with_reducible first | exact HI0.out | apply IsS58.alloc | apply IsS58.drewN | apply IsS58.drew | apply IsS58.set_0 | apply IsS58.set_1 | apply IsS58.set_2 | apply IsS58.set_3 | apply IsS58.set_4 | apply IsS58.set_5 | apply IsS58.set_6 | apply IsS58.set_7 | apply IsS58.set_8 | apply IsS58.set_9 | apply IsS58.set_10 | apply IsS58.set_11 | apply IsS58.set_12 | apply IsS58.set_13 | apply IsS58.set_14 | apply IsS58.set_15 | apply IsS58.set_16 | apply IsS58.set_17 | apply IsS58.set_18 | apply IsS58.set_19) | exact HI0.out)⟩, ⟨by repeat (first | (with_reducible first | exact HK.out | apply KeepBut.set_ | apply kN_ | apply kD_ | apply kA_) | exact HK.out)⟩, ⟨by repeat (first | (with_reducible first | exact HB.out | apply lA1_ | apply lN_ | apply lD_ | refine lS1_ ?_ (IsS58.ge HI0.out)) | exact HB.out)⟩⟩
 case rest =>
  clear a0
  try clear p2
  try clear c4
  try clear c4b0
  try clear c4b1
  try clear c5
  try clear hcz3_0
  try clear hcz3_1
  try clear hcz3_10
  try clear hcz3_11
  try clear hcz3_12
  try clear hcz3_13
  try clear hcz3_14
  try clear hcz3_15
  try clear hcz3_16
  try clear hcz3_17
  try clear hcz3_18
  try clear hcz3_19
  try clear hcz3_2
  try clear hcz3_3
  try clear hcz3_4
  try clear hcz3_5
  try clear hcz3_6
  try clear hcz3_7
  try clear hcz3_8
  try clear hcz3_9
  try clear hcz5_0
  try clear hcz5_1
  try clear hcz5_10
  try clear hcz5_11
  try clear hcz5_12
  try clear hcz5_13
  try clear hcz5_14
  try clear hcz5_15
  try clear hcz5_16
  try clear hcz5_17
  try clear hcz5_18
  try clear hcz5_19
  try clear hcz5_2
  try clear hcz5_3
  try clear hcz5_4
  try clear hcz5_5
  try clear hcz5_6
  try clear hcz5_7
  try clear hcz5_8
  try clear hcz5_9
  try clear hcz6_0
  try clear hcz6_1
  try clear hcz6_10
  try clear hcz6_11
  try clear hcz6_12
  try clear hcz6_13
  try clear hcz6_14
  try clear hcz6_15
  try clear hcz6_16
  try clear hcz6_17
  try clear hcz6_18
  try clear hcz6_19
  try clear hcz6_2
  try clear hcz6_3
  try clear hcz6_4
  try clear hcz6_5
  try clear hcz6_6
  try clear hcz6_7
  try clear hcz6_8
  try clear hcz6_9
  try clear hfz3_0
  try clear hfz3_1
  try clear hfz3_10
  try clear hfz3_11
  try clear hfz3_12
  try clear hfz3_13
  try clear hfz3_14
  try clear hfz3_15
  try clear hfz3_16
  try clear hfz3_17
  try clear hfz3_18
  try clear hfz3_19
  try clear hfz3_2
  try clear hfz3_3
  try clear hfz3_4
  try clear hfz3_5
  try clear hfz3_6
  try clear hfz3_7
  try clear hfz3_8
  try clear hfz3_9
  try clear hfz5_0
  try clear hfz5_1
  try clear hfz5_10
  try clear hfz5_11
  try clear hfz5_12
  try clear hfz5_13
  try clear hfz5_14
  try clear hfz5_15
  try clear hfz5_16
  try clear hfz5_17
  try clear hfz5_18
  try clear hfz5_19
  try clear hfz5_2
  try clear hfz5_3
  try clear hfz5_4
  try clear hfz5_5
  try clear hfz5_6
  try clear hfz5_7
  try clear hfz5_8
  try clear hfz5_9
  try clear hfz6_0
  try clear hfz6_1
  try clear hfz6_10
  try clear hfz6_11
  try clear hfz6_12
  try clear hfz6_13
  try clear hfz6_14
  try clear hfz6_15
  try clear hfz6_16
  try clear hfz6_17
  try clear hfz6_18
  try clear hfz6_19
  try clear hfz6_2
  try clear hfz6_3
  try clear hfz6_4
  try clear hfz6_5
  try clear hfz6_6
  try clear hfz6_7
  try clear hfz6_8
  try clear hfz6_9
  obtain ⟨kq, x9_1, rfl, HA, HJ1, HI0, HK, HB⟩ := hcut
  cases kq with
  | zero => exact absurd HA.out (by simp [impl_Talk_formOk.j0])
  | succ kj1 =>
   have H := HA.out
   clear HA
   simp only [impl_Talk_formOk.j0] at H
   by_cases c7 : x9_1 = true
   ·subst c7
    rw [if_pos rfl] at H
    simp only [Option.some.injEq, Prod.mk.injEq] at H
    obtain ⟨rfl, rfl, rfl, rfl, rfl, rfl, rfl, rfl, rfl, rfl, rfl, rfl, rfl, rfl, rfl, rfl, rfl, rfl, rfl, rfl, rfl⟩ := H
    go_wp2
    go_ret
    exact ⟨by first | rfl | (simp [errW_none, errW_some] <;> rfl) | (simp [*, errW_none, errW_some] <;> rfl), by repeat (first | (with_reducible first | exact HI0.out | apply IsS58.alloc | apply IsS58.drewN | apply IsS58.drew | apply IsS58.set_0 | apply IsS58.set_1 | apply IsS58.set_2 | apply IsS58.set_3 | apply IsS58.set_4 | apply IsS58.set_5 | apply IsS58.set_6 | apply IsS58.set_7 | apply IsS58.set_8 | apply IsS58.set_9 | apply IsS58.set_10 | apply IsS58.set_11 | apply IsS58.set_12 | apply IsS58.set_13 | apply IsS58.set_14 | apply IsS58.set_15 | apply IsS58.set_16 | apply IsS58.set_17 | apply IsS58.set_18 | apply IsS58.set_19) | exact HI0.out), by repeat (first | (with_reducible first | exact HB.out | apply lA1_ | apply lN_ | apply lD_ | refine lS1_ ?_ (IsS58.ge HI0.out)) | exact HB.out), by repeat (first | (with_reducible first | exact HK.out | apply KeepBut.set_ | apply kN_ | apply kD_ | apply kA_) | exact HK.out)⟩
   ·replace c7 := Bool.eq_false_iff.mpr c7
    subst c7
    rw [if_neg (show ¬ (false = true) by decide)] at H
    have a1 := Aside0.mk H
    clear H
    go_upto_region 4 with (fail)
    go_cut [22] (fun v22 wc => ∃ (kq : Nat) (x22_7 : Bool), v22 = .bool x22_7 ∧ Aside0 (impl_Talk_formOk.j1 kq (s0_2 == 3) x22_7 s0_0 s0_1 s0_2 s0_3 s0_4 s0_5 s0_6 s0_7 s0_8 s0_9 s0_10 s0_11 s0_12 s0_13 s0_14 s0_15 s0_16 s0_17 s0_18 s0_19 = some (r1, r2, r3, r4, r5, r6, r7, r8, r9, r10, r11, r12, r13, r14, r15, r16, r17, r18, r19, r20, r21)) ∧ Aside0 (kq ≤ kj1) ∧ Aside0 (IsS58 w0 wc g s0_0 s0_1 s0_2 s0_3 s0_4 s0_5 s0_6 s0_7 s0_8 s0_9 s0_10 s0_11 s0_12 s0_13 s0_14 s0_15 s0_16 s0_17 s0_18 s0_19) ∧ Aside0 (KeepBut w wc g none) ∧ Aside0 (Below w0.heap.size w0 wc))
    case first =>
     have H := a1.out
     clear a1
     by_cases c9 : s0_0 = 0
     ·rw [if_pos c9] at H
      have c9b0 : (s0_0 == 0) = true := beq_iff_eq.mpr c9
      have c9b1 : (s0_0 != 0) = false := bne_eq_false_iff_eq.mpr c9
      clear c9
      (first | rw [c9b0] | (simp only [i64_w, i32_w]; rw [c9b0]) | skip)
      by_cases c10 : s0_1 = 1
      ·rw [if_pos c10] at H
       have c10b0 : (s0_1 == 1) = true := beq_iff_eq.mpr c10
       have c10b1 : (s0_1 != 1) = false := bne_eq_false_iff_eq.mpr c10
       clear c10
       have H' := Aside0.mk H
       clear H
       obtain ⟨HGz11, hgz11⟩ := HI0.out
       have hcz11_0 := cellS58_0 HGz11
       have hcz11_1 := cellS58_1 HGz11
       have hcz11_2 := cellS58_2 HGz11
       have hcz11_3 := cellS58_3 HGz11
       have hcz11_4 := cellS58_4 HGz11
       have hcz11_5 := cellS58_5 HGz11
       have hcz11_6 := cellS58_6 HGz11
       have hcz11_7 := cellS58_7 HGz11
       have hcz11_8 := cellS58_8 HGz11
       have hcz11_9 := cellS58_9 HGz11
       have hcz11_10 := cellS58_10 HGz11
       have hcz11_11 := cellS58_11 HGz11
       have hcz11_12 := cellS58_12 HGz11
       have hcz11_13 := cellS58_13 HGz11
       have hcz11_14 := cellS58_14 HGz11
       have hcz11_15 := cellS58_15 HGz11
       have hcz11_16 := cellS58_16 HGz11
       have hcz11_17 := cellS58_17 HGz11
       have hcz11_18 := cellS58_18 HGz11
       have hcz11_19 := cellS58_19 HGz11
       have hfz11_0 := blk_frozen HGz11 0
       have hfz11_1 := blk_frozen HGz11 1
       have hfz11_2 := blk_frozen HGz11 2
       have hfz11_3 := blk_frozen HGz11 3
       have hfz11_4 := blk_frozen HGz11 4
       have hfz11_5 := blk_frozen HGz11 5
       have hfz11_6 := blk_frozen HGz11 6
       have hfz11_7 := blk_frozen HGz11 7
       have hfz11_8 := blk_frozen HGz11 8
       have hfz11_9 := blk_frozen HGz11 9
       have hfz11_10 := blk_frozen HGz11 10
       have hfz11_11 := blk_frozen HGz11 11
       have hfz11_12 := blk_frozen HGz11 12
       have hfz11_13 := blk_frozen HGz11 13
       have hfz11_14 := blk_frozen HGz11 14
       have hfz11_15 := blk_frozen HGz11 15
       have hfz11_16 := blk_frozen HGz11 16
       have hfz11_17 := blk_frozen HGz11 17
       have hfz11_18 := blk_frozen HGz11 18
       have hfz11_19 := blk_frozen HGz11 19
       clear HGz11 hgz11
       go_wp2
       go_meet
       case rel => exact ⟨_, (true), (by first | rfl | (simp; done) | (simp [*]; done)), H', ⟨by have := HJ1.out; first | omega | exact Nat.le_refl _⟩, ⟨by repeat (first | (with_reducible first | exact HI0.out | apply IsS58.alloc | apply IsS58.drewN | apply IsS58.drew | apply IsS58.set_0 | apply IsS58.set_1 | apply IsS58.set_2 | apply IsS58.set_3 | apply IsS58.set_4 | apply IsS58.set_5 | apply IsS58.set_6 | apply IsS58.set_7 | apply IsS58.set_8 | apply IsS58.set_9 | apply IsS58.set_10 | apply IsS58.set_11 | apply IsS58.set_12 | apply IsS58.set_13 | apply IsS58.set_14 | apply IsS58.set_15 | apply IsS58.set_16 | apply IsS58.set_17 | apply IsS58.set_18 | apply IsS58.set_19) | exact HI0.out)⟩, ⟨by repeat (first | (with_reducible first | exact HK.out | apply KeepBut.set_ | apply kN_ | apply kD_ | apply kA_) | exact HK.out)⟩, ⟨by repeat (first | (with_reducible first | exact HB.out | apply lA1_ | apply lN_ | apply lD_ | refine lS1_ ?_ (IsS58.ge HI0.out)) | exact HB.out)⟩⟩
      ·rw [if_neg c10] at H
       have c10b0 : (s0_1 == 1) = false := beq_eq_false_iff_ne.mpr c10
       have c10b1 : (s0_1 != 1) = true := bne_iff_ne.mpr c10
       have H' := Aside0.mk H
       clear H
       obtain ⟨HGz12, hgz12⟩ := HI0.out
       have hcz12_0 := cellS58_0 HGz12
       have hcz12_1 := cellS58_1 HGz12
       have hcz12_2 := cellS58_2 HGz12
       have hcz12_3 := cellS58_3 HGz12
       have hcz12_4 := cellS58_4 HGz12
       have hcz12_5 := cellS58_5 HGz12
       have hcz12_6 := cellS58_6 HGz12
       have hcz12_7 := cellS58_7 HGz12
       have hcz12_8 := cellS58_8 HGz12
       have hcz12_9 := cellS58_9 HGz12
       have hcz12_10 := cellS58_10 HGz12
       have hcz12_11 := cellS58_11 HGz12
       have hcz12_12 := cellS58_12 HGz12
       have hcz12_13 := cellS58_13 HGz12
       have hcz12_14 := cellS58_14 HGz12
       have hcz12_15 := cellS58_15 HGz12
       have hcz12_16 := cellS58_16 HGz12
       have hcz12_17 := cellS58_17 HGz12
       have hcz12_18 := cellS58_18 HGz12
       have hcz12_19 := cellS58_19 HGz12
       have hfz12_0 := blk_frozen HGz12 0
       have hfz12_1 := blk_frozen HGz12 1
       have hfz12_2 := blk_frozen HGz12 2
       have hfz12_3 := blk_frozen HGz12 3
       have hfz12_4 := blk_frozen HGz12 4
       have hfz12_5 := blk_frozen HGz12 5
       have hfz12_6 := blk_frozen HGz12 6
       have hfz12_7 := blk_frozen HGz12 7
       have hfz12_8 := blk_frozen HGz12 8
       have hfz12_9 := blk_frozen HGz12 9
       have hfz12_10 := blk_frozen HGz12 10
       have hfz12_11 := blk_frozen HGz12 11
       have hfz12_12 := blk_frozen HGz12 12
       have hfz12_13 := blk_frozen HGz12 13
       have hfz12_14 := blk_frozen HGz12 14
       have hfz12_15 := blk_frozen HGz12 15
       have hfz12_16 := blk_frozen HGz12 16
       have hfz12_17 := blk_frozen HGz12 17
       have hfz12_18 := blk_frozen HGz12 18
       have hfz12_19 := blk_frozen HGz12 19
       clear HGz12 hgz12
       go_wp2
       go_meet
       case rel => exact ⟨_, ((s0_2 == 3)), (by first | rfl | (simp; done) | (simp [*]; done)), H', ⟨by have := HJ1.out; first | omega | exact Nat.le_refl _⟩, ⟨by repeat (first | (with_reducible first | exact HI0.out | apply IsS58.alloc | apply IsS58.drewN | apply IsS58.drew | apply IsS58.set_0 | apply IsS58.set_1 | apply IsS58.set_2 | apply IsS58.set_3 | apply IsS58.set_4 | apply IsS58.set_5 | apply IsS58.set_6 | apply IsS58.set_7 | apply IsS58.set_8 | apply IsS58.set_9 | apply IsS58.set_10 | apply IsS58.set_11 | apply IsS58.set_12 | apply IsS58.set_13 | apply IsS58.set_14 | apply IsS58.set_15 | apply IsS58.set_16 | apply IsS58.set_17 | apply IsS58.set_18 | apply IsS58.set_19) | exact HI0.out)⟩, ⟨by repeat (first | (with_reducible first | exact HK.out | apply KeepBut.set_ | apply kN_ | apply kD_ | apply kA_) | exact HK.out)⟩, ⟨by repeat (first | (with_reducible first | exact HB.out | apply lA1_ | apply lN_ | apply lD_ | refine lS1_ ?_ (IsS58.ge HI0.out)) | exact HB.out)⟩⟩
     ·rw [if_neg c9] at H
      have c9b0 : (s0_0 == 0) = false := beq_eq_false_iff_ne.mpr c9
      have c9b1 : (s0_0 != 0) = true := bne_iff_ne.mpr c9
      (first | rw [c9b0] | (simp only [i64_w, i32_w]; rw [c9b0]) | skip)
      have H' := Aside0.mk H
      clear H
      obtain ⟨HGz13, hgz13⟩ := HI0.out
      have hcz13_0 := cellS58_0 HGz13
      have hcz13_1 := cellS58_1 HGz13
      have hcz13_2 := cellS58_2 HGz13
      have hcz13_3 := cellS58_3 HGz13
      have hcz13_4 := cellS58_4 HGz13
      have hcz13_5 := cellS58_5 HGz13
      have hcz13_6 := cellS58_6 HGz13
      have hcz13_7 := cellS58_7 HGz13
      have hcz13_8 := cellS58_8 HGz13
      have hcz13_9 := cellS58_9 HGz13
      have hcz13_10 := cellS58_10 HGz13
      have hcz13_11 := cellS58_11 HGz13
      have hcz13_12 := cellS58_12 HGz13
      have hcz13_13 := cellS58_13 HGz13
      have hcz13_14 := cellS58_14 HGz13
      have hcz13_15 := cellS58_15 HGz13
      have hcz13_16 := cellS58_16 HGz13
      have hcz13_17 := cellS58_17 HGz13
      have hcz13_18 := cellS58_18 HGz13
      have hcz13_19 := cellS58_19 HGz13
      have hfz13_0 := blk_frozen HGz13 0
      have hfz13_1 := blk_frozen HGz13 1
      have hfz13_2 := blk_frozen HGz13 2
      have hfz13_3 := blk_frozen HGz13 3
      have hfz13_4 := blk_frozen HGz13 4
      have hfz13_5 := blk_frozen HGz13 5
      have hfz13_6 := blk_frozen HGz13 6
      have hfz13_7 := blk_frozen HGz13 7
      have hfz13_8 := blk_frozen HGz13 8
      have hfz13_9 := blk_frozen HGz13 9
      have hfz13_10 := blk_frozen HGz13 10
      have hfz13_11 := blk_frozen HGz13 11
      have hfz13_12 := blk_frozen HGz13 12
      have hfz13_13 := blk_frozen HGz13 13
      have hfz13_14 := blk_frozen HGz13 14
      have hfz13_15 := blk_frozen HGz13 15
      have hfz13_16 := blk_frozen HGz13 16
      have hfz13_17 := blk_frozen HGz13 17
      have hfz13_18 := blk_frozen HGz13 18
      have hfz13_19 := blk_frozen HGz13 19
      clear HGz13 hgz13
      go_wp2
      go_meet
      case rel => exact ⟨_, (false), (by first | rfl | (simp; done) | (simp [*]; done)), H', ⟨by have := HJ1.out; first | omega | exact Nat.le_refl _⟩, ⟨by repeat (first | (with_reducible first | exact HI0.out | apply IsS58.alloc | apply IsS58.drewN | apply IsS58.drew | apply IsS58.set_0 | apply IsS58.set_1 | apply IsS58.set_2 | apply IsS58.set_3 | apply IsS58.set_4 | apply IsS58.set_5 | apply IsS58.set_6 | apply IsS58.set_7 | apply IsS58.set_8 | apply IsS58.set_9 | apply IsS58.set_10 | apply IsS58.set_11 | apply IsS58.set_12 | apply IsS58.set_13 | apply IsS58.set_14 | apply IsS58.set_15 | apply IsS58.set_16 | apply IsS58.set_17 | apply IsS58.set_18 | apply IsS58.set_19) | exact HI0.out)⟩, ⟨by repeat (first | (with_reducible first | exact HK.out | apply KeepBut.set_ | apply kN_ | apply kD_ | apply kA_) | exact HK.out)⟩, ⟨by repeat (first | (with_reducible first | exact HB.out | apply lA1_ | apply lN_ | apply lD_ | refine lS1_ ?_ (IsS58.ge HI0.out)) | exact HB.out)⟩⟩
    case rest =>
     clear a1
     try clear c1
     try clear p2
     try clear c4
     try clear c4b0
     try clear c4b1
     try clear c5
     try clear c7
     try clear c9
     try clear c9b0
     try clear c9b1
     try clear c10
     try clear c10b0
     try clear c10b1
     try clear hcz11_0
     try clear hcz11_1
     try clear hcz11_10
     try clear hcz11_11
     try clear hcz11_12
     try clear hcz11_13
     try clear hcz11_14
     try clear hcz11_15
     try clear hcz11_16
     try clear hcz11_17
     try clear hcz11_18
     try clear hcz11_19
     try clear hcz11_2
     try clear hcz11_3
     try clear hcz11_4
     try clear hcz11_5
     try clear hcz11_6
     try clear hcz11_7
     try clear hcz11_8
     try clear hcz11_9
     try clear hcz12_0
     try clear hcz12_1
     try clear hcz12_10
     try clear hcz12_11
     try clear hcz12_12
     try clear hcz12_13
     try clear hcz12_14
     try clear hcz12_15
     try clear hcz12_16
     try clear hcz12_17
     try clear hcz12_18
     try clear hcz12_19
     try clear hcz12_2
     try clear hcz12_3
     try clear hcz12_4
     try clear hcz12_5
     try clear hcz12_6
     try clear hcz12_7
     try clear hcz12_8
     try clear hcz12_9
     try clear hcz13_0
     try clear hcz13_1
     try clear hcz13_10
     try clear hcz13_11
     try clear hcz13_12
     try clear hcz13_13
     try clear hcz13_14
     try clear hcz13_15
     try clear hcz13_16
     try clear hcz13_17
     try clear hcz13_18
     try clear hcz13_19
     try clear hcz13_2
     try clear hcz13_3
     try clear hcz13_4
     try clear hcz13_5
     try clear hcz13_6
     try clear hcz13_7
     try clear hcz13_8
     try clear hcz13_9
     try clear hcz3_0
     try clear hcz3_1
     try clear hcz3_10
     try clear hcz3_11
     try clear hcz3_12
     try clear hcz3_13
     try clear hcz3_14
     try clear hcz3_15
     try clear hcz3_16
     try clear hcz3_17
     try clear hcz3_18
     try clear hcz3_19
     try clear hcz3_2
     try clear hcz3_3
     try clear hcz3_4
     try clear hcz3_5
     try clear hcz3_6
     try clear hcz3_7
     try clear hcz3_8
     try clear hcz3_9
     try clear hcz5_0
     try clear hcz5_1
     try clear hcz5_10
     try clear hcz5_11
     try clear hcz5_12
     try clear hcz5_13
     try clear hcz5_14
     try clear hcz5_15
     try clear hcz5_16
     try clear hcz5_17
     try clear hcz5_18
     try clear hcz5_19
     try clear hcz5_2
     try clear hcz5_3
     try clear hcz5_4
     try clear hcz5_5
     try clear hcz5_6
     try clear hcz5_7
     try clear hcz5_8
     try clear hcz5_9
     try clear hcz6_0
     try clear hcz6_1
     try clear hcz6_10
     try clear hcz6_11
     try clear hcz6_12
     try clear hcz6_13
     try clear hcz6_14
     try clear hcz6_15
     try clear hcz6_16
     try clear hcz6_17
     try clear hcz6_18
     try clear hcz6_19
     try clear hcz6_2
     try clear hcz6_3
     try clear hcz6_4
     try clear hcz6_5
     try clear hcz6_6
     try clear hcz6_7
     try clear hcz6_8
     try clear hcz6_9
     try clear hfz11_0
     try clear hfz11_1
     try clear hfz11_10
     try clear hfz11_11
     try clear hfz11_12
     try clear hfz11_13
     try clear hfz11_14
     try clear hfz11_15
     try clear hfz11_16
     try clear hfz11_17
     try clear hfz11_18
     try clear hfz11_19
     try clear hfz11_2
     try clear hfz11_3
     try clear hfz11_4
     try clear hfz11_5
     try clear hfz11_6
     try clear hfz11_7
     try clear hfz11_8
     try clear hfz11_9
     try clear hfz12_0
     try clear hfz12_1
     try clear hfz12_10
     try clear hfz12_11
     try clear hfz12_12
     try clear hfz12_13
     try clear hfz12_14
     try clear hfz12_15
     try clear hfz12_16
     try clear hfz12_17
     try clear hfz12_18
     try clear hfz12_19
     try clear hfz12_2
     try clear hfz12_3
     try clear hfz12_4
     try clear hfz12_5
     try clear hfz12_6
     try clear hfz12_7
     try clear hfz12_8
     try clear hfz12_9
     try clear hfz13_0
     try clear hfz13_1
     try clear hfz13_10
     try clear hfz13_11
     try clear hfz13_12
     try clear hfz13_13
     try clear hfz13_14
     try clear hfz13_15
     try clear hfz13_16
     try clear hfz13_17
     try clear hfz13_18
     try clear hfz13_19
     try clear hfz13_2
     try clear hfz13_3
     try clear hfz13_4
     try clear hfz13_5
     try clear hfz13_6
     try clear hfz13_7
     try clear hfz13_8
     try clear hfz13_9
     try clear hfz3_0
     try clear hfz3_1
     try clear hfz3_10
     try clear hfz3_11
     try clear hfz3_12
     try clear hfz3_13
     try clear hfz3_14
     try clear hfz3_15
     try clear hfz3_16
     try clear hfz3_17
     try clear hfz3_18
     try clear hfz3_19
     try clear hfz3_2
     try clear hfz3_3
     try clear hfz3_4
     try clear hfz3_5
     try clear hfz3_6
     try clear hfz3_7
     try clear hfz3_8
     try clear hfz3_9
     try clear hfz5_0
     try clear hfz5_1
     try clear hfz5_10
     try clear hfz5_11
     try clear hfz5_12
     try clear hfz5_13
     try clear hfz5_14
     try clear hfz5_15
     try clear hfz5_16
     try clear hfz5_17
     try clear hfz5_18
     try clear hfz5_19
     try clear hfz5_2
     try clear hfz5_3
     try clear hfz5_4
     try clear hfz5_5
     try clear hfz5_6
     try clear hfz5_7
     try clear hfz5_8
     try clear hfz5_9
     try clear hfz6_0
     try clear hfz6_1
     try clear hfz6_10
     try clear hfz6_11
     try clear hfz6_12
     try clear hfz6_13
     try clear hfz6_14
     try clear hfz6_15
     try clear hfz6_16
     try clear hfz6_17
     try clear hfz6_18
     try clear hfz6_19
     try clear hfz6_2
     try clear hfz6_3
     try clear hfz6_4
     try clear hfz6_5
     try clear hfz6_6
     try clear hfz6_7
     try clear hfz6_8
     try clear hfz6_9
     try clear p2
     obtain ⟨kq, x22_7, rfl, HA, HJ7, HI0, HK, HB⟩ := hcut
     cases kq with
     | zero => exact absurd HA.out (by simp [impl_Talk_formOk.j1])
     | succ kj7 =>
      have H := HA.out
      clear HA
      simp only [impl_Talk_formOk.j1] at H
      by_cases c14 : x22_7 = true
      ·subst c14
       rw [if_pos rfl] at H
       simp only [Option.some.injEq, Prod.mk.injEq] at H
       obtain ⟨rfl, rfl, rfl, rfl, rfl, rfl, rfl, rfl, rfl, rfl, rfl, rfl, rfl, rfl, rfl, rfl, rfl, rfl, rfl, rfl, rfl⟩ := H
       go_wp2
       go_ret
       exact ⟨by first | rfl | (simp [errW_none, errW_some] <;> rfl) | (simp [*, errW_none, errW_some] <;> rfl), by repeat (first | (with_reducible first | exact HI0.out | apply IsS58.alloc | apply IsS58.drewN | apply IsS58.drew | apply IsS58.set_0 | apply IsS58.set_1 | apply IsS58.set_2 | apply IsS58.set_3 | apply IsS58.set_4 | apply IsS58.set_5 | apply IsS58.set_6 | apply IsS58.set_7 | apply IsS58.set_8 | apply IsS58.set_9 | apply IsS58.set_10 | apply IsS58.set_11 | apply IsS58.set_12 | apply IsS58.set_13 | apply IsS58.set_14 | apply IsS58.set_15 | apply IsS58.set_16 | apply IsS58.set_17 | apply IsS58.set_18 | apply IsS58.set_19) | exact HI0.out), by repeat (first | (with_reducible first | exact HB.out | apply lA1_ | apply lN_ | apply lD_ | refine lS1_ ?_ (IsS58.ge HI0.out)) | exact HB.out), by repeat (first | (with_reducible first | exact HK.out | apply KeepBut.set_ | apply kN_ | apply kD_ | apply kA_) | exact HK.out)⟩
      ·replace c14 := Bool.eq_false_iff.mpr c14
       subst c14
       rw [if_neg (show ¬ (false = true) by decide)] at H
       by_cases c15 : s0_0 = 0
       ·rw [if_pos c15] at H
        have c15b0 : (s0_0 == 0) = true := beq_iff_eq.mpr c15
        have c15b1 : (s0_0 != 0) = false := bne_eq_false_iff_eq.mpr c15
        clear c15
        by_cases c16 : (s0_2 == 3) = true
        ·rw [if_pos c16] at H
         have c16b0 : (s0_2 == 3) = true := c16
         (try (have c16b1 : decide (s0_2 = 3) = true := by simpa using c16))
         (try (have c16b2 : (s0_2 == 3) = true := by simpa using c16))
         clear c16
         simp only [Option.some.injEq, Prod.mk.injEq] at H
         obtain ⟨rfl, rfl, rfl, rfl, rfl, rfl, rfl, rfl, rfl, rfl, rfl, rfl, rfl, rfl, rfl, rfl, rfl, rfl, rfl, rfl, rfl⟩ := H
         obtain ⟨HGz17, hgz17⟩ := HI0.out
         have hcz17_0 := cellS58_0 HGz17
         have hcz17_1 := cellS58_1 HGz17
         have hcz17_2 := cellS58_2 HGz17
         have hcz17_3 := cellS58_3 HGz17
         have hcz17_4 := cellS58_4 HGz17
         have hcz17_5 := cellS58_5 HGz17
         have hcz17_6 := cellS58_6 HGz17
         have hcz17_7 := cellS58_7 HGz17
         have hcz17_8 := cellS58_8 HGz17
         have hcz17_9 := cellS58_9 HGz17
         have hcz17_10 := cellS58_10 HGz17
         have hcz17_11 := cellS58_11 HGz17
         have hcz17_12 := cellS58_12 HGz17
         have hcz17_13 := cellS58_13 HGz17
         have hcz17_14 := cellS58_14 HGz17
         have hcz17_15 := cellS58_15 HGz17
         have hcz17_16 := cellS58_16 HGz17
         have hcz17_17 := cellS58_17 HGz17
         have hcz17_18 := cellS58_18 HGz17
         have hcz17_19 := cellS58_19 HGz17
         have hfz17_0 := blk_frozen HGz17 0
         have hfz17_1 := blk_frozen HGz17 1
         have hfz17_2 := blk_frozen HGz17 2
         have hfz17_3 := blk_frozen HGz17 3
         have hfz17_4 := blk_frozen HGz17 4
         have hfz17_5 := blk_frozen HGz17 5
         have hfz17_6 := blk_frozen HGz17 6
         have hfz17_7 := blk_frozen HGz17 7
         have hfz17_8 := blk_frozen HGz17 8
         have hfz17_9 := blk_frozen HGz17 9
         have hfz17_10 := blk_frozen HGz17 10
         have hfz17_11 := blk_frozen HGz17 11
         have hfz17_12 := blk_frozen HGz17 12
         have hfz17_13 := blk_frozen HGz17 13
         have hfz17_14 := blk_frozen HGz17 14
         have hfz17_15 := blk_frozen HGz17 15
         have hfz17_16 := blk_frozen HGz17 16
         have hfz17_17 := blk_frozen HGz17 17
         have hfz17_18 := blk_frozen HGz17 18
         have hfz17_19 := blk_frozen HGz17 19
         clear HGz17 hgz17
         go_wp2
         go_ret
         exact ⟨by first | rfl | (simp [errW_none, errW_some] <;> rfl) | (simp [*, errW_none, errW_some] <;> rfl), by repeat (first | (with_reducible first | exact HI0.out | apply IsS58.alloc | apply IsS58.drewN | apply IsS58.drew | apply IsS58.set_0 | apply IsS58.set_1 | apply IsS58.set_2 | apply IsS58.set_3 | apply IsS58.set_4 | apply IsS58.set_5 | apply IsS58.set_6 | apply IsS58.set_7 | apply IsS58.set_8 | apply IsS58.set_9 | apply IsS58.set_10 | apply IsS58.set_11 | apply IsS58.set_12 | apply IsS58.set_13 | apply IsS58.set_14 | apply IsS58.set_15 | apply IsS58.set_16 | apply IsS58.set_17 | apply IsS58.set_18 | apply IsS58.set_19) | exact HI0.out), by repeat (first | (with_reducible first | exact HB.out | apply lA1_ | apply lN_ | apply lD_ | refine lS1_ ?_ (IsS58.ge HI0.out)) | exact HB.out), by repeat (first | (with_reducible first | exact HK.out | apply KeepBut.set_ | apply kN_ | apply kD_ | apply kA_) | exact HK.out)⟩
        ·rw [if_neg c16] at H
         have c16b0 : (s0_2 == 3) = false := by simpa using c16
         (try (have c16b1 : decide (s0_2 = 3) = false := by simpa using c16))
         (try (have c16b2 : (s0_2 == 3) = false := by simpa using c16))
         (try (have c16b3 : ¬ (s0_2 = 3) := by simpa using c16))
         clear c16
         by_cases c18 : s0_17 = 0
         ·rw [if_pos c18] at H
          have c18b0 : (s0_17 == 0) = true := beq_iff_eq.mpr c18
          have c18b1 : (s0_17 != 0) = false := bne_eq_false_iff_eq.mpr c18
          clear c18
          simp only [Option.some.injEq, Prod.mk.injEq] at H
          obtain ⟨rfl, rfl, rfl, rfl, rfl, rfl, rfl, rfl, rfl, rfl, rfl, rfl, rfl, rfl, rfl, rfl, rfl, rfl, rfl, rfl, rfl⟩ := H
          obtain ⟨HGz19, hgz19⟩ := HI0.out
          have hcz19_0 := cellS58_0 HGz19
          have hcz19_1 := cellS58_1 HGz19
          have hcz19_2 := cellS58_2 HGz19
          have hcz19_3 := cellS58_3 HGz19
          have hcz19_4 := cellS58_4 HGz19
          have hcz19_5 := cellS58_5 HGz19
          have hcz19_6 := cellS58_6 HGz19
          have hcz19_7 := cellS58_7 HGz19
          have hcz19_8 := cellS58_8 HGz19
          have hcz19_9 := cellS58_9 HGz19
          have hcz19_10 := cellS58_10 HGz19
          have hcz19_11 := cellS58_11 HGz19
          have hcz19_12 := cellS58_12 HGz19
          have hcz19_13 := cellS58_13 HGz19
          have hcz19_14 := cellS58_14 HGz19
          have hcz19_15 := cellS58_15 HGz19
          have hcz19_16 := cellS58_16 HGz19
          have hcz19_17 := cellS58_17 HGz19
          have hcz19_18 := cellS58_18 HGz19
          have hcz19_19 := cellS58_19 HGz19
          have hfz19_0 := blk_frozen HGz19 0
          have hfz19_1 := blk_frozen HGz19 1
          have hfz19_2 := blk_frozen HGz19 2
          have hfz19_3 := blk_frozen HGz19 3
          have hfz19_4 := blk_frozen HGz19 4
          have hfz19_5 := blk_frozen HGz19 5
          have hfz19_6 := blk_frozen HGz19 6
          have hfz19_7 := blk_frozen HGz19 7
          have hfz19_8 := blk_frozen HGz19 8
          have hfz19_9 := blk_frozen HGz19 9
          have hfz19_10 := blk_frozen HGz19 10
          have hfz19_11 := blk_frozen HGz19 11
          have hfz19_12 := blk_frozen HGz19 12
          have hfz19_13 := blk_frozen HGz19 13
          have hfz19_14 := blk_frozen HGz19 14
          have hfz19_15 := blk_frozen HGz19 15
          have hfz19_16 := blk_frozen HGz19 16
          have hfz19_17 := blk_frozen HGz19 17
          have hfz19_18 := blk_frozen HGz19 18
          have hfz19_19 := blk_frozen HGz19 19
          clear HGz19 hgz19
          go_wp2
          go_ret
          exact ⟨by first | rfl | (simp [errW_none, errW_some] <;> rfl) | (simp [*, errW_none, errW_some] <;> rfl), by repeat (first | (with_reducible first | exact HI0.out | apply IsS58.alloc | apply IsS58.drewN | apply IsS58.drew | apply IsS58.set_0 | apply IsS58.set_1 | apply IsS58.set_2 | apply IsS58.set_3 | apply IsS58.set_4 | apply IsS58.set_5 | apply IsS58.set_6 | apply IsS58.set_7 | apply IsS58.set_8 | apply IsS58.set_9 | apply IsS58.set_10 | apply IsS58.set_11 | apply IsS58.set_12 | apply IsS58.set_13 | apply IsS58.set_14 | apply IsS58.set_15 | apply IsS58.set_16 | apply IsS58.set_17 | apply IsS58.set_18 | apply IsS58.set_19) | exact HI0.out), by repeat (first | (with_reducible first | exact HB.out | apply lA1_ | apply lN_ | apply lD_ | refine lS1_ ?_ (IsS58.ge HI0.out)) | exact HB.out), by repeat (first | (with_reducible first | exact HK.out | apply KeepBut.set_ | apply kN_ | apply kD_ | apply kA_) | exact HK.out)⟩
         ·rw [if_neg c18] at H
          have c18b0 : (s0_17 == 0) = false := beq_eq_false_iff_ne.mpr c18
          have c18b1 : (s0_17 != 0) = true := bne_iff_ne.mpr c18
          simp only [Option.some.injEq, Prod.mk.injEq] at H
          obtain ⟨rfl, rfl, rfl, rfl, rfl, rfl, rfl, rfl, rfl, rfl, rfl, rfl, rfl, rfl, rfl, rfl, rfl, rfl, rfl, rfl, rfl⟩ := H
          obtain ⟨HGz20, hgz20⟩ := HI0.out
          have hcz20_0 := cellS58_0 HGz20
          have hcz20_1 := cellS58_1 HGz20
          have hcz20_2 := cellS58_2 HGz20
          have hcz20_3 := cellS58_3 HGz20
          have hcz20_4 := cellS58_4 HGz20
          have hcz20_5 := cellS58_5 HGz20
          have hcz20_6 := cellS58_6 HGz20
          have hcz20_7 := cellS58_7 HGz20
          have hcz20_8 := cellS58_8 HGz20
          have hcz20_9 := cellS58_9 HGz20
          have hcz20_10 := cellS58_10 HGz20
          have hcz20_11 := cellS58_11 HGz20
          have hcz20_12 := cellS58_12 HGz20
          have hcz20_13 := cellS58_13 HGz20
          have hcz20_14 := cellS58_14 HGz20
          have hcz20_15 := cellS58_15 HGz20
          have hcz20_16 := cellS58_16 HGz20
          have hcz20_17 := cellS58_17 HGz20
          have hcz20_18 := cellS58_18 HGz20
          have hcz20_19 := cellS58_19 HGz20
          have hfz20_0 := blk_frozen HGz20 0
          have hfz20_1 := blk_frozen HGz20 1
          have hfz20_2 := blk_frozen HGz20 2
          have hfz20_3 := blk_frozen HGz20 3
          have hfz20_4 := blk_frozen HGz20 4
          have hfz20_5 := blk_frozen HGz20 5
          have hfz20_6 := blk_frozen HGz20 6
          have hfz20_7 := blk_frozen HGz20 7
          have hfz20_8 := blk_frozen HGz20 8
          have hfz20_9 := blk_frozen HGz20 9
          have hfz20_10 := blk_frozen HGz20 10
          have hfz20_11 := blk_frozen HGz20 11
          have hfz20_12 := blk_frozen HGz20 12
          have hfz20_13 := blk_frozen HGz20 13
          have hfz20_14 := blk_frozen HGz20 14
          have hfz20_15 := blk_frozen HGz20 15
          have hfz20_16 := blk_frozen HGz20 16
          have hfz20_17 := blk_frozen HGz20 17
          have hfz20_18 := blk_frozen HGz20 18
          have hfz20_19 := blk_frozen HGz20 19
          clear HGz20 hgz20
          go_wp2
          go_ret
          exact ⟨by first | rfl | (simp [errW_none, errW_some] <;> rfl) | (simp [*, errW_none, errW_some] <;> rfl), by repeat (first | (with_reducible first | exact HI0.out | apply IsS58.alloc | apply IsS58.drewN | apply IsS58.drew | apply IsS58.set_0 | apply IsS58.set_1 | apply IsS58.set_2 | apply IsS58.set_3 | apply IsS58.set_4 | apply IsS58.set_5 | apply IsS58.set_6 | apply IsS58.set_7 | apply IsS58.set_8 | apply IsS58.set_9 | apply IsS58.set_10 | apply IsS58.set_11 | apply IsS58.set_12 | apply IsS58.set_13 | apply IsS58.set_14 | apply IsS58.set_15 | apply IsS58.set_16 | apply IsS58.set_17 | apply IsS58.set_18 | apply IsS58.set_19) | exact HI0.out), by repeat (first | (with_reducible first | exact HB.out | apply lA1_ | apply lN_ | apply lD_ | refine lS1_ ?_ (IsS58.ge HI0.out)) | exact HB.out), by repeat (first | (with_reducible first | exact HK.out | apply KeepBut.set_ | apply kN_ | apply kD_ | apply kA_) | exact HK.out)⟩
       ·rw [if_neg c15] at H
        have c15b0 : (s0_0 == 0) = false := beq_eq_false_iff_ne.mpr c15
        have c15b1 : (s0_0 != 0) = true := bne_iff_ne.mpr c15
        by_cases c21 : s0_1 = 2
        ·rw [if_pos c21] at H
         have c21b0 : (s0_1 == 2) = true := beq_iff_eq.mpr c21
         have c21b1 : (s0_1 != 2) = false := bne_eq_false_iff_eq.mpr c21
         clear c21
         by_cases c22 : (s0_2 == 3) = true
         ·rw [if_pos c22] at H
          have c22b0 : (s0_2 == 3) = true := c22
          (try (have c22b1 : decide (s0_2 = 3) = true := by simpa using c22))
          (try (have c22b2 : (s0_2 == 3) = true := by simpa using c22))
          clear c22
          simp only [Option.some.injEq, Prod.mk.injEq] at H
          obtain ⟨rfl, rfl, rfl, rfl, rfl, rfl, rfl, rfl, rfl, rfl, rfl, rfl, rfl, rfl, rfl, rfl, rfl, rfl, rfl, rfl, rfl⟩ := H
          obtain ⟨HGz23, hgz23⟩ := HI0.out
          have hcz23_0 := cellS58_0 HGz23
          have hcz23_1 := cellS58_1 HGz23
          have hcz23_2 := cellS58_2 HGz23
          have hcz23_3 := cellS58_3 HGz23
          have hcz23_4 := cellS58_4 HGz23
          have hcz23_5 := cellS58_5 HGz23
          have hcz23_6 := cellS58_6 HGz23
          have hcz23_7 := cellS58_7 HGz23
          have hcz23_8 := cellS58_8 HGz23
          have hcz23_9 := cellS58_9 HGz23
          have hcz23_10 := cellS58_10 HGz23
          have hcz23_11 := cellS58_11 HGz23
          have hcz23_12 := cellS58_12 HGz23
          have hcz23_13 := cellS58_13 HGz23
          have hcz23_14 := cellS58_14 HGz23
          have hcz23_15 := cellS58_15 HGz23
          have hcz23_16 := cellS58_16 HGz23
          have hcz23_17 := cellS58_17 HGz23
          have hcz23_18 := cellS58_18 HGz23
          have hcz23_19 := cellS58_19 HGz23
          have hfz23_0 := blk_frozen HGz23 0
          have hfz23_1 := blk_frozen HGz23 1
          have hfz23_2 := blk_frozen HGz23 2
          have hfz23_3 := blk_frozen HGz23 3
          have hfz23_4 := blk_frozen HGz23 4
          have hfz23_5 := blk_frozen HGz23 5
          have hfz23_6 := blk_frozen HGz23 6
          have hfz23_7 := blk_frozen HGz23 7
          have hfz23_8 := blk_frozen HGz23 8
          have hfz23_9 := blk_frozen HGz23 9
          have hfz23_10 := blk_frozen HGz23 10
          have hfz23_11 := blk_frozen HGz23 11
          have hfz23_12 := blk_frozen HGz23 12
          have hfz23_13 := blk_frozen HGz23 13
          have hfz23_14 := blk_frozen HGz23 14
          have hfz23_15 := blk_frozen HGz23 15
          have hfz23_16 := blk_frozen HGz23 16
          have hfz23_17 := blk_frozen HGz23 17
          have hfz23_18 := blk_frozen HGz23 18
          have hfz23_19 := blk_frozen HGz23 19
          clear HGz23 hgz23
          go_wp2
          go_ret
          exact ⟨by first | rfl | (simp [errW_none, errW_some] <;> rfl) | (simp [*, errW_none, errW_some] <;> rfl), by repeat (first | (with_reducible first | exact HI0.out | apply IsS58.alloc | apply IsS58.drewN | apply IsS58.drew | apply IsS58.set_0 | apply IsS58.set_1 | apply IsS58.set_2 | apply IsS58.set_3 | apply IsS58.set_4 | apply IsS58.set_5 | apply IsS58.set_6 | apply IsS58.set_7 | apply IsS58.set_8 | apply IsS58.set_9 | apply IsS58.set_10 | apply IsS58.set_11 | apply IsS58.set_12 | apply IsS58.set_13 | apply IsS58.set_14 | apply IsS58.set_15 | apply IsS58.set_16 | apply IsS58.set_17 | apply IsS58.set_18 | apply IsS58.set_19) | exact HI0.out), by repeat (first | (with_reducible first | exact HB.out | apply lA1_ | apply lN_ | apply lD_ | refine lS1_ ?_ (IsS58.ge HI0.out)) | exact HB.out), by repeat (first | (with_reducible first | exact HK.out | apply KeepBut.set_ | apply kN_ | apply kD_ | apply kA_) | exact HK.out)⟩
         ·rw [if_neg c22] at H
          have c22b0 : (s0_2 == 3) = false := by simpa using c22
          (try (have c22b1 : decide (s0_2 = 3) = false := by simpa using c22))
          (try (have c22b2 : (s0_2 == 3) = false := by simpa using c22))
          (try (have c22b3 : ¬ (s0_2 = 3) := by simpa using c22))
          clear c22
          simp only [Option.some.injEq, Prod.mk.injEq] at H
          obtain ⟨rfl, rfl, rfl, rfl, rfl, rfl, rfl, rfl, rfl, rfl, rfl, rfl, rfl, rfl, rfl, rfl, rfl, rfl, rfl, rfl, rfl⟩ := H
          obtain ⟨HGz24, hgz24⟩ := HI0.out
          have hcz24_0 := cellS58_0 HGz24
          have hcz24_1 := cellS58_1 HGz24
          have hcz24_2 := cellS58_2 HGz24
          have hcz24_3 := cellS58_3 HGz24
          have hcz24_4 := cellS58_4 HGz24
          have hcz24_5 := cellS58_5 HGz24
          have hcz24_6 := cellS58_6 HGz24
          have hcz24_7 := cellS58_7 HGz24
          have hcz24_8 := cellS58_8 HGz24
          have hcz24_9 := cellS58_9 HGz24
          have hcz24_10 := cellS58_10 HGz24
          have hcz24_11 := cellS58_11 HGz24
          have hcz24_12 := cellS58_12 HGz24
          have hcz24_13 := cellS58_13 HGz24
          have hcz24_14 := cellS58_14 HGz24
          have hcz24_15 := cellS58_15 HGz24
          have hcz24_16 := cellS58_16 HGz24
          have hcz24_17 := cellS58_17 HGz24
          have hcz24_18 := cellS58_18 HGz24
          have hcz24_19 := cellS58_19 HGz24
          have hfz24_0 := blk_frozen HGz24 0
          have hfz24_1 := blk_frozen HGz24 1
          have hfz24_2 := blk_frozen HGz24 2
          have hfz24_3 := blk_frozen HGz24 3
          have hfz24_4 := blk_frozen HGz24 4
          have hfz24_5 := blk_frozen HGz24 5
          have hfz24_6 := blk_frozen HGz24 6
          have hfz24_7 := blk_frozen HGz24 7
          have hfz24_8 := blk_frozen HGz24 8
          have hfz24_9 := blk_frozen HGz24 9
          have hfz24_10 := blk_frozen HGz24 10
          have hfz24_11 := blk_frozen HGz24 11
          have hfz24_12 := blk_frozen HGz24 12
          have hfz24_13 := blk_frozen HGz24 13
          have hfz24_14 := blk_frozen HGz24 14
          have hfz24_15 := blk_frozen HGz24 15
          have hfz24_16 := blk_frozen HGz24 16
          have hfz24_17 := blk_frozen HGz24 17
          have hfz24_18 := blk_frozen HGz24 18
          have hfz24_19 := blk_frozen HGz24 19
          clear HGz24 hgz24
          go_wp2
          go_ret
          exact ⟨by first | rfl | (simp [errW_none, errW_some] <;> rfl) | (simp [*, errW_none, errW_some] <;> rfl), by repeat (first | (with_reducible first | exact HI0.out | apply IsS58.alloc | apply IsS58.drewN | apply IsS58.drew | apply IsS58.set_0 | apply IsS58.set_1 | apply IsS58.set_2 | apply IsS58.set_3 | apply IsS58.set_4 | apply IsS58.set_5 | apply IsS58.set_6 | apply IsS58.set_7 | apply IsS58.set_8 | apply IsS58.set_9 | apply IsS58.set_10 | apply IsS58.set_11 | apply IsS58.set_12 | apply IsS58.set_13 | apply IsS58.set_14 | apply IsS58.set_15 | apply IsS58.set_16 | apply IsS58.set_17 | apply IsS58.set_18 | apply IsS58.set_19) | exact HI0.out), by repeat (first | (with_reducible first | exact HB.out | apply lA1_ | apply lN_ | apply lD_ | refine lS1_ ?_ (IsS58.ge HI0.out)) | exact HB.out), by repeat (first | (with_reducible first | exact HK.out | apply KeepBut.set_ | apply kN_ | apply kD_ | apply kA_) | exact HK.out)⟩
        ·rw [if_neg c21] at H
         have c21b0 : (s0_1 == 2) = false := beq_eq_false_iff_ne.mpr c21
         have c21b1 : (s0_1 != 2) = true := bne_iff_ne.mpr c21
         by_cases c25 : (s0_2 == 3) = true
         ·rw [if_pos c25] at H
          have c25b0 : (s0_2 == 3) = true := c25
          (try (have c25b1 : decide (s0_2 = 3) = true := by simpa using c25))
          (try (have c25b2 : (s0_2 == 3) = true := by simpa using c25))
          clear c25
          simp only [Option.some.injEq, Prod.mk.injEq] at H
          obtain ⟨rfl, rfl, rfl, rfl, rfl, rfl, rfl, rfl, rfl, rfl, rfl, rfl, rfl, rfl, rfl, rfl, rfl, rfl, rfl, rfl, rfl⟩ := H
          obtain ⟨HGz26, hgz26⟩ := HI0.out
          have hcz26_0 := cellS58_0 HGz26
          have hcz26_1 := cellS58_1 HGz26
          have hcz26_2 := cellS58_2 HGz26
          have hcz26_3 := cellS58_3 HGz26
          have hcz26_4 := cellS58_4 HGz26
          have hcz26_5 := cellS58_5 HGz26
          have hcz26_6 := cellS58_6 HGz26
          have hcz26_7 := cellS58_7 HGz26
          have hcz26_8 := cellS58_8 HGz26
          have hcz26_9 := cellS58_9 HGz26
          have hcz26_10 := cellS58_10 HGz26
          have hcz26_11 := cellS58_11 HGz26
          have hcz26_12 := cellS58_12 HGz26
          have hcz26_13 := cellS58_13 HGz26
          have hcz26_14 := cellS58_14 HGz26
          have hcz26_15 := cellS58_15 HGz26
          have hcz26_16 := cellS58_16 HGz26
          have hcz26_17 := cellS58_17 HGz26
          have hcz26_18 := cellS58_18 HGz26
          have hcz26_19 := cellS58_19 HGz26
          have hfz26_0 := blk_frozen HGz26 0
          have hfz26_1 := blk_frozen HGz26 1
          have hfz26_2 := blk_frozen HGz26 2
          have hfz26_3 := blk_frozen HGz26 3
          have hfz26_4 := blk_frozen HGz26 4
          have hfz26_5 := blk_frozen HGz26 5
          have hfz26_6 := blk_frozen HGz26 6
          have hfz26_7 := blk_frozen HGz26 7
          have hfz26_8 := blk_frozen HGz26 8
          have hfz26_9 := blk_frozen HGz26 9
          have hfz26_10 := blk_frozen HGz26 10
          have hfz26_11 := blk_frozen HGz26 11
          have hfz26_12 := blk_frozen HGz26 12
          have hfz26_13 := blk_frozen HGz26 13
          have hfz26_14 := blk_frozen HGz26 14
          have hfz26_15 := blk_frozen HGz26 15
          have hfz26_16 := blk_frozen HGz26 16
          have hfz26_17 := blk_frozen HGz26 17
          have hfz26_18 := blk_frozen HGz26 18
          have hfz26_19 := blk_frozen HGz26 19
          clear HGz26 hgz26
          go_wp2
          go_ret
          exact ⟨by first | rfl | (simp [errW_none, errW_some] <;> rfl) | (simp [*, errW_none, errW_some] <;> rfl), by repeat (first | (with_reducible first | exact HI0.out | apply IsS58.alloc | apply IsS58.drewN | apply IsS58.drew | apply IsS58.set_0 | apply IsS58.set_1 | apply IsS58.set_2 | apply IsS58.set_3 | apply IsS58.set_4 | apply IsS58.set_5 | apply IsS58.set_6 | apply IsS58.set_7 | apply IsS58.set_8 | apply IsS58.set_9 | apply IsS58.set_10 | apply IsS58.set_11 | apply IsS58.set_12 | apply IsS58.set_13 | apply IsS58.set_14 | apply IsS58.set_15 | apply IsS58.set_16 | apply IsS58.set_17 | apply IsS58.set_18 | apply IsS58.set_19) | exact HI0.out), by repeat (first | (with_reducible first | exact HB.out | apply lA1_ | apply lN_ | apply lD_ | refine lS1_ ?_ (IsS58.ge HI0.out)) | exact HB.out), by repeat (first | (with_reducible first | exact HK.out | apply KeepBut.set_ | apply kN_ | apply kD_ | apply kA_) | exact HK.out)⟩
         ·rw [if_neg c25] at H
          have c25b0 : (s0_2 == 3) = false := by simpa using c25
          (try (have c25b1 : decide (s0_2 = 3) = false := by simpa using c25))
          (try (have c25b2 : (s0_2 == 3) = false := by simpa using c25))
          (try (have c25b3 : ¬ (s0_2 = 3) := by simpa using c25))
          clear c25
          by_cases c27 : s0_17 = 0
          ·rw [if_pos c27] at H
           have c27b0 : (s0_17 == 0) = true := beq_iff_eq.mpr c27
           have c27b1 : (s0_17 != 0) = false := bne_eq_false_iff_eq.mpr c27
           clear c27
           simp only [Option.some.injEq, Prod.mk.injEq] at H
           obtain ⟨rfl, rfl, rfl, rfl, rfl, rfl, rfl, rfl, rfl, rfl, rfl, rfl, rfl, rfl, rfl, rfl, rfl, rfl, rfl, rfl, rfl⟩ := H
           obtain ⟨HGz28, hgz28⟩ := HI0.out
           have hcz28_0 := cellS58_0 HGz28
           have hcz28_1 := cellS58_1 HGz28
           have hcz28_2 := cellS58_2 HGz28
           have hcz28_3 := cellS58_3 HGz28
           have hcz28_4 := cellS58_4 HGz28
           have hcz28_5 := cellS58_5 HGz28
           have hcz28_6 := cellS58_6 HGz28
           have hcz28_7 := cellS58_7 HGz28
           have hcz28_8 := cellS58_8 HGz28
           have hcz28_9 := cellS58_9 HGz28
           have hcz28_10 := cellS58_10 HGz28
           have hcz28_11 := cellS58_11 HGz28
           have hcz28_12 := cellS58_12 HGz28
           have hcz28_13 := cellS58_13 HGz28
           have hcz28_14 := cellS58_14 HGz28
           have hcz28_15 := cellS58_15 HGz28
           have hcz28_16 := cellS58_16 HGz28
           have hcz28_17 := cellS58_17 HGz28
           have hcz28_18 := cellS58_18 HGz28
           have hcz28_19 := cellS58_19 HGz28
           have hfz28_0 := blk_frozen HGz28 0
           have hfz28_1 := blk_frozen HGz28 1
           have hfz28_2 := blk_frozen HGz28 2
           have hfz28_3 := blk_frozen HGz28 3
           have hfz28_4 := blk_frozen HGz28 4
           have hfz28_5 := blk_frozen HGz28 5
           have hfz28_6 := blk_frozen HGz28 6
           have hfz28_7 := blk_frozen HGz28 7
           have hfz28_8 := blk_frozen HGz28 8
           have hfz28_9 := blk_frozen HGz28 9
           have hfz28_10 := blk_frozen HGz28 10
           have hfz28_11 := blk_frozen HGz28 11
           have hfz28_12 := blk_frozen HGz28 12
           have hfz28_13 := blk_frozen HGz28 13
           have hfz28_14 := blk_frozen HGz28 14
           have hfz28_15 := blk_frozen HGz28 15
           have hfz28_16 := blk_frozen HGz28 16
           have hfz28_17 := blk_frozen HGz28 17
           have hfz28_18 := blk_frozen HGz28 18
           have hfz28_19 := blk_frozen HGz28 19
           clear HGz28 hgz28
           go_wp2
           go_ret
           exact ⟨by first | rfl | (simp [errW_none, errW_some] <;> rfl) | (simp [*, errW_none, errW_some] <;> rfl), by repeat (first | (with_reducible first | exact HI0.out | apply IsS58.alloc | apply IsS58.drewN | apply IsS58.drew | apply IsS58.set_0 | apply IsS58.set_1 | apply IsS58.set_2 | apply IsS58.set_3 | apply IsS58.set_4 | apply IsS58.set_5 | apply IsS58.set_6 | apply IsS58.set_7 | apply IsS58.set_8 | apply IsS58.set_9 | apply IsS58.set_10 | apply IsS58.set_11 | apply IsS58.set_12 | apply IsS58.set_13 | apply IsS58.set_14 | apply IsS58.set_15 | apply IsS58.set_16 | apply IsS58.set_17 | apply IsS58.set_18 | apply IsS58.set_19) | exact HI0.out), by repeat (first | (with_reducible first | exact HB.out | apply lA1_ | apply lN_ | apply lD_ | refine lS1_ ?_ (IsS58.ge HI0.out)) | exact HB.out), by repeat (first | (with_reducible first | exact HK.out | apply KeepBut.set_ | apply kN_ | apply kD_ | apply kA_) | exact HK.out)⟩
          ·rw [if_neg c27] at H
           have c27b0 : (s0_17 == 0) = false := beq_eq_false_iff_ne.mpr c27
           have c27b1 : (s0_17 != 0) = true := bne_iff_ne.mpr c27
           simp only [Option.some.injEq, Prod.mk.injEq] at H
           obtain ⟨rfl, rfl, rfl, rfl, rfl, rfl, rfl, rfl, rfl, rfl, rfl, rfl, rfl, rfl, rfl, rfl, rfl, rfl, rfl, rfl, rfl⟩ := H
           obtain ⟨HGz29, hgz29⟩ := HI0.out
           have hcz29_0 := cellS58_0 HGz29
           have hcz29_1 := cellS58_1 HGz29
           have hcz29_2 := cellS58_2 HGz29
           have hcz29_3 := cellS58_3 HGz29
           have hcz29_4 := cellS58_4 HGz29
           have hcz29_5 := cellS58_5 HGz29
           have hcz29_6 := cellS58_6 HGz29
           have hcz29_7 := cellS58_7 HGz29
           have hcz29_8 := cellS58_8 HGz29
           have hcz29_9 := cellS58_9 HGz29
           have hcz29_10 := cellS58_10 HGz29
           have hcz29_11 := cellS58_11 HGz29
           have hcz29_12 := cellS58_12 HGz29
           have hcz29_13 := cellS58_13 HGz29
           have hcz29_14 := cellS58_14 HGz29
           have hcz29_15 := cellS58_15 HGz29
           have hcz29_16 := cellS58_16 HGz29
           have hcz29_17 := cellS58_17 HGz29
           have hcz29_18 := cellS58_18 HGz29
           have hcz29_19 := cellS58_19 HGz29
           have hfz29_0 := blk_frozen HGz29 0
           have hfz29_1 := blk_frozen HGz29 1
           have hfz29_2 := blk_frozen HGz29 2
           have hfz29_3 := blk_frozen HGz29 3
           have hfz29_4 := blk_frozen HGz29 4
           have hfz29_5 := blk_frozen HGz29 5
           have hfz29_6 := blk_frozen HGz29 6
           have hfz29_7 := blk_frozen HGz29 7
           have hfz29_8 := blk_frozen HGz29 8
           have hfz29_9 := blk_frozen HGz29 9
           have hfz29_10 := blk_frozen HGz29 10
           have hfz29_11 := blk_frozen HGz29 11
           have hfz29_12 := blk_frozen HGz29 12
           have hfz29_13 := blk_frozen HGz29 13
           have hfz29_14 := blk_frozen HGz29 14
           have hfz29_15 := blk_frozen HGz29 15
           have hfz29_16 := blk_frozen HGz29 16
           have hfz29_17 := blk_frozen HGz29 17
           have hfz29_18 := blk_frozen HGz29 18
           have hfz29_19 := blk_frozen HGz29 19
           clear HGz29 hgz29
           go_wp2
           go_ret
           exact ⟨by first | rfl | (simp [errW_none, errW_some] <;> rfl) | (simp [*, errW_none, errW_some] <;> rfl), by repeat (first | (with_reducible first | exact HI0.out | apply IsS58.alloc | apply IsS58.drewN | apply IsS58.drew | apply IsS58.set_0 | apply IsS58.set_1 | apply IsS58.set_2 | apply IsS58.set_3 | apply IsS58.set_4 | apply IsS58.set_5 | apply IsS58.set_6 | apply IsS58.set_7 | apply IsS58.set_8 | apply IsS58.set_9 | apply IsS58.set_10 | apply IsS58.set_11 | apply IsS58.set_12 | apply IsS58.set_13 | apply IsS58.set_14 | apply IsS58.set_15 | apply IsS58.set_16 | apply IsS58.set_17 | apply IsS58.set_18 | apply IsS58.set_19) | exact HI0.out), by repeat (first | (with_reducible first | exact HB.out | apply lA1_ | apply lN_ | apply lD_ | refine lS1_ ?_ (IsS58.ge HI0.out)) | exact HB.out), by repeat (first | (with_reducible first | exact HK.out | apply KeepBut.set_ | apply kN_ | apply kD_ | apply kA_) | exact HK.out)⟩
end Go.Proofs.Ytaniedjfkiklmaa.G
namespace Go.Proofs.Ytaniedjfkiklmaa.G
open Go.RowKit Go.Proofs.YtaniedjfkiklmaaW.PrintWords Go.Proofs.YtaniedjfkiklmaaW.PrintLast Go.Proofs.YtaniedjfkiklmaaW.PrintMore
attribute [local go_sem] max2_int min2_int max_two min_two max_three min_three max_four min_four   -- for this text's walks alone
set_option linter.unusedVariables false
set_option linter.unusedSimpArgs false
section
theorem repsG_ {w : World} {base : Nat} {ok : Nat → Prop} : ∀ xs : List Int, Reps ((Kd.int .i64).M w base ok) (Kd.int .i64).sz xs (xs.map (Value.int .i64))
  | xs => ⟨by simp [Kd.int, Kd.scalar], fun j p h => by
    obtain ⟨hj, rfl⟩ := List.getElem?_eq_some_iff.1 h
    show ((xs.map (Value.int .i64)).drop (j * 1)).take 1 = [Value.int .i64 xs[j]]
    rw [Nat.mul_one, List.drop_eq_getElem_cons (by simpa using hj)]
    simp⟩
set_option maxHeartbeats 4000000 in
set_option maxRecDepth 100000 in
theorem impl_TalkFault_1.calls (A0 : Option Addr) (n c0 K B : Nat) (kb : Bool) (x : Int) (hn : n ≤ 9223372036854775807) (W : World) (hk : W.cell? ⟨K, 0, none⟩ = some (.bool kb)) (hc : W.cell? ⟨B, 0, none⟩ = some (.slice A0 n c0)) :
    Calls Try.prog 56 (#[.int .i64 x] ++ #[.pointer (some ⟨K, 0, none⟩), .pointer (some ⟨B, 0, none⟩)]) W fun e w' => e = .returned (.bool (if kb = true then !decide (0 ≤ x ∧ x ≤ (n : Int) - 1) else x != -1)) ∧ Below W.heap.size W w' := by
  cases kb with
  | true =>
    have hC := fun W' => impl_isPlace.callsF A0 n c0 x hn W'
    rw [if_pos rfl]
    generalize decide (0 ≤ x ∧ x ≤ (n : Int) - 1) = r at hC ⊢
    cases r with
    | true =>
      go_enter Try.func56, Try.ntmps56
      go_wp2_with (go_at_call 57; refine (hC _).mono ?_; rintro e w' ⟨rfl, hb⟩; have hk2 : w'.cell? ⟨K, 0, none⟩ = some (.bool true) := (hb.cell (World.block_lt_of_cell? W _ hk)).trans hk)
      go_ret
      exact ⟨rfl, hb⟩
    | false =>
      go_enter Try.func56, Try.ntmps56
      go_wp2_with (go_at_call 57; refine (hC _).mono ?_; rintro e w' ⟨rfl, hb⟩; have hk2 : w'.cell? ⟨K, 0, none⟩ = some (.bool true) := (hb.cell (World.block_lt_of_cell? W _ hk)).trans hk)
      go_ret
      exact ⟨rfl, hb⟩
  | false =>
    rw [if_neg (by decide)]
    go_enter Try.func56, Try.ntmps56
    go_wp2
    go_ret
    exact ⟨rfl, Below.refl _ _⟩
set_option maxHeartbeats 8000000 in
set_option maxRecDepth 100000 in
theorem impl_Talk_places.calls (g : Nat) (x0 : Int) (x1 : Int) (x2 : Int) (x3 : Int) (x4 : Int) (x5 : Int) (x6 : Int) (x7 : Int) (x8 : Int) (x9 : Int) (x10 : Int) (x11 : Int) (x12 : Int) (x13 : Int) (x14 : Int) (x15 : Int) (x16 : Int) (x17 : Int) (x18 : Int) (x19 : Int) (w : World) (hI : w.heap[g]? = some (.cells #[.int .i64 x0, .int .i64 x1, .int .i64 x2, .int .i64 x3, .int .i64 x4, .int .i64 x5, .int .i64 x6, .int .i64 x7, .int .i64 x8, .int .i64 x9, .int .i64 x10, .int .i64 x11, .int .i64 x12, .int .i64 x13, .int .i64 x14, .int .i64 x15, .int .i64 x16, .int .i64 x17, .int .i64 x18, .int .i64 x19] 58 (0, 0))) :
    Calls Try.prog 54 #[.pointer (some ⟨g, 0, none⟩)] w fun e w' => ∃ v1 v2 v3 : Value, e = .returned (.agg #[v1, v2, v3]) ∧ Kd.R (Kd.int .i64) 2 w' w.heap.size (fun _ => True) v1 [x5, x7, x9] ∧ Kd.R (Kd.int .i64) 2 w' w.heap.size (fun _ => True) v2 [x6, x8, x10, x11, x12, x13, x14] ∧ Kd.R (Kd.int .i64) 2 w' w.heap.size (fun _ => True) v3 [x15, x16] ∧ Below w.heap.size w w' := by
  have BG := Aside0.mk hI
  clear hI
  have HB := Aside0.mk (Below.refl w.heap.size w)
  have hu1 := Try.underlying83
  have hu2 := Try.underlying58
  have hu3 := Try.underlying54
  obtain ⟨_, _, _, _, _, _, _, _, _, _, _, _, _, _, _, _, _, _, _, _, _, _, _, _, _, _, _, _, _, _, _, _, _, _, _, _, _, _, _, _⟩ := bc20 BG.out
  go_enter Try.func54, Try.ntmps54
  go_wp2_with (first | ((with_reducible refine gate_dst (N := 2) rfl ?_); refine box_event ?hg (N := 2) ?hd (cs := #[.slice none 0 0, .slice none 0 0, .slice none 0 0]) (t := 83) ?hr ?_; (case hd => rfl); (case hg => rfl); (case hr => first | (go_simp; done) | (go_simp; rfl)); intro g2 hg wg2 hbox hb; have n0_ := Aside0.mk (bB_ BG.out hb); have gne := Aside0.mk ((by rw [hg]; exact Nat.ne_of_lt (blk_lt BG.out)) : g ≠ g2); have n2_ := Aside0.mk (lP_ HB.out hb); have n3_ := Aside0.mk hbox; have Sg2 := Aside0.mk ((by rw [hg]; exact (below_size HB.out) : w.heap.size ≤ g2)); clear BG; clear HB hbox hb hg; have HB := n2_; have BG := n0_; have B2 := n3_; clear n0_; obtain ⟨_, _, _, _, _, _, _, _, _, _, _, _, _, _, _, _, _, _, _, _, _, _, _, _, _, _, _, _, _, _, _, _, _, _, _, _, _, _, _, _⟩ := bc20 BG.out; clear n2_ n3_) | ((with_reducible refine gate_dst (N := 3) rfl ?_); refine box_event ?hg (N := 3) ?hd (cs := #[.int .i64 0, .int .i64 0, .int .i64 0, .int .i64 0]) (t := 54) ?hr ?_; (case hd => rfl); (case hg => rfl); (case hr => first | (go_simp; done) | (go_simp; rfl)); intro g3 hg wg3 hbox hb; have n0_ := Aside0.mk (bB_ BG.out hb); have n1_ := Aside0.mk (bB_ B2.out hb); have gne2 := Aside0.mk ((by rw [hg]; exact Nat.ne_of_lt (blk_lt BG.out)) : g ≠ g3); have gne3 := Aside0.mk ((by rw [hg]; exact Nat.ne_of_lt (blk_lt B2.out)) : g2 ≠ g3); have n2_ := Aside0.mk (lP_ HB.out hb); have n3_ := Aside0.mk hbox; have Sg3 := Aside0.mk ((by rw [hg]; exact (below_size HB.out) : w.heap.size ≤ g3)); clear BG B2; clear HB hbox hb hg; have HB := n2_; have BG := n0_; have B2 := n1_; have B3 := n3_; clear n0_ n1_; obtain ⟨_, _, _, _, _, _⟩ := bc3 B2.out; obtain ⟨_, _, _, _, _, _, _, _, _, _, _, _, _, _, _, _, _, _, _, _, _, _, _, _, _, _, _, _, _, _, _, _, _, _, _, _, _, _, _, _⟩ := bc20 BG.out; obtain ⟨_, _, _, _, _, _, _, _⟩ := bc4 B3.out; have q1 := gne.out; have q2 := gne2.out; have q3 := gne3.out; have q1s := gne.out.symm; have q2s := gne2.out.symm; have q3s := gne3.out.symm; clear n2_ n3_) | ((with_reducible refine gate_store (t := 54) rfl ?_); refine store_box_ (by rfl) (by rfl) (by rfl) (by rfl) (by rfl) (g := g3) (t := 54) (old := #[.int .i64 0, .int .i64 0, .int .i64 0, .int .i64 0]) B3.out (by rfl) (by kernel_rfl) (by rfl) ?_; intro wS hst hU; have n0_ := Aside0.mk (bU_ hU BG.out gne2.out); have n1_ := Aside0.mk (bU_ hU B2.out gne3.out); have n2_ := Aside0.mk (lU_ hU HB.out Sg3.out); have n3_ := Aside0.mk hst; clear BG B2 B3 HB hst hU; have BG := n0_; have B2 := n1_; have HB := n2_; have B3 := n3_; clear n0_ n1_ n2_ n3_; obtain ⟨_, _, _, _, _, _⟩ := bc3 B2.out; obtain ⟨_, _, _, _, _, _, _, _, _, _, _, _, _, _, _, _, _, _, _, _, _, _, _, _, _, _, _, _, _, _, _, _, _, _, _, _, _, _, _, _⟩ := bc20 BG.out; obtain ⟨_, _, _, _, _, _, _, _⟩ := bc4 B3.out))
  have n0_ := Aside0.mk (bD_ BG.out)
  have n1_ := Aside0.mk (bD_ B2.out)
  have n2_ := Aside0.mk (bD_ B3.out)
  have n3_ := Aside0.mk (lD_ HB.out)
  clear BG B2 B3 HB
  have BG := n0_
  have B2 := n1_
  have B3 := n2_
  have HB := n3_
  clear n0_ n1_ n2_ n3_
  refine start_ (n := 45) (S := fun w' => w'.cell? ⟨g, 5, none⟩ = some (.int .i64 x5) ∧ w'.cell? ⟨g, 7, none⟩ = some (.int .i64 x7) ∧ w'.cell? ⟨g, 9, none⟩ = some (.int .i64 x9) ∧ w'.cell? ⟨g, 6, none⟩ = some (.int .i64 x6) ∧ w'.cell? ⟨g, 8, none⟩ = some (.int .i64 x8) ∧ w'.cell? ⟨g, 10, none⟩ = some (.int .i64 x10) ∧ w'.cell? ⟨g, 15, none⟩ = some (.int .i64 x15) ∧ w'.cell? ⟨g, 16, none⟩ = some (.int .i64 x16) ∧ w'.cell? ⟨g3, 0, none⟩ = some (.int .i64 x11) ∧ w'.cell? ⟨g3, 1, none⟩ = some (.int .i64 x12) ∧ w'.cell? ⟨g3, 2, none⟩ = some (.int .i64 x13) ∧ w'.cell? ⟨g3, 3, none⟩ = some (.int .i64 x14)) (ds := [44]) #[false, false, false, false, false, false, false, false, false, false, false, false, false, false, false, false, false, false, false, false, false, false, false, false, false, false, false, false, false, false, false, false, false, false, false, false, false, false, false, false, false, false, false, false, false] (by kernel_rfl) rfl rfl ⟨(blk_cell BG.out 5).trans rfl, (blk_cell BG.out 7).trans rfl, (blk_cell BG.out 9).trans rfl, (blk_cell BG.out 6).trans rfl, (blk_cell BG.out 8).trans rfl, (blk_cell BG.out 10).trans rfl, (blk_cell BG.out 15).trans rfl, (blk_cell BG.out 16).trans rfl, (blk_cell B3.out 0).trans rfl, (blk_cell B3.out 1).trans rfl, (blk_cell B3.out 2).trans rfl, (blk_cell B3.out 3).trans rfl⟩ (fun hHeld => ?_)
  generalize wS.drew = wD at BG B2 B3 HB hHeld ⊢
  refine pure_ (i := 0) (N := some 8) (v := ?_) (a' := ?_) #[true, false, false, false, false, false, false, false, false, false, false, false, false, false, false, false, false, false, false, false, false, false, false, false, false, false, false, false, false, false, false, false, false, false, false, false, false, false, false, false, false, false, false, false, false] rfl rfl (by kernel_rfl) (fun _ _ _ h => h) (Or.inl ⟨by rfl, ?_⟩) ?_ ?_
  rotate_left
  · intro w'
    go_simp
    first | done | (with_reducible rfl)
  rotate_left
  · simp only [Act.put, lA_, lZ_, lS_, i64_w, i32_w]
    rfl
  refine pure_ (i := 1) (N := some 9) (v := ?_) (a' := ?_) #[true, true, false, false, false, false, false, false, false, false, false, false, false, false, false, false, false, false, false, false, false, false, false, false, false, false, false, false, false, false, false, false, false, false, false, false, false, false, false, false, false, false, false, false, false] rfl rfl (by kernel_rfl) (fun _ _ _ h => h) (Or.inl ⟨by rfl, ?_⟩) ?_ ?_
  rotate_left
  · intro w'
    go_simp
    first | done | (with_reducible rfl)
  rotate_left
  · simp only [Act.put, lA_, lZ_, lS_, i64_w, i32_w]
    rfl
  refine pure_ (i := 2) (N := some 10) (v := ?_) (a' := ?_) #[true, true, true, false, false, false, false, false, false, false, false, false, false, false, false, false, false, false, false, false, false, false, false, false, false, false, false, false, false, false, false, false, false, false, false, false, false, false, false, false, false, false, false, false, false] rfl rfl (by kernel_rfl) (fun _ _ _ h => h) (Or.inl ⟨by rfl, ?_⟩) ?_ ?_
  rotate_left
  · intro w'
    go_simp
    first | done | (with_reducible rfl)
  rotate_left
  · simp only [Act.put, lA_, lZ_, lS_, i64_w, i32_w]
    rfl
  refine take_ (i := 3) (N := some 11) (v := ?_) (a' := ?_) #[true, true, true, true, false, false, false, false, false, false, false, false, false, false, false, false, false, false, false, false, false, false, false, false, false, false, false, false, false, false, false, false, false, false, false, false, false, false, false, false, false, false, false, false, false] rfl rfl (by kernel_rfl) (fun _ _ _ h => h) (Or.inl ⟨by rfl, ?_⟩) hHeld ?_ ?_
  rotate_left
  · rintro w' ⟨s0, s1, s2, s3, s4, s5, s6, s7, s8, s9, s10, s11⟩
    go_simp
    with_reducible rfl
  rotate_left
  · simp only [Act.put, lA_, lZ_, lS_, i64_w, i32_w]
    rfl
  refine pure_ (i := 4) (N := some 12) (v := ?_) (a' := ?_) #[true, true, true, true, true, false, false, false, false, false, false, false, false, false, false, false, false, false, false, false, false, false, false, false, false, false, false, false, false, false, false, false, false, false, false, false, false, false, false, false, false, false, false, false, false] rfl rfl (by kernel_rfl) (fun _ _ _ h => h) (Or.inl ⟨by rfl, ?_⟩) ?_ ?_
  rotate_left
  · intro w'
    go_simp
    first | done | (with_reducible rfl)
  rotate_left
  · simp only [Act.put, lA_, lZ_, lS_, i64_w, i32_w]
    rfl
  refine pure_ (i := 5) (N := some 13) (v := ?_) (a' := ?_) #[true, true, true, true, true, true, false, false, false, false, false, false, false, false, false, false, false, false, false, false, false, false, false, false, false, false, false, false, false, false, false, false, false, false, false, false, false, false, false, false, false, false, false, false, false] rfl rfl (by kernel_rfl) (fun _ _ _ h => h) (Or.inl ⟨by rfl, ?_⟩) ?_ ?_
  rotate_left
  · intro w'
    go_simp
    first | done | (with_reducible rfl)
  rotate_left
  · simp only [Act.put, lA_, lZ_, lS_, i64_w, i32_w]
    rfl
  refine pure_ (i := 6) (N := some 14) (v := ?_) (a' := ?_) #[true, true, true, true, true, true, true, false, false, false, false, false, false, false, false, false, false, false, false, false, false, false, false, false, false, false, false, false, false, false, false, false, false, false, false, false, false, false, false, false, false, false, false, false, false] rfl rfl (by kernel_rfl) (fun _ _ _ h => h) (Or.inl ⟨by rfl, ?_⟩) ?_ ?_
  rotate_left
  · intro w'
    go_simp
    first | done | (with_reducible rfl)
  rotate_left
  · simp only [Act.put, lA_, lZ_, lS_, i64_w, i32_w]
    rfl
  refine take_ (i := 7) (N := some 15) (v := ?_) (a' := ?_) #[true, true, true, true, true, true, true, true, false, false, false, false, false, false, false, false, false, false, false, false, false, false, false, false, false, false, false, false, false, false, false, false, false, false, false, false, false, false, false, false, false, false, false, false, false] rfl rfl (by kernel_rfl) (fun _ _ _ h => h) (Or.inl ⟨by rfl, ?_⟩) hHeld ?_ ?_
  rotate_left
  · rintro w' ⟨s0, s1, s2, s3, s4, s5, s6, s7, s8, s9, s10, s11⟩
    go_simp
    with_reducible rfl
  rotate_left
  · simp only [Act.put, lA_, lZ_, lS_, i64_w, i32_w]
    rfl
  refine pure_ (i := 8) (N := some 16) (v := ?_) (a' := ?_) #[true, true, true, true, true, true, true, true, true, false, false, false, false, false, false, false, false, false, false, false, false, false, false, false, false, false, false, false, false, false, false, false, false, false, false, false, false, false, false, false, false, false, false, false, false] rfl rfl (by kernel_rfl) (fun _ _ _ h => h) (Or.inl ⟨by rfl, ?_⟩) ?_ ?_
  rotate_left
  · intro w'
    go_simp
    first | done | (with_reducible rfl)
  rotate_left
  · simp only [Act.put, lA_, lZ_, lS_, i64_w, i32_w]
    rfl
  refine pure_ (i := 9) (N := some 17) (v := ?_) (a' := ?_) #[true, true, true, true, true, true, true, true, true, true, false, false, false, false, false, false, false, false, false, false, false, false, false, false, false, false, false, false, false, false, false, false, false, false, false, false, false, false, false, false, false, false, false, false, false] rfl rfl (by kernel_rfl) (fun _ _ _ h => h) (Or.inl ⟨by rfl, ?_⟩) ?_ ?_
  rotate_left
  · intro w'
    go_simp
    first | done | (with_reducible rfl)
  rotate_left
  · simp only [Act.put, lA_, lZ_, lS_, i64_w, i32_w]
    rfl
  refine pure_ (i := 10) (N := some 18) (v := ?_) (a' := ?_) #[true, true, true, true, true, true, true, true, true, true, true, false, false, false, false, false, false, false, false, false, false, false, false, false, false, false, false, false, false, false, false, false, false, false, false, false, false, false, false, false, false, false, false, false, false] rfl rfl (by kernel_rfl) (fun _ _ _ h => h) (Or.inl ⟨by rfl, ?_⟩) ?_ ?_
  rotate_left
  · intro w'
    go_simp
    first | done | (with_reducible rfl)
  rotate_left
  · simp only [Act.put, lA_, lZ_, lS_, i64_w, i32_w]
    rfl
  refine take_ (i := 11) (N := some 19) (v := ?_) (a' := ?_) #[true, true, true, true, true, true, true, true, true, true, true, true, false, false, false, false, false, false, false, false, false, false, false, false, false, false, false, false, false, false, false, false, false, false, false, false, false, false, false, false, false, false, false, false, false] rfl rfl (by kernel_rfl) (fun _ _ _ h => h) (Or.inl ⟨by rfl, ?_⟩) hHeld ?_ ?_
  rotate_left
  · rintro w' ⟨s0, s1, s2, s3, s4, s5, s6, s7, s8, s9, s10, s11⟩
    go_simp
    with_reducible rfl
  rotate_left
  · simp only [Act.put, lA_, lZ_, lS_, i64_w, i32_w]
    rfl
  refine pure_ (i := 13) (N := some 21) (v := ?_) (a' := ?_) #[true, true, true, true, true, true, true, true, true, true, true, true, false, true, false, false, false, false, false, false, false, false, false, false, false, false, false, false, false, false, false, false, false, false, false, false, false, false, false, false, false, false, false, false, false] rfl rfl (by kernel_rfl) (fun _ _ _ h => h) (Or.inl ⟨by rfl, ?_⟩) ?_ ?_
  rotate_left
  · intro w'
    go_simp
    first | done | (with_reducible rfl)
  rotate_left
  · simp only [Act.put, lA_, lZ_, lS_, i64_w, i32_w]
    rfl
  refine pure_ (i := 14) (N := some 22) (v := ?_) (a' := ?_) #[true, true, true, true, true, true, true, true, true, true, true, true, false, true, true, false, false, false, false, false, false, false, false, false, false, false, false, false, false, false, false, false, false, false, false, false, false, false, false, false, false, false, false, false, false] rfl rfl (by kernel_rfl) (fun _ _ _ h => h) (Or.inl ⟨by rfl, ?_⟩) ?_ ?_
  rotate_left
  · intro w'
    go_simp
    first | done | (with_reducible rfl)
  rotate_left
  · simp only [Act.put, lA_, lZ_, lS_, i64_w, i32_w]
    rfl
  refine pure_ (i := 15) (N := some 23) (v := ?_) (a' := ?_) #[true, true, true, true, true, true, true, true, true, true, true, true, false, true, true, true, false, false, false, false, false, false, false, false, false, false, false, false, false, false, false, false, false, false, false, false, false, false, false, false, false, false, false, false, false] rfl rfl (by kernel_rfl) (fun _ _ _ h => h) (Or.inl ⟨by rfl, ?_⟩) ?_ ?_
  rotate_left
  · intro w'
    go_simp
    first | done | (with_reducible rfl)
  rotate_left
  · simp only [Act.put, lA_, lZ_, lS_, i64_w, i32_w]
    rfl
  refine take_ (i := 16) (N := some 24) (v := ?_) (a' := ?_) #[true, true, true, true, true, true, true, true, true, true, true, true, false, true, true, true, true, false, false, false, false, false, false, false, false, false, false, false, false, false, false, false, false, false, false, false, false, false, false, false, false, false, false, false, false] rfl rfl (by kernel_rfl) (fun _ _ _ h => h) (Or.inl ⟨by rfl, ?_⟩) hHeld ?_ ?_
  rotate_left
  · rintro w' ⟨s0, s1, s2, s3, s4, s5, s6, s7, s8, s9, s10, s11⟩
    go_simp
    with_reducible rfl
  rotate_left
  · simp only [Act.put, lA_, lZ_, lS_, i64_w, i32_w]
    rfl
  refine pure_ (i := 17) (N := some 25) (v := ?_) (a' := ?_) #[true, true, true, true, true, true, true, true, true, true, true, true, false, true, true, true, true, true, false, false, false, false, false, false, false, false, false, false, false, false, false, false, false, false, false, false, false, false, false, false, false, false, false, false, false] rfl rfl (by kernel_rfl) (fun _ _ _ h => h) (Or.inl ⟨by rfl, ?_⟩) ?_ ?_
  rotate_left
  · intro w'
    go_simp
    first | done | (with_reducible rfl)
  rotate_left
  · simp only [Act.put, lA_, lZ_, lS_, i64_w, i32_w]
    rfl
  refine pure_ (i := 18) (N := some 26) (v := ?_) (a' := ?_) #[true, true, true, true, true, true, true, true, true, true, true, true, false, true, true, true, true, true, true, false, false, false, false, false, false, false, false, false, false, false, false, false, false, false, false, false, false, false, false, false, false, false, false, false, false] rfl rfl (by kernel_rfl) (fun _ _ _ h => h) (Or.inl ⟨by rfl, ?_⟩) ?_ ?_
  rotate_left
  · intro w'
    go_simp
    first | done | (with_reducible rfl)
  rotate_left
  · simp only [Act.put, lA_, lZ_, lS_, i64_w, i32_w]
    rfl
  refine pure_ (i := 19) (N := some 27) (v := ?_) (a' := ?_) #[true, true, true, true, true, true, true, true, true, true, true, true, false, true, true, true, true, true, true, true, false, false, false, false, false, false, false, false, false, false, false, false, false, false, false, false, false, false, false, false, false, false, false, false, false] rfl rfl (by kernel_rfl) (fun _ _ _ h => h) (Or.inl ⟨by rfl, ?_⟩) ?_ ?_
  rotate_left
  · intro w'
    go_simp
    first | done | (with_reducible rfl)
  rotate_left
  · simp only [Act.put, lA_, lZ_, lS_, i64_w, i32_w]
    rfl
  refine take_ (i := 20) (N := some 28) (v := ?_) (a' := ?_) #[true, true, true, true, true, true, true, true, true, true, true, true, false, true, true, true, true, true, true, true, true, false, false, false, false, false, false, false, false, false, false, false, false, false, false, false, false, false, false, false, false, false, false, false, false] rfl rfl (by kernel_rfl) (fun _ _ _ h => h) (Or.inl ⟨by rfl, ?_⟩) hHeld ?_ ?_
  rotate_left
  · rintro w' ⟨s0, s1, s2, s3, s4, s5, s6, s7, s8, s9, s10, s11⟩
    go_simp
    with_reducible rfl
  rotate_left
  · simp only [Act.put, lA_, lZ_, lS_, i64_w, i32_w]
    rfl
  refine pure_ (i := 21) (N := some 29) (v := ?_) (a' := ?_) #[true, true, true, true, true, true, true, true, true, true, true, true, false, true, true, true, true, true, true, true, true, true, false, false, false, false, false, false, false, false, false, false, false, false, false, false, false, false, false, false, false, false, false, false, false] rfl rfl (by kernel_rfl) (fun _ _ _ h => h) (Or.inl ⟨by rfl, ?_⟩) ?_ ?_
  rotate_left
  · intro w'
    go_simp
    first | done | (with_reducible rfl)
  rotate_left
  · simp only [Act.put, lA_, lZ_, lS_, i64_w, i32_w]
    rfl
  refine pure_ (i := 22) (N := some 30) (v := ?_) (a' := ?_) #[true, true, true, true, true, true, true, true, true, true, true, true, false, true, true, true, true, true, true, true, true, true, true, false, false, false, false, false, false, false, false, false, false, false, false, false, false, false, false, false, false, false, false, false, false] rfl rfl (by kernel_rfl) (fun _ _ _ h => h) (Or.inl ⟨by rfl, ?_⟩) ?_ ?_
  rotate_left
  · intro w'
    go_simp
    first | done | (with_reducible rfl)
  rotate_left
  · simp only [Act.put, lA_, lZ_, lS_, i64_w, i32_w]
    rfl
  refine pure_ (i := 23) (N := some 31) (v := ?_) (a' := ?_) #[true, true, true, true, true, true, true, true, true, true, true, true, false, true, true, true, true, true, true, true, true, true, true, true, false, false, false, false, false, false, false, false, false, false, false, false, false, false, false, false, false, false, false, false, false] rfl rfl (by kernel_rfl) (fun _ _ _ h => h) (Or.inl ⟨by rfl, ?_⟩) ?_ ?_
  rotate_left
  · intro w'
    go_simp
    first | done | (with_reducible rfl)
  rotate_left
  · simp only [Act.put, lA_, lZ_, lS_, i64_w, i32_w]
    rfl
  refine take_ (i := 24) (N := some 32) (v := ?_) (a' := ?_) #[true, true, true, true, true, true, true, true, true, true, true, true, false, true, true, true, true, true, true, true, true, true, true, true, true, false, false, false, false, false, false, false, false, false, false, false, false, false, false, false, false, false, false, false, false] rfl rfl (by kernel_rfl) (fun _ _ _ h => h) (Or.inl ⟨by rfl, ?_⟩) hHeld ?_ ?_
  rotate_left
  · rintro w' ⟨s0, s1, s2, s3, s4, s5, s6, s7, s8, s9, s10, s11⟩
    go_simp
    with_reducible rfl
  rotate_left
  · simp only [Act.put, lA_, lZ_, lS_, i64_w, i32_w]
    rfl
  refine pure_ (i := 25) (N := some 33) (v := ?_) (a' := ?_) #[true, true, true, true, true, true, true, true, true, true, true, true, false, true, true, true, true, true, true, true, true, true, true, true, true, true, false, false, false, false, false, false, false, false, false, false, false, false, false, false, false, false, false, false, false] rfl rfl (by kernel_rfl) (fun _ _ _ h => h) (Or.inl ⟨by rfl, ?_⟩) ?_ ?_
  rotate_left
  · intro w'
    go_simp
    first | done | (with_reducible rfl)
  rotate_left
  · simp only [Act.put, lA_, lZ_, lS_, i64_w, i32_w]
    rfl
  refine take_ (i := 26) (N := some 34) (v := ?_) (a' := ?_) #[true, true, true, true, true, true, true, true, true, true, true, true, false, true, true, true, true, true, true, true, true, true, true, true, true, true, true, false, false, false, false, false, false, false, false, false, false, false, false, false, false, false, false, false, false] rfl rfl (by kernel_rfl) (fun _ _ _ h => h) (Or.inl ⟨by rfl, ?_⟩) hHeld ?_ ?_
  rotate_left
  · rintro w' ⟨s0, s1, s2, s3, s4, s5, s6, s7, s8, s9, s10, s11⟩
    go_simp
    with_reducible rfl
  rotate_left
  · simp only [Act.put, lA_, lZ_, lS_, i64_w, i32_w]
    rfl
  refine pure_ (i := 27) (N := some 35) (v := ?_) (a' := ?_) #[true, true, true, true, true, true, true, true, true, true, true, true, false, true, true, true, true, true, true, true, true, true, true, true, true, true, true, true, false, false, false, false, false, false, false, false, false, false, false, false, false, false, false, false, false] rfl rfl (by kernel_rfl) (fun _ _ _ h => h) (Or.inl ⟨by rfl, ?_⟩) ?_ ?_
  rotate_left
  · intro w'
    go_simp
    first | done | (with_reducible rfl)
  rotate_left
  · simp only [Act.put, lA_, lZ_, lS_, i64_w, i32_w]
    rfl
  refine take_ (i := 28) (N := some 36) (v := ?_) (a' := ?_) #[true, true, true, true, true, true, true, true, true, true, true, true, false, true, true, true, true, true, true, true, true, true, true, true, true, true, true, true, true, false, false, false, false, false, false, false, false, false, false, false, false, false, false, false, false] rfl rfl (by kernel_rfl) (fun _ _ _ h => h) (Or.inl ⟨by rfl, ?_⟩) hHeld ?_ ?_
  rotate_left
  · rintro w' ⟨s0, s1, s2, s3, s4, s5, s6, s7, s8, s9, s10, s11⟩
    go_simp
    with_reducible rfl
  rotate_left
  · simp only [Act.put, lA_, lZ_, lS_, i64_w, i32_w]
    rfl
  refine pure_ (i := 29) (N := some 37) (v := ?_) (a' := ?_) #[true, true, true, true, true, true, true, true, true, true, true, true, false, true, true, true, true, true, true, true, true, true, true, true, true, true, true, true, true, true, false, false, false, false, false, false, false, false, false, false, false, false, false, false, false] rfl rfl (by kernel_rfl) (fun _ _ _ h => h) (Or.inl ⟨by rfl, ?_⟩) ?_ ?_
  rotate_left
  · intro w'
    go_simp
    first | done | (with_reducible rfl)
  rotate_left
  · simp only [Act.put, lA_, lZ_, lS_, i64_w, i32_w]
    rfl
  refine take_ (i := 30) (N := some 38) (v := ?_) (a' := ?_) #[true, true, true, true, true, true, true, true, true, true, true, true, false, true, true, true, true, true, true, true, true, true, true, true, true, true, true, true, true, true, true, false, false, false, false, false, false, false, false, false, false, false, false, false, false] rfl rfl (by kernel_rfl) (fun _ _ _ h => h) (Or.inl ⟨by rfl, ?_⟩) hHeld ?_ ?_
  rotate_left
  · rintro w' ⟨s0, s1, s2, s3, s4, s5, s6, s7, s8, s9, s10, s11⟩
    go_simp
    with_reducible rfl
  rotate_left
  · simp only [Act.put, lA_, lZ_, lS_, i64_w, i32_w]
    rfl
  refine pure_ (i := 31) (N := some 39) (v := ?_) (a' := ?_) #[true, true, true, true, true, true, true, true, true, true, true, true, false, true, true, true, true, true, true, true, true, true, true, true, true, true, true, true, true, true, true, true, false, false, false, false, false, false, false, false, false, false, false, false, false] rfl rfl (by kernel_rfl) (fun _ _ _ h => h) (Or.inl ⟨by rfl, ?_⟩) ?_ ?_
  rotate_left
  · intro w'
    go_simp
    first | done | (with_reducible rfl)
  rotate_left
  · simp only [Act.put, lA_, lZ_, lS_, i64_w, i32_w]
    rfl
  refine take_ (i := 32) (N := some 40) (v := ?_) (a' := ?_) #[true, true, true, true, true, true, true, true, true, true, true, true, false, true, true, true, true, true, true, true, true, true, true, true, true, true, true, true, true, true, true, true, true, false, false, false, false, false, false, false, false, false, false, false, false] rfl rfl (by kernel_rfl) (fun _ _ _ h => h) (Or.inl ⟨by rfl, ?_⟩) hHeld ?_ ?_
  rotate_left
  · rintro w' ⟨s0, s1, s2, s3, s4, s5, s6, s7, s8, s9, s10, s11⟩
    go_simp
    with_reducible rfl
  rotate_left
  · simp only [Act.put, lA_, lZ_, lS_, i64_w, i32_w]
    rfl
  refine pure_ (i := 34) (N := some 42) (v := ?_) (a' := ?_) #[true, true, true, true, true, true, true, true, true, true, true, true, false, true, true, true, true, true, true, true, true, true, true, true, true, true, true, true, true, true, true, true, true, false, true, false, false, false, false, false, false, false, false, false, false] rfl rfl (by kernel_rfl) (fun _ _ _ h => h) (Or.inl ⟨by rfl, ?_⟩) ?_ ?_
  rotate_left
  · intro w'
    go_simp
    first | done | (with_reducible rfl)
  rotate_left
  · simp only [Act.put, lA_, lZ_, lS_, i64_w, i32_w]
    rfl
  refine pure_ (i := 35) (N := some 43) (v := ?_) (a' := ?_) #[true, true, true, true, true, true, true, true, true, true, true, true, false, true, true, true, true, true, true, true, true, true, true, true, true, true, true, true, true, true, true, true, true, false, true, true, false, false, false, false, false, false, false, false, false] rfl rfl (by kernel_rfl) (fun _ _ _ h => h) (Or.inl ⟨by rfl, ?_⟩) ?_ ?_
  rotate_left
  · intro w'
    go_simp
    first | done | (with_reducible rfl)
  rotate_left
  · simp only [Act.put, lA_, lZ_, lS_, i64_w, i32_w]
    rfl
  refine pure_ (i := 36) (N := some 44) (v := ?_) (a' := ?_) #[true, true, true, true, true, true, true, true, true, true, true, true, false, true, true, true, true, true, true, true, true, true, true, true, true, true, true, true, true, true, true, true, true, false, true, true, true, false, false, false, false, false, false, false, false] rfl rfl (by kernel_rfl) (fun _ _ _ h => h) (Or.inl ⟨by rfl, ?_⟩) ?_ ?_
  rotate_left
  · intro w'
    go_simp
    first | done | (with_reducible rfl)
  rotate_left
  · simp only [Act.put, lA_, lZ_, lS_, i64_w, i32_w]
    rfl
  refine take_ (i := 37) (N := some 45) (v := ?_) (a' := ?_) #[true, true, true, true, true, true, true, true, true, true, true, true, false, true, true, true, true, true, true, true, true, true, true, true, true, true, true, true, true, true, true, true, true, false, true, true, true, true, false, false, false, false, false, false, false] rfl rfl (by kernel_rfl) (fun _ _ _ h => h) (Or.inl ⟨by rfl, ?_⟩) hHeld ?_ ?_
  rotate_left
  · rintro w' ⟨s0, s1, s2, s3, s4, s5, s6, s7, s8, s9, s10, s11⟩
    go_simp
    with_reducible rfl
  rotate_left
  · simp only [Act.put, lA_, lZ_, lS_, i64_w, i32_w]
    rfl
  refine pure_ (i := 38) (N := some 46) (v := ?_) (a' := ?_) #[true, true, true, true, true, true, true, true, true, true, true, true, false, true, true, true, true, true, true, true, true, true, true, true, true, true, true, true, true, true, true, true, true, false, true, true, true, true, true, false, false, false, false, false, false] rfl rfl (by kernel_rfl) (fun _ _ _ h => h) (Or.inl ⟨by rfl, ?_⟩) ?_ ?_
  rotate_left
  · intro w'
    go_simp
    first | done | (with_reducible rfl)
  rotate_left
  · simp only [Act.put, lA_, lZ_, lS_, i64_w, i32_w]
    rfl
  refine pure_ (i := 39) (N := some 47) (v := ?_) (a' := ?_) #[true, true, true, true, true, true, true, true, true, true, true, true, false, true, true, true, true, true, true, true, true, true, true, true, true, true, true, true, true, true, true, true, true, false, true, true, true, true, true, true, false, false, false, false, false] rfl rfl (by kernel_rfl) (fun _ _ _ h => h) (Or.inl ⟨by rfl, ?_⟩) ?_ ?_
  rotate_left
  · intro w'
    go_simp
    first | done | (with_reducible rfl)
  rotate_left
  · simp only [Act.put, lA_, lZ_, lS_, i64_w, i32_w]
    rfl
  refine pure_ (i := 40) (N := some 48) (v := ?_) (a' := ?_) #[true, true, true, true, true, true, true, true, true, true, true, true, false, true, true, true, true, true, true, true, true, true, true, true, true, true, true, true, true, true, true, true, true, false, true, true, true, true, true, true, true, false, false, false, false] rfl rfl (by kernel_rfl) (fun _ _ _ h => h) (Or.inl ⟨by rfl, ?_⟩) ?_ ?_
  rotate_left
  · intro w'
    go_simp
    first | done | (with_reducible rfl)
  rotate_left
  · simp only [Act.put, lA_, lZ_, lS_, i64_w, i32_w]
    rfl
  refine take_ (i := 41) (N := some 49) (v := ?_) (a' := ?_) #[true, true, true, true, true, true, true, true, true, true, true, true, false, true, true, true, true, true, true, true, true, true, true, true, true, true, true, true, true, true, true, true, true, false, true, true, true, true, true, true, true, true, false, false, false] rfl rfl (by kernel_rfl) (fun _ _ _ h => h) (Or.inl ⟨by rfl, ?_⟩) hHeld ?_ ?_
  rotate_left
  · rintro w' ⟨s0, s1, s2, s3, s4, s5, s6, s7, s8, s9, s10, s11⟩
    go_simp
    with_reducible rfl
  rotate_left
  · simp only [Act.put, lA_, lZ_, lS_, i64_w, i32_w]
    rfl
  refine join_ (σ := Value × Value × Value) 2 #[true, true, true, true, true, true, true, true, true, true, true, true, true, true, true, true, true, true, true, true, true, true, true, true, true, true, true, true, true, true, true, true, true, true, true, true, true, true, true, true, true, true, true, false, false] (fun s_ => [(20, s_.1), (41, s_.2.1), (50, s_.2.2)]) (fun s_ W => (W.cell? ⟨g, 5, none⟩ = some (.int .i64 x5) ∧ W.cell? ⟨g, 7, none⟩ = some (.int .i64 x7) ∧ W.cell? ⟨g, 9, none⟩ = some (.int .i64 x9) ∧ W.cell? ⟨g, 6, none⟩ = some (.int .i64 x6) ∧ W.cell? ⟨g, 8, none⟩ = some (.int .i64 x8) ∧ W.cell? ⟨g, 10, none⟩ = some (.int .i64 x10) ∧ W.cell? ⟨g, 15, none⟩ = some (.int .i64 x15) ∧ W.cell? ⟨g, 16, none⟩ = some (.int .i64 x16) ∧ W.cell? ⟨g3, 0, none⟩ = some (.int .i64 x11) ∧ W.cell? ⟨g3, 1, none⟩ = some (.int .i64 x12) ∧ W.cell? ⟨g3, 2, none⟩ = some (.int .i64 x13) ∧ W.cell? ⟨g3, 3, none⟩ = some (.int .i64 x14)) ∧ Kd.R (Kd.int .i64) 2 W w.heap.size (fun _ => True) s_.1 [x5, x7, x9] ∧ Kd.R (Kd.int .i64) 2 W w.heap.size (fun _ => True) s_.2.1 [x6, x8, x10, x11, x12, x13, x14] ∧ Kd.R (Kd.int .i64) 2 W w.heap.size (fun _ => True) s_.2.2 [x15, x16] ∧ W.heap[g2]? = some (.cells #[.slice none 0 0, .slice none 0 0, .slice none 0 0] 83 (0, 0)) ∧ Below w.heap.size w W) ?_ ?_
  rotate_left
  · intro hCont
    refine three_ (i := 12) (j := 33) (k := 42) (Ni := some 20) (Nj := some 41) (Nk := some 50) #[true, true, true, true, true, true, true, true, true, true, true, true, true, true, true, true, true, true, true, true, true, true, true, true, true, true, true, true, true, true, true, true, true, false, true, true, true, true, true, true, true, true, false, false, false] #[true, true, true, true, true, true, true, true, true, true, true, true, false, true, true, true, true, true, true, true, true, true, true, true, true, true, true, true, true, true, true, true, true, true, true, true, true, true, true, true, true, true, false, false, false] #[true, true, true, true, true, true, true, true, true, true, true, true, false, true, true, true, true, true, true, true, true, true, true, true, true, true, true, true, true, true, true, true, true, false, true, true, true, true, true, true, true, true, true, false, false] rfl rfl rfl rfl rfl rfl (by kernel_rfl) (by decide) (by decide) (by decide) (fun K hK => ?_) (fun K hK => ?_) (fun K hK => ?_)
    · skip
      refine Kd.R_lit_step (Kd.int .i64) _ 2 ?hg (N := 20) ?hd (xs := ([x5, x7, x9] : List Int)) (inner := [.int .i64 x5, .int .i64 x7, .int .i64 x9]) (ok := fun _ => True) (okp := fun _ => True) ?hr ?hp (fun _ hk => hk) trivial (Below.refl _ _) (Nat.le_refl _) (by simp) ?_; (case hd => rfl); (case hg => rfl); (case hr => first | (go_simp; done) | (go_simp; rfl)); (case hp => exact repsG_ _)
      intro v20 wE20 ho hb hg_ hnew_
      clear hg_ hnew_
      have R20 := Aside0.mk (Kd.R_lower ho (below_size HB.out))
      have n0_ := Aside0.mk (bB_ BG.out hb)
      have n1_ := Aside0.mk (bB_ B2.out hb)
      have n2_ := Aside0.mk (bB_ B3.out hb)
      have n3_ := Aside0.mk (lP_ HB.out hb)
      clear BG B2 B3 HB ho hb
      have BG := n0_
      have B2 := n1_
      have B3 := n2_
      have HB := n3_
      clear n0_ n1_ n2_ n3_
      refine hK.out _ _ ⟨(blk_cell BG.out 5).trans rfl, (blk_cell BG.out 7).trans rfl, (blk_cell BG.out 9).trans rfl, (blk_cell BG.out 6).trans rfl, (blk_cell BG.out 8).trans rfl, (blk_cell BG.out 10).trans rfl, (blk_cell BG.out 15).trans rfl, (blk_cell BG.out 16).trans rfl, (blk_cell B3.out 0).trans rfl, (blk_cell B3.out 1).trans rfl, (blk_cell B3.out 2).trans rfl, (blk_cell B3.out 3).trans rfl⟩ (fun hHeld => ?_)
      clear hK K
      refine norm_ (a' := ?_) ?_ ?_
      rotate_left
      · show Act.put _ (some 20) _ = _
        simp only [Act.put, lA_, lZ_, lS_, i64_w, i32_w]
        rfl
      refine two_ (i := 33) (j := 42) (Ni := some 41) (Nj := some 50) #[true, true, true, true, true, true, true, true, true, true, true, true, true, true, true, true, true, true, true, true, true, true, true, true, true, true, true, true, true, true, true, true, true, true, true, true, true, true, true, true, true, true, false, false, false] #[true, true, true, true, true, true, true, true, true, true, true, true, true, true, true, true, true, true, true, true, true, true, true, true, true, true, true, true, true, true, true, true, true, false, true, true, true, true, true, true, true, true, true, false, false] rfl rfl rfl rfl (by kernel_rfl) (by decide) (by decide) (fun K hK => ?_) (fun K hK => ?_)
      · skip
        refine Kd.R_lit_step (Kd.int .i64) _ 2 ?hg (N := 41) ?hd (xs := ([x6, x8, x10, x11, x12, x13, x14] : List Int)) (inner := [.int .i64 x6, .int .i64 x8, .int .i64 x10, .int .i64 x11, .int .i64 x12, .int .i64 x13, .int .i64 x14]) (ok := fun _ => True) (okp := fun _ => True) ?hr ?hp (fun _ hk => hk) trivial (Below.refl _ _) (Nat.le_refl _) (by simp) ?_; (case hd => rfl); (case hg => rfl); (case hr => first | (go_simp; done) | (go_simp; rfl)); (case hp => exact repsG_ _)
        intro v41 wE41 ho hb hg_ hnew_
        clear hg_ hnew_
        have R41 := Aside0.mk (Kd.R_lower ho (below_size HB.out))
        have n9_ := Aside0.mk (Kd.R_below R20.out hb)
        clear R20
        have R20 := n9_
        clear n9_
        have n0_ := Aside0.mk (bB_ BG.out hb)
        have n1_ := Aside0.mk (bB_ B2.out hb)
        have n2_ := Aside0.mk (bB_ B3.out hb)
        have n3_ := Aside0.mk (lP_ HB.out hb)
        clear BG B2 B3 HB ho hb
        have BG := n0_
        have B2 := n1_
        have B3 := n2_
        have HB := n3_
        clear n0_ n1_ n2_ n3_
        refine hK.out _ _ ⟨(blk_cell BG.out 5).trans rfl, (blk_cell BG.out 7).trans rfl, (blk_cell BG.out 9).trans rfl, (blk_cell BG.out 6).trans rfl, (blk_cell BG.out 8).trans rfl, (blk_cell BG.out 10).trans rfl, (blk_cell BG.out 15).trans rfl, (blk_cell BG.out 16).trans rfl, (blk_cell B3.out 0).trans rfl, (blk_cell B3.out 1).trans rfl, (blk_cell B3.out 2).trans rfl, (blk_cell B3.out 3).trans rfl⟩ (fun hHeld => ?_)
        clear hK K
        refine norm_ (a' := ?_) ?_ ?_
        rotate_left
        · show Act.put _ (some 41) _ = _
          simp only [Act.put, lA_, lZ_, lS_, i64_w, i32_w]
          rfl
        refine one_ (i := 42) (N := some 50) #[true, true, true, true, true, true, true, true, true, true, true, true, true, true, true, true, true, true, true, true, true, true, true, true, true, true, true, true, true, true, true, true, true, true, true, true, true, true, true, true, true, true, true, false, false] rfl rfl (by kernel_rfl) (by decide) (fun K hK => ?_)
        refine Kd.R_lit_step (Kd.int .i64) _ 2 ?hg (N := 50) ?hd (xs := ([x15, x16] : List Int)) (inner := [.int .i64 x15, .int .i64 x16]) (ok := fun _ => True) (okp := fun _ => True) ?hr ?hp (fun _ hk => hk) trivial (Below.refl _ _) (Nat.le_refl _) (by simp) ?_; (case hd => rfl); (case hg => rfl); (case hr => first | (go_simp; done) | (go_simp; rfl)); (case hp => exact repsG_ _)
        intro v50 wE50 ho hb hg_ hnew_
        clear hg_ hnew_
        have R50 := Aside0.mk (Kd.R_lower ho (below_size HB.out))
        have n9_ := Aside0.mk (Kd.R_below R20.out hb)
        clear R20
        have R20 := n9_
        clear n9_
        have n9_ := Aside0.mk (Kd.R_below R41.out hb)
        clear R41
        have R41 := n9_
        clear n9_
        have n0_ := Aside0.mk (bB_ BG.out hb)
        have n1_ := Aside0.mk (bB_ B2.out hb)
        have n2_ := Aside0.mk (bB_ B3.out hb)
        have n3_ := Aside0.mk (lP_ HB.out hb)
        clear BG B2 B3 HB ho hb
        have BG := n0_
        have B2 := n1_
        have B3 := n2_
        have HB := n3_
        clear n0_ n1_ n2_ n3_
        refine hK.out _ _ ⟨(blk_cell BG.out 5).trans rfl, (blk_cell BG.out 7).trans rfl, (blk_cell BG.out 9).trans rfl, (blk_cell BG.out 6).trans rfl, (blk_cell BG.out 8).trans rfl, (blk_cell BG.out 10).trans rfl, (blk_cell BG.out 15).trans rfl, (blk_cell BG.out 16).trans rfl, (blk_cell B3.out 0).trans rfl, (blk_cell B3.out 1).trans rfl, (blk_cell B3.out 2).trans rfl, (blk_cell B3.out 3).trans rfl⟩ (fun hHeld => ?_)
        clear hK K
        refine norm_ (a' := ?_) ?_ ?_
        rotate_left
        · show Act.put _ (some 50) _ = _
          simp only [Act.put, lA_, lZ_, lS_, i64_w, i32_w]
          rfl
        exact norm_ (by simp only [putAll, Act.put, lA_, lZ_, lS_]) (hCont (v20, v41, v50) _ ⟨hHeld, R20.out, R41.out, R50.out, B2.out, HB.out⟩)
      · skip
        refine Kd.R_lit_step (Kd.int .i64) _ 2 ?hg (N := 50) ?hd (xs := ([x15, x16] : List Int)) (inner := [.int .i64 x15, .int .i64 x16]) (ok := fun _ => True) (okp := fun _ => True) ?hr ?hp (fun _ hk => hk) trivial (Below.refl _ _) (Nat.le_refl _) (by simp) ?_; (case hd => rfl); (case hg => rfl); (case hr => first | (go_simp; done) | (go_simp; rfl)); (case hp => exact repsG_ _)
        intro v50 wE50 ho hb hg_ hnew_
        clear hg_ hnew_
        have R50 := Aside0.mk (Kd.R_lower ho (below_size HB.out))
        have n9_ := Aside0.mk (Kd.R_below R20.out hb)
        clear R20
        have R20 := n9_
        clear n9_
        have n0_ := Aside0.mk (bB_ BG.out hb)
        have n1_ := Aside0.mk (bB_ B2.out hb)
        have n2_ := Aside0.mk (bB_ B3.out hb)
        have n3_ := Aside0.mk (lP_ HB.out hb)
        clear BG B2 B3 HB ho hb
        have BG := n0_
        have B2 := n1_
        have B3 := n2_
        have HB := n3_
        clear n0_ n1_ n2_ n3_
        refine hK.out _ _ ⟨(blk_cell BG.out 5).trans rfl, (blk_cell BG.out 7).trans rfl, (blk_cell BG.out 9).trans rfl, (blk_cell BG.out 6).trans rfl, (blk_cell BG.out 8).trans rfl, (blk_cell BG.out 10).trans rfl, (blk_cell BG.out 15).trans rfl, (blk_cell BG.out 16).trans rfl, (blk_cell B3.out 0).trans rfl, (blk_cell B3.out 1).trans rfl, (blk_cell B3.out 2).trans rfl, (blk_cell B3.out 3).trans rfl⟩ (fun hHeld => ?_)
        clear hK K
        refine norm_ (a' := ?_) ?_ ?_
        rotate_left
        · show Act.put _ (some 50) _ = _
          simp only [Act.put, lA_, lZ_, lS_, i64_w, i32_w]
          rfl
        refine one_ (i := 33) (N := some 41) #[true, true, true, true, true, true, true, true, true, true, true, true, true, true, true, true, true, true, true, true, true, true, true, true, true, true, true, true, true, true, true, true, true, true, true, true, true, true, true, true, true, true, true, false, false] rfl rfl (by kernel_rfl) (by decide) (fun K hK => ?_)
        refine Kd.R_lit_step (Kd.int .i64) _ 2 ?hg (N := 41) ?hd (xs := ([x6, x8, x10, x11, x12, x13, x14] : List Int)) (inner := [.int .i64 x6, .int .i64 x8, .int .i64 x10, .int .i64 x11, .int .i64 x12, .int .i64 x13, .int .i64 x14]) (ok := fun _ => True) (okp := fun _ => True) ?hr ?hp (fun _ hk => hk) trivial (Below.refl _ _) (Nat.le_refl _) (by simp) ?_; (case hd => rfl); (case hg => rfl); (case hr => first | (go_simp; done) | (go_simp; rfl)); (case hp => exact repsG_ _)
        intro v41 wE41 ho hb hg_ hnew_
        clear hg_ hnew_
        have R41 := Aside0.mk (Kd.R_lower ho (below_size HB.out))
        have n9_ := Aside0.mk (Kd.R_below R20.out hb)
        clear R20
        have R20 := n9_
        clear n9_
        have n9_ := Aside0.mk (Kd.R_below R50.out hb)
        clear R50
        have R50 := n9_
        clear n9_
        have n0_ := Aside0.mk (bB_ BG.out hb)
        have n1_ := Aside0.mk (bB_ B2.out hb)
        have n2_ := Aside0.mk (bB_ B3.out hb)
        have n3_ := Aside0.mk (lP_ HB.out hb)
        clear BG B2 B3 HB ho hb
        have BG := n0_
        have B2 := n1_
        have B3 := n2_
        have HB := n3_
        clear n0_ n1_ n2_ n3_
        refine hK.out _ _ ⟨(blk_cell BG.out 5).trans rfl, (blk_cell BG.out 7).trans rfl, (blk_cell BG.out 9).trans rfl, (blk_cell BG.out 6).trans rfl, (blk_cell BG.out 8).trans rfl, (blk_cell BG.out 10).trans rfl, (blk_cell BG.out 15).trans rfl, (blk_cell BG.out 16).trans rfl, (blk_cell B3.out 0).trans rfl, (blk_cell B3.out 1).trans rfl, (blk_cell B3.out 2).trans rfl, (blk_cell B3.out 3).trans rfl⟩ (fun hHeld => ?_)
        clear hK K
        refine norm_ (a' := ?_) ?_ ?_
        rotate_left
        · show Act.put _ (some 41) _ = _
          simp only [Act.put, lA_, lZ_, lS_, i64_w, i32_w]
          rfl
        exact norm_ (by simp only [putAll, Act.put, lA_, lZ_, lS_]) (hCont (v20, v41, v50) _ ⟨hHeld, R20.out, R41.out, R50.out, B2.out, HB.out⟩)
    · skip
      refine Kd.R_lit_step (Kd.int .i64) _ 2 ?hg (N := 41) ?hd (xs := ([x6, x8, x10, x11, x12, x13, x14] : List Int)) (inner := [.int .i64 x6, .int .i64 x8, .int .i64 x10, .int .i64 x11, .int .i64 x12, .int .i64 x13, .int .i64 x14]) (ok := fun _ => True) (okp := fun _ => True) ?hr ?hp (fun _ hk => hk) trivial (Below.refl _ _) (Nat.le_refl _) (by simp) ?_; (case hd => rfl); (case hg => rfl); (case hr => first | (go_simp; done) | (go_simp; rfl)); (case hp => exact repsG_ _)
      intro v41 wE41 ho hb hg_ hnew_
      clear hg_ hnew_
      have R41 := Aside0.mk (Kd.R_lower ho (below_size HB.out))
      have n0_ := Aside0.mk (bB_ BG.out hb)
      have n1_ := Aside0.mk (bB_ B2.out hb)
      have n2_ := Aside0.mk (bB_ B3.out hb)
      have n3_ := Aside0.mk (lP_ HB.out hb)
      clear BG B2 B3 HB ho hb
      have BG := n0_
      have B2 := n1_
      have B3 := n2_
      have HB := n3_
      clear n0_ n1_ n2_ n3_
      refine hK.out _ _ ⟨(blk_cell BG.out 5).trans rfl, (blk_cell BG.out 7).trans rfl, (blk_cell BG.out 9).trans rfl, (blk_cell BG.out 6).trans rfl, (blk_cell BG.out 8).trans rfl, (blk_cell BG.out 10).trans rfl, (blk_cell BG.out 15).trans rfl, (blk_cell BG.out 16).trans rfl, (blk_cell B3.out 0).trans rfl, (blk_cell B3.out 1).trans rfl, (blk_cell B3.out 2).trans rfl, (blk_cell B3.out 3).trans rfl⟩ (fun hHeld => ?_)
      clear hK K
      refine norm_ (a' := ?_) ?_ ?_
      rotate_left
      · show Act.put _ (some 41) _ = _
        simp only [Act.put, lA_, lZ_, lS_, i64_w, i32_w]
        rfl
      refine two_ (i := 12) (j := 42) (Ni := some 20) (Nj := some 50) #[true, true, true, true, true, true, true, true, true, true, true, true, true, true, true, true, true, true, true, true, true, true, true, true, true, true, true, true, true, true, true, true, true, true, true, true, true, true, true, true, true, true, false, false, false] #[true, true, true, true, true, true, true, true, true, true, true, true, false, true, true, true, true, true, true, true, true, true, true, true, true, true, true, true, true, true, true, true, true, true, true, true, true, true, true, true, true, true, true, false, false] rfl rfl rfl rfl (by kernel_rfl) (by decide) (by decide) (fun K hK => ?_) (fun K hK => ?_)
      · skip
        refine Kd.R_lit_step (Kd.int .i64) _ 2 ?hg (N := 20) ?hd (xs := ([x5, x7, x9] : List Int)) (inner := [.int .i64 x5, .int .i64 x7, .int .i64 x9]) (ok := fun _ => True) (okp := fun _ => True) ?hr ?hp (fun _ hk => hk) trivial (Below.refl _ _) (Nat.le_refl _) (by simp) ?_; (case hd => rfl); (case hg => rfl); (case hr => first | (go_simp; done) | (go_simp; rfl)); (case hp => exact repsG_ _)
        intro v20 wE20 ho hb hg_ hnew_
        clear hg_ hnew_
        have R20 := Aside0.mk (Kd.R_lower ho (below_size HB.out))
        have n9_ := Aside0.mk (Kd.R_below R41.out hb)
        clear R41
        have R41 := n9_
        clear n9_
        have n0_ := Aside0.mk (bB_ BG.out hb)
        have n1_ := Aside0.mk (bB_ B2.out hb)
        have n2_ := Aside0.mk (bB_ B3.out hb)
        have n3_ := Aside0.mk (lP_ HB.out hb)
        clear BG B2 B3 HB ho hb
        have BG := n0_
        have B2 := n1_
        have B3 := n2_
        have HB := n3_
        clear n0_ n1_ n2_ n3_
        refine hK.out _ _ ⟨(blk_cell BG.out 5).trans rfl, (blk_cell BG.out 7).trans rfl, (blk_cell BG.out 9).trans rfl, (blk_cell BG.out 6).trans rfl, (blk_cell BG.out 8).trans rfl, (blk_cell BG.out 10).trans rfl, (blk_cell BG.out 15).trans rfl, (blk_cell BG.out 16).trans rfl, (blk_cell B3.out 0).trans rfl, (blk_cell B3.out 1).trans rfl, (blk_cell B3.out 2).trans rfl, (blk_cell B3.out 3).trans rfl⟩ (fun hHeld => ?_)
        clear hK K
        refine norm_ (a' := ?_) ?_ ?_
        rotate_left
        · show Act.put _ (some 20) _ = _
          simp only [Act.put, lA_, lZ_, lS_, i64_w, i32_w]
          rfl
        refine one_ (i := 42) (N := some 50) #[true, true, true, true, true, true, true, true, true, true, true, true, true, true, true, true, true, true, true, true, true, true, true, true, true, true, true, true, true, true, true, true, true, true, true, true, true, true, true, true, true, true, true, false, false] rfl rfl (by kernel_rfl) (by decide) (fun K hK => ?_)
        refine Kd.R_lit_step (Kd.int .i64) _ 2 ?hg (N := 50) ?hd (xs := ([x15, x16] : List Int)) (inner := [.int .i64 x15, .int .i64 x16]) (ok := fun _ => True) (okp := fun _ => True) ?hr ?hp (fun _ hk => hk) trivial (Below.refl _ _) (Nat.le_refl _) (by simp) ?_; (case hd => rfl); (case hg => rfl); (case hr => first | (go_simp; done) | (go_simp; rfl)); (case hp => exact repsG_ _)
        intro v50 wE50 ho hb hg_ hnew_
        clear hg_ hnew_
        have R50 := Aside0.mk (Kd.R_lower ho (below_size HB.out))
        have n9_ := Aside0.mk (Kd.R_below R41.out hb)
        clear R41
        have R41 := n9_
        clear n9_
        have n9_ := Aside0.mk (Kd.R_below R20.out hb)
        clear R20
        have R20 := n9_
        clear n9_
        have n0_ := Aside0.mk (bB_ BG.out hb)
        have n1_ := Aside0.mk (bB_ B2.out hb)
        have n2_ := Aside0.mk (bB_ B3.out hb)
        have n3_ := Aside0.mk (lP_ HB.out hb)
        clear BG B2 B3 HB ho hb
        have BG := n0_
        have B2 := n1_
        have B3 := n2_
        have HB := n3_
        clear n0_ n1_ n2_ n3_
        refine hK.out _ _ ⟨(blk_cell BG.out 5).trans rfl, (blk_cell BG.out 7).trans rfl, (blk_cell BG.out 9).trans rfl, (blk_cell BG.out 6).trans rfl, (blk_cell BG.out 8).trans rfl, (blk_cell BG.out 10).trans rfl, (blk_cell BG.out 15).trans rfl, (blk_cell BG.out 16).trans rfl, (blk_cell B3.out 0).trans rfl, (blk_cell B3.out 1).trans rfl, (blk_cell B3.out 2).trans rfl, (blk_cell B3.out 3).trans rfl⟩ (fun hHeld => ?_)
        clear hK K
        refine norm_ (a' := ?_) ?_ ?_
        rotate_left
        · show Act.put _ (some 50) _ = _
          simp only [Act.put, lA_, lZ_, lS_, i64_w, i32_w]
          rfl
        exact norm_ (by simp only [putAll, Act.put, lA_, lZ_, lS_]) (hCont (v20, v41, v50) _ ⟨hHeld, R20.out, R41.out, R50.out, B2.out, HB.out⟩)
      · skip
        refine Kd.R_lit_step (Kd.int .i64) _ 2 ?hg (N := 50) ?hd (xs := ([x15, x16] : List Int)) (inner := [.int .i64 x15, .int .i64 x16]) (ok := fun _ => True) (okp := fun _ => True) ?hr ?hp (fun _ hk => hk) trivial (Below.refl _ _) (Nat.le_refl _) (by simp) ?_; (case hd => rfl); (case hg => rfl); (case hr => first | (go_simp; done) | (go_simp; rfl)); (case hp => exact repsG_ _)
        intro v50 wE50 ho hb hg_ hnew_
        clear hg_ hnew_
        have R50 := Aside0.mk (Kd.R_lower ho (below_size HB.out))
        have n9_ := Aside0.mk (Kd.R_below R41.out hb)
        clear R41
        have R41 := n9_
        clear n9_
        have n0_ := Aside0.mk (bB_ BG.out hb)
        have n1_ := Aside0.mk (bB_ B2.out hb)
        have n2_ := Aside0.mk (bB_ B3.out hb)
        have n3_ := Aside0.mk (lP_ HB.out hb)
        clear BG B2 B3 HB ho hb
        have BG := n0_
        have B2 := n1_
        have B3 := n2_
        have HB := n3_
        clear n0_ n1_ n2_ n3_
        refine hK.out _ _ ⟨(blk_cell BG.out 5).trans rfl, (blk_cell BG.out 7).trans rfl, (blk_cell BG.out 9).trans rfl, (blk_cell BG.out 6).trans rfl, (blk_cell BG.out 8).trans rfl, (blk_cell BG.out 10).trans rfl, (blk_cell BG.out 15).trans rfl, (blk_cell BG.out 16).trans rfl, (blk_cell B3.out 0).trans rfl, (blk_cell B3.out 1).trans rfl, (blk_cell B3.out 2).trans rfl, (blk_cell B3.out 3).trans rfl⟩ (fun hHeld => ?_)
        clear hK K
        refine norm_ (a' := ?_) ?_ ?_
        rotate_left
        · show Act.put _ (some 50) _ = _
          simp only [Act.put, lA_, lZ_, lS_, i64_w, i32_w]
          rfl
        refine one_ (i := 12) (N := some 20) #[true, true, true, true, true, true, true, true, true, true, true, true, true, true, true, true, true, true, true, true, true, true, true, true, true, true, true, true, true, true, true, true, true, true, true, true, true, true, true, true, true, true, true, false, false] rfl rfl (by kernel_rfl) (by decide) (fun K hK => ?_)
        refine Kd.R_lit_step (Kd.int .i64) _ 2 ?hg (N := 20) ?hd (xs := ([x5, x7, x9] : List Int)) (inner := [.int .i64 x5, .int .i64 x7, .int .i64 x9]) (ok := fun _ => True) (okp := fun _ => True) ?hr ?hp (fun _ hk => hk) trivial (Below.refl _ _) (Nat.le_refl _) (by simp) ?_; (case hd => rfl); (case hg => rfl); (case hr => first | (go_simp; done) | (go_simp; rfl)); (case hp => exact repsG_ _)
        intro v20 wE20 ho hb hg_ hnew_
        clear hg_ hnew_
        have R20 := Aside0.mk (Kd.R_lower ho (below_size HB.out))
        have n9_ := Aside0.mk (Kd.R_below R41.out hb)
        clear R41
        have R41 := n9_
        clear n9_
        have n9_ := Aside0.mk (Kd.R_below R50.out hb)
        clear R50
        have R50 := n9_
        clear n9_
        have n0_ := Aside0.mk (bB_ BG.out hb)
        have n1_ := Aside0.mk (bB_ B2.out hb)
        have n2_ := Aside0.mk (bB_ B3.out hb)
        have n3_ := Aside0.mk (lP_ HB.out hb)
        clear BG B2 B3 HB ho hb
        have BG := n0_
        have B2 := n1_
        have B3 := n2_
        have HB := n3_
        clear n0_ n1_ n2_ n3_
        refine hK.out _ _ ⟨(blk_cell BG.out 5).trans rfl, (blk_cell BG.out 7).trans rfl, (blk_cell BG.out 9).trans rfl, (blk_cell BG.out 6).trans rfl, (blk_cell BG.out 8).trans rfl, (blk_cell BG.out 10).trans rfl, (blk_cell BG.out 15).trans rfl, (blk_cell BG.out 16).trans rfl, (blk_cell B3.out 0).trans rfl, (blk_cell B3.out 1).trans rfl, (blk_cell B3.out 2).trans rfl, (blk_cell B3.out 3).trans rfl⟩ (fun hHeld => ?_)
        clear hK K
        refine norm_ (a' := ?_) ?_ ?_
        rotate_left
        · show Act.put _ (some 20) _ = _
          simp only [Act.put, lA_, lZ_, lS_, i64_w, i32_w]
          rfl
        exact norm_ (by simp only [putAll, Act.put, lA_, lZ_, lS_]) (hCont (v20, v41, v50) _ ⟨hHeld, R20.out, R41.out, R50.out, B2.out, HB.out⟩)
    · skip
      refine Kd.R_lit_step (Kd.int .i64) _ 2 ?hg (N := 50) ?hd (xs := ([x15, x16] : List Int)) (inner := [.int .i64 x15, .int .i64 x16]) (ok := fun _ => True) (okp := fun _ => True) ?hr ?hp (fun _ hk => hk) trivial (Below.refl _ _) (Nat.le_refl _) (by simp) ?_; (case hd => rfl); (case hg => rfl); (case hr => first | (go_simp; done) | (go_simp; rfl)); (case hp => exact repsG_ _)
      intro v50 wE50 ho hb hg_ hnew_
      clear hg_ hnew_
      have R50 := Aside0.mk (Kd.R_lower ho (below_size HB.out))
      have n0_ := Aside0.mk (bB_ BG.out hb)
      have n1_ := Aside0.mk (bB_ B2.out hb)
      have n2_ := Aside0.mk (bB_ B3.out hb)
      have n3_ := Aside0.mk (lP_ HB.out hb)
      clear BG B2 B3 HB ho hb
      have BG := n0_
      have B2 := n1_
      have B3 := n2_
      have HB := n3_
      clear n0_ n1_ n2_ n3_
      refine hK.out _ _ ⟨(blk_cell BG.out 5).trans rfl, (blk_cell BG.out 7).trans rfl, (blk_cell BG.out 9).trans rfl, (blk_cell BG.out 6).trans rfl, (blk_cell BG.out 8).trans rfl, (blk_cell BG.out 10).trans rfl, (blk_cell BG.out 15).trans rfl, (blk_cell BG.out 16).trans rfl, (blk_cell B3.out 0).trans rfl, (blk_cell B3.out 1).trans rfl, (blk_cell B3.out 2).trans rfl, (blk_cell B3.out 3).trans rfl⟩ (fun hHeld => ?_)
      clear hK K
      refine norm_ (a' := ?_) ?_ ?_
      rotate_left
      · show Act.put _ (some 50) _ = _
        simp only [Act.put, lA_, lZ_, lS_, i64_w, i32_w]
        rfl
      refine two_ (i := 12) (j := 33) (Ni := some 20) (Nj := some 41) #[true, true, true, true, true, true, true, true, true, true, true, true, true, true, true, true, true, true, true, true, true, true, true, true, true, true, true, true, true, true, true, true, true, false, true, true, true, true, true, true, true, true, true, false, false] #[true, true, true, true, true, true, true, true, true, true, true, true, false, true, true, true, true, true, true, true, true, true, true, true, true, true, true, true, true, true, true, true, true, true, true, true, true, true, true, true, true, true, true, false, false] rfl rfl rfl rfl (by kernel_rfl) (by decide) (by decide) (fun K hK => ?_) (fun K hK => ?_)
      · skip
        refine Kd.R_lit_step (Kd.int .i64) _ 2 ?hg (N := 20) ?hd (xs := ([x5, x7, x9] : List Int)) (inner := [.int .i64 x5, .int .i64 x7, .int .i64 x9]) (ok := fun _ => True) (okp := fun _ => True) ?hr ?hp (fun _ hk => hk) trivial (Below.refl _ _) (Nat.le_refl _) (by simp) ?_; (case hd => rfl); (case hg => rfl); (case hr => first | (go_simp; done) | (go_simp; rfl)); (case hp => exact repsG_ _)
        intro v20 wE20 ho hb hg_ hnew_
        clear hg_ hnew_
        have R20 := Aside0.mk (Kd.R_lower ho (below_size HB.out))
        have n9_ := Aside0.mk (Kd.R_below R50.out hb)
        clear R50
        have R50 := n9_
        clear n9_
        have n0_ := Aside0.mk (bB_ BG.out hb)
        have n1_ := Aside0.mk (bB_ B2.out hb)
        have n2_ := Aside0.mk (bB_ B3.out hb)
        have n3_ := Aside0.mk (lP_ HB.out hb)
        clear BG B2 B3 HB ho hb
        have BG := n0_
        have B2 := n1_
        have B3 := n2_
        have HB := n3_
        clear n0_ n1_ n2_ n3_
        refine hK.out _ _ ⟨(blk_cell BG.out 5).trans rfl, (blk_cell BG.out 7).trans rfl, (blk_cell BG.out 9).trans rfl, (blk_cell BG.out 6).trans rfl, (blk_cell BG.out 8).trans rfl, (blk_cell BG.out 10).trans rfl, (blk_cell BG.out 15).trans rfl, (blk_cell BG.out 16).trans rfl, (blk_cell B3.out 0).trans rfl, (blk_cell B3.out 1).trans rfl, (blk_cell B3.out 2).trans rfl, (blk_cell B3.out 3).trans rfl⟩ (fun hHeld => ?_)
        clear hK K
        refine norm_ (a' := ?_) ?_ ?_
        rotate_left
        · show Act.put _ (some 20) _ = _
          simp only [Act.put, lA_, lZ_, lS_, i64_w, i32_w]
          rfl
        refine one_ (i := 33) (N := some 41) #[true, true, true, true, true, true, true, true, true, true, true, true, true, true, true, true, true, true, true, true, true, true, true, true, true, true, true, true, true, true, true, true, true, true, true, true, true, true, true, true, true, true, true, false, false] rfl rfl (by kernel_rfl) (by decide) (fun K hK => ?_)
        refine Kd.R_lit_step (Kd.int .i64) _ 2 ?hg (N := 41) ?hd (xs := ([x6, x8, x10, x11, x12, x13, x14] : List Int)) (inner := [.int .i64 x6, .int .i64 x8, .int .i64 x10, .int .i64 x11, .int .i64 x12, .int .i64 x13, .int .i64 x14]) (ok := fun _ => True) (okp := fun _ => True) ?hr ?hp (fun _ hk => hk) trivial (Below.refl _ _) (Nat.le_refl _) (by simp) ?_; (case hd => rfl); (case hg => rfl); (case hr => first | (go_simp; done) | (go_simp; rfl)); (case hp => exact repsG_ _)
        intro v41 wE41 ho hb hg_ hnew_
        clear hg_ hnew_
        have R41 := Aside0.mk (Kd.R_lower ho (below_size HB.out))
        have n9_ := Aside0.mk (Kd.R_below R50.out hb)
        clear R50
        have R50 := n9_
        clear n9_
        have n9_ := Aside0.mk (Kd.R_below R20.out hb)
        clear R20
        have R20 := n9_
        clear n9_
        have n0_ := Aside0.mk (bB_ BG.out hb)
        have n1_ := Aside0.mk (bB_ B2.out hb)
        have n2_ := Aside0.mk (bB_ B3.out hb)
        have n3_ := Aside0.mk (lP_ HB.out hb)
        clear BG B2 B3 HB ho hb
        have BG := n0_
        have B2 := n1_
        have B3 := n2_
        have HB := n3_
        clear n0_ n1_ n2_ n3_
        refine hK.out _ _ ⟨(blk_cell BG.out 5).trans rfl, (blk_cell BG.out 7).trans rfl, (blk_cell BG.out 9).trans rfl, (blk_cell BG.out 6).trans rfl, (blk_cell BG.out 8).trans rfl, (blk_cell BG.out 10).trans rfl, (blk_cell BG.out 15).trans rfl, (blk_cell BG.out 16).trans rfl, (blk_cell B3.out 0).trans rfl, (blk_cell B3.out 1).trans rfl, (blk_cell B3.out 2).trans rfl, (blk_cell B3.out 3).trans rfl⟩ (fun hHeld => ?_)
        clear hK K
        refine norm_ (a' := ?_) ?_ ?_
        rotate_left
        · show Act.put _ (some 41) _ = _
          simp only [Act.put, lA_, lZ_, lS_, i64_w, i32_w]
          rfl
        exact norm_ (by simp only [putAll, Act.put, lA_, lZ_, lS_]) (hCont (v20, v41, v50) _ ⟨hHeld, R20.out, R41.out, R50.out, B2.out, HB.out⟩)
      · skip
        refine Kd.R_lit_step (Kd.int .i64) _ 2 ?hg (N := 41) ?hd (xs := ([x6, x8, x10, x11, x12, x13, x14] : List Int)) (inner := [.int .i64 x6, .int .i64 x8, .int .i64 x10, .int .i64 x11, .int .i64 x12, .int .i64 x13, .int .i64 x14]) (ok := fun _ => True) (okp := fun _ => True) ?hr ?hp (fun _ hk => hk) trivial (Below.refl _ _) (Nat.le_refl _) (by simp) ?_; (case hd => rfl); (case hg => rfl); (case hr => first | (go_simp; done) | (go_simp; rfl)); (case hp => exact repsG_ _)
        intro v41 wE41 ho hb hg_ hnew_
        clear hg_ hnew_
        have R41 := Aside0.mk (Kd.R_lower ho (below_size HB.out))
        have n9_ := Aside0.mk (Kd.R_below R50.out hb)
        clear R50
        have R50 := n9_
        clear n9_
        have n0_ := Aside0.mk (bB_ BG.out hb)
        have n1_ := Aside0.mk (bB_ B2.out hb)
        have n2_ := Aside0.mk (bB_ B3.out hb)
        have n3_ := Aside0.mk (lP_ HB.out hb)
        clear BG B2 B3 HB ho hb
        have BG := n0_
        have B2 := n1_
        have B3 := n2_
        have HB := n3_
        clear n0_ n1_ n2_ n3_
        refine hK.out _ _ ⟨(blk_cell BG.out 5).trans rfl, (blk_cell BG.out 7).trans rfl, (blk_cell BG.out 9).trans rfl, (blk_cell BG.out 6).trans rfl, (blk_cell BG.out 8).trans rfl, (blk_cell BG.out 10).trans rfl, (blk_cell BG.out 15).trans rfl, (blk_cell BG.out 16).trans rfl, (blk_cell B3.out 0).trans rfl, (blk_cell B3.out 1).trans rfl, (blk_cell B3.out 2).trans rfl, (blk_cell B3.out 3).trans rfl⟩ (fun hHeld => ?_)
        clear hK K
        refine norm_ (a' := ?_) ?_ ?_
        rotate_left
        · show Act.put _ (some 41) _ = _
          simp only [Act.put, lA_, lZ_, lS_, i64_w, i32_w]
          rfl
        refine one_ (i := 12) (N := some 20) #[true, true, true, true, true, true, true, true, true, true, true, true, true, true, true, true, true, true, true, true, true, true, true, true, true, true, true, true, true, true, true, true, true, true, true, true, true, true, true, true, true, true, true, false, false] rfl rfl (by kernel_rfl) (by decide) (fun K hK => ?_)
        refine Kd.R_lit_step (Kd.int .i64) _ 2 ?hg (N := 20) ?hd (xs := ([x5, x7, x9] : List Int)) (inner := [.int .i64 x5, .int .i64 x7, .int .i64 x9]) (ok := fun _ => True) (okp := fun _ => True) ?hr ?hp (fun _ hk => hk) trivial (Below.refl _ _) (Nat.le_refl _) (by simp) ?_; (case hd => rfl); (case hg => rfl); (case hr => first | (go_simp; done) | (go_simp; rfl)); (case hp => exact repsG_ _)
        intro v20 wE20 ho hb hg_ hnew_
        clear hg_ hnew_
        have R20 := Aside0.mk (Kd.R_lower ho (below_size HB.out))
        have n9_ := Aside0.mk (Kd.R_below R50.out hb)
        clear R50
        have R50 := n9_
        clear n9_
        have n9_ := Aside0.mk (Kd.R_below R41.out hb)
        clear R41
        have R41 := n9_
        clear n9_
        have n0_ := Aside0.mk (bB_ BG.out hb)
        have n1_ := Aside0.mk (bB_ B2.out hb)
        have n2_ := Aside0.mk (bB_ B3.out hb)
        have n3_ := Aside0.mk (lP_ HB.out hb)
        clear BG B2 B3 HB ho hb
        have BG := n0_
        have B2 := n1_
        have B3 := n2_
        have HB := n3_
        clear n0_ n1_ n2_ n3_
        refine hK.out _ _ ⟨(blk_cell BG.out 5).trans rfl, (blk_cell BG.out 7).trans rfl, (blk_cell BG.out 9).trans rfl, (blk_cell BG.out 6).trans rfl, (blk_cell BG.out 8).trans rfl, (blk_cell BG.out 10).trans rfl, (blk_cell BG.out 15).trans rfl, (blk_cell BG.out 16).trans rfl, (blk_cell B3.out 0).trans rfl, (blk_cell B3.out 1).trans rfl, (blk_cell B3.out 2).trans rfl, (blk_cell B3.out 3).trans rfl⟩ (fun hHeld => ?_)
        clear hK K
        refine norm_ (a' := ?_) ?_ ?_
        rotate_left
        · show Act.put _ (some 20) _ = _
          simp only [Act.put, lA_, lZ_, lS_, i64_w, i32_w]
          rfl
        exact norm_ (by simp only [putAll, Act.put, lA_, lZ_, lS_]) (hCont (v20, v41, v50) _ ⟨hHeld, R20.out, R41.out, R50.out, B2.out, HB.out⟩)
  rintro ⟨v20, v41, v50⟩ wJ ⟨hHeld, r20, r41, r50, b2, hb⟩
  clear BG B2 B3 HB
  have R20 := Aside0.mk r20
  have R41 := Aside0.mk r41
  have R50 := Aside0.mk r50
  have B2 := Aside0.mk b2
  have HB := Aside0.mk hb
  clear r20 r41 r50 b2 hb
  obtain ⟨A20, c20, e20⟩ := Kd.R_slice R20.out
  subst e20
  obtain ⟨A41, c41, e41⟩ := Kd.R_slice R41.out
  subst e41
  obtain ⟨A50, c50, e50⟩ := Kd.R_slice R50.out
  subst e50
  refine norm_ (a' := ?_) ?_ ?_
  rotate_left
  · simp only [putAll, Act.put, lA_, lZ_, lS_]
    rfl
  refine pure_ (i := 43) (N := some 51) (v := ?_) (a' := ?_) #[true, true, true, true, true, true, true, true, true, true, true, true, true, true, true, true, true, true, true, true, true, true, true, true, true, true, true, true, true, true, true, true, true, true, true, true, true, true, true, true, true, true, true, true, false] rfl rfl (by kernel_rfl) (fun _ _ _ h => h) (Or.inl ⟨by rfl, ?_⟩) ?_ ?_
  rotate_left
  · intro w'
    go_simp
    first | done | (with_reducible rfl)
  rotate_left
  · simp only [Act.put, lA_, lZ_, lS_, i64_w, i32_w]
    rfl
  refine last_ (i := 44) (N := none) #[true, true, true, true, true, true, true, true, true, true, true, true, true, true, true, true, true, true, true, true, true, true, true, true, true, true, true, true, true, true, true, true, true, true, true, true, true, true, true, true, true, true, true, true, true] rfl rfl (by kernel_rfl) (by decide) (fun K hK => ?_)
  obtain ⟨_, _, _, _, _, _⟩ := bc3 B2.out
  refine skip_ (w1 := ?_) (by rfl) rfl ?_ ?_
  rotate_left
  · go_simp
    rfl
  refine hK.out _ _ ?_
  clear hK K
  refine done_ (by kernel_rfl) ?_
  try go_wp2
  refine bodyPost_ret (results_cell_row rfl _ _ g2 83 #[.slice A20 3 c20, .slice A41 7 c41, .slice A50 2 c50] (0, 0) _ rfl (by apply fill3; exact B2.out) Try.underlying83 rfl (by kernel_rfl)) rfl ?_
  refine ⟨_, _, _, rfl, ?_, ?_, ?_, lS1_ (lS1_ (lS1_ HB.out Sg2.out) Sg2.out) Sg2.out⟩
  · exact Kd.R_mono (rfar3 (g := g2) (Kd.R_types R20.out B2.out (by decide)) (fun _ hk => hk.2)) (fun _ hk => trivial)
  · exact Kd.R_mono (rfar3 (g := g2) (Kd.R_types R41.out B2.out (by decide)) (fun _ hk => hk.2)) (fun _ hk => trivial)
  · exact Kd.R_mono (rfar3 (g := g2) (Kd.R_types R50.out B2.out (by decide)) (fun _ hk => hk.2)) (fun _ hk => trivial)
def tkP (l0 : List S68) (b : Bool) (x : Int) : Bool := if b = true then notIn l0 x else x != -1
def tkAny (l0 : List S68) (st i : Int) (xs : List Int) : Bool := xs.any (tkP l0 (decide (st > i)))
def impl_TalkFault.f (k : Nat) (l0 : List S68) (x0 : Int) (x1 : Int) (x2 : Int) (x3 : Int) (x4 : Int) (x5 : Int) (x6 : Int) (x7 : Int) (x8 : Int) (x9 : Int) (x10 : Int) (x11 : Int) (x12 : Int) (x13 : Int) (x14 : Int) (x15 : Int) (x16 : Int) (x17 : Int) (x18 : Int) (x19 : Int) : Option Int :=
  if (decide (0 ≤ x0 ∧ x0 ≤ 9) && decide (1 ≤ x1 ∧ x1 ≤ 2) && decide (1 ≤ x2 ∧ x2 ≤ 3) && decide (0 ≤ x3 ∧ x3 ≤ 9999) && decide (0 ≤ x4 ∧ x4 ≤ 9999) && decide (0 ≤ x17 ∧ x17 ≤ 9999)) = true then (impl_WindowFault.f k x18 x19).bind fun c => (if c = 0 then ((impl_Talk_formOk.f k x0 x1 x2 x3 x4 x5 x6 x7 x8 x9 x10 x11 x12 x13 x14 x15 x16 x17 x18 x19).bind fun b => (if b.1 = true then (if (tkAny l0 x2 0 [x5, x7, x9] || tkAny l0 x2 1 [x6, x8, x10, x11, x12, x13, x14] || tkAny l0 x2 2 [x15, x16]) = true then some 3 else (if (rd_T68 l0 x7).f0 = 2 then (if 2 ≤ x2 then (if (rd_T68 l0 x8).f0 = 6 then some 0 else some 1) else some 0) else some 1)) else some 1)) else some c) else some 3
theorem formOk_same {k : Nat} {x0 x1 x2 x3 x4 x5 x6 x7 x8 x9 x10 x11 x12 x13 x14 x15 x16 x17 x18 x19 : Int} {b : Bool} {y0 y1 y2 y3 y4 y5 y6 y7 y8 y9 y10 y11 y12 y13 y14 y15 y16 y17 y18 y19 : Int} (h : impl_Talk_formOk.f k x0 x1 x2 x3 x4 x5 x6 x7 x8 x9 x10 x11 x12 x13 x14 x15 x16 x17 x18 x19 = some (b, y0, y1, y2, y3, y4, y5, y6, y7, y8, y9, y10, y11, y12, y13, y14, y15, y16, y17, y18, y19)) : x0 = y0 ∧ x1 = y1 ∧ x2 = y2 ∧ x3 = y3 ∧ x4 = y4 ∧ x5 = y5 ∧ x6 = y6 ∧ x7 = y7 ∧ x8 = y8 ∧ x9 = y9 ∧ x10 = y10 ∧ x11 = y11 ∧ x12 = y12 ∧ x13 = y13 ∧ x14 = y14 ∧ x15 = y15 ∧ x16 = y16 ∧ x17 = y17 ∧ x18 = y18 ∧ x19 = y19 := by
  have hj1 : ∀ (k : Nat) (a c : Bool), impl_Talk_formOk.j1 k a c x0 x1 x2 x3 x4 x5 x6 x7 x8 x9 x10 x11 x12 x13 x14 x15 x16 x17 x18 x19 = some (b, y0, y1, y2, y3, y4, y5, y6, y7, y8, y9, y10, y11, y12, y13, y14, y15, y16, y17, y18, y19) → (x0 = y0 ∧ x1 = y1 ∧ x2 = y2 ∧ x3 = y3 ∧ x4 = y4 ∧ x5 = y5 ∧ x6 = y6 ∧ x7 = y7 ∧ x8 = y8 ∧ x9 = y9 ∧ x10 = y10 ∧ x11 = y11 ∧ x12 = y12 ∧ x13 = y13 ∧ x14 = y14 ∧ x15 = y15 ∧ x16 = y16 ∧ x17 = y17 ∧ x18 = y18 ∧ x19 = y19) := by
    intro k a c h
    cases k with
    | zero => simp [impl_Talk_formOk.j1] at h
    | succ k =>
      rw [impl_Talk_formOk.j1] at h
      repeat' split at h
      all_goals first | (simp only [Option.some.injEq, Prod.mk.injEq] at h; obtain ⟨_, rfl, rfl, rfl, rfl, rfl, rfl, rfl, rfl, rfl, rfl, rfl, rfl, rfl, rfl, rfl, rfl, rfl, rfl, rfl, rfl⟩ := h; simp) | (cases h)
  have hj0 : ∀ (k : Nat) (a c : Bool), impl_Talk_formOk.j0 k a c x0 x1 x2 x3 x4 x5 x6 x7 x8 x9 x10 x11 x12 x13 x14 x15 x16 x17 x18 x19 = some (b, y0, y1, y2, y3, y4, y5, y6, y7, y8, y9, y10, y11, y12, y13, y14, y15, y16, y17, y18, y19) → (x0 = y0 ∧ x1 = y1 ∧ x2 = y2 ∧ x3 = y3 ∧ x4 = y4 ∧ x5 = y5 ∧ x6 = y6 ∧ x7 = y7 ∧ x8 = y8 ∧ x9 = y9 ∧ x10 = y10 ∧ x11 = y11 ∧ x12 = y12 ∧ x13 = y13 ∧ x14 = y14 ∧ x15 = y15 ∧ x16 = y16 ∧ x17 = y17 ∧ x18 = y18 ∧ x19 = y19) := by
    intro k a c h
    cases k with
    | zero => simp [impl_Talk_formOk.j0] at h
    | succ k =>
      rw [impl_Talk_formOk.j0] at h
      repeat' split at h
      all_goals first | exact hj1 _ _ _ h | (simp only [Option.some.injEq, Prod.mk.injEq] at h; obtain ⟨_, rfl, rfl, rfl, rfl, rfl, rfl, rfl, rfl, rfl, rfl, rfl, rfl, rfl, rfl, rfl, rfl, rfl, rfl, rfl, rfl⟩ := h; simp) | (cases h)
  unfold impl_Talk_formOk.f at h
  split at h
  · exact hj0 _ _ _ h
  · exact hj0 _ _ _ h
set_option maxHeartbeats 8000000 in
set_option maxRecDepth 100000 in
theorem impl_TalkFault.calls (k : Nat) (A0 : Option Addr) (c0 : Nat) (l0 : List S68) (x0 : Int) (x1 : Int) (x2 : Int) (x3 : Int) (x4 : Int) (x5 : Int) (x6 : Int) (x7 : Int) (x8 : Int) (x9 : Int) (x10 : Int) (x11 : Int) (x12 : Int) (x13 : Int) (x14 : Int) (x15 : Int) (x16 : Int) (x17 : Int) (x18 : Int) (x19 : Int) (r : Int) (w : World) (hr0 : Kd.C k68 w A0 l0.length l0) (hc0 : l0.length ≤ c0) (h : impl_TalkFault.f k l0 x0 x1 x2 x3 x4 x5 x6 x7 x8 x9 x10 x11 x12 x13 x14 x15 x16 x17 x18 x19 = some r) :
    Calls Try.prog 42 #[.slice A0 l0.length c0, .agg #[.int .i64 x0, .int .i64 x1, .int .i64 x2, .int .i64 x3, .int .i64 x4, .int .i64 x5, .int .i64 x6, .int .i64 x7, .int .i64 x8, .int .i64 x9, .int .i64 x10, .int .i64 x11, .int .i64 x12, .int .i64 x13, .int .i64 x14, .int .i64 x15, .int .i64 x16, .int .i64 x17, .int .i64 x18, .int .i64 x19]] w fun e w' => e = .returned (.int .i64 r) ∧ Below w.heap.size w w' := by
  have hmf : ∀ (fn : Fn) (first cap : Array Value) (w : World), (Instr.makeFunc fn first cap).run Try.prog w = .ok (.func fn first cap) w := fun _ _ _ _ => rfl
  have hu1 := Try.underlying39
  have hu2 := Try.underlying58
  have hu3 := Try.underlying68
  unfold impl_TalkFault.f at h
  have HR0 := Aside0.mk hr0
  have HN0 := Aside0.mk hr0.2.1
  have HB := Aside0.mk (Below.refl w.heap.size w)
  clear hr0
  obtain ⟨b1, hb1⟩ : ∃ b, b = decide (0 ≤ x0 ∧ x0 ≤ 9) := ⟨_, rfl⟩
  rw [← hb1] at h
  have H1 := Aside0.mk (show impl_in.f x0 0 9 = some b1 by rw [hb1]; exact impl_in_eq _ _ _)
  clear hb1
  obtain ⟨b2, hb2⟩ : ∃ b, b = decide (1 ≤ x1 ∧ x1 ≤ 2) := ⟨_, rfl⟩
  rw [← hb2] at h
  have H2 := Aside0.mk (show impl_in.f x1 1 2 = some b2 by rw [hb2]; exact impl_in_eq _ _ _)
  clear hb2
  obtain ⟨b3, hb3⟩ : ∃ b, b = decide (1 ≤ x2 ∧ x2 ≤ 3) := ⟨_, rfl⟩
  rw [← hb3] at h
  have H3 := Aside0.mk (show impl_in.f x2 1 3 = some b3 by rw [hb3]; exact impl_in_eq _ _ _)
  have HS := Aside0.mk (show b3 = true → 1 ≤ x2 ∧ x2 ≤ 3 by rw [hb3]; exact of_decide_eq_true)
  clear hb3
  obtain ⟨b4, hb4⟩ : ∃ b, b = decide (0 ≤ x3 ∧ x3 ≤ 9999) := ⟨_, rfl⟩
  rw [← hb4] at h
  have H4 := Aside0.mk (show impl_isName.f x3 = some b4 by unfold impl_isName.f; rw [impl_in_eq, hb4]; rfl)
  clear hb4
  obtain ⟨b5, hb5⟩ : ∃ b, b = decide (0 ≤ x4 ∧ x4 ≤ 9999) := ⟨_, rfl⟩
  rw [← hb5] at h
  have H5 := Aside0.mk (show impl_isName.f x4 = some b5 by unfold impl_isName.f; rw [impl_in_eq, hb5]; rfl)
  clear hb5
  obtain ⟨b6, hb6⟩ : ∃ b, b = decide (0 ≤ x17 ∧ x17 ≤ 9999) := ⟨_, rfl⟩
  rw [← hb6] at h
  have H6 := Aside0.mk (show impl_in.f x17 0 9999 = some b6 by rw [hb6]; exact impl_in_eq _ _ _)
  clear hb6
  cases b1 with
  | false =>
    rw [if_neg (by simp)] at h
    obtain rfl := Option.some.inj h
    go_enter Try.func42, Try.ntmps42
    go_wp2_with (first | ((with_reducible refine gate_dst (N := 2) rfl ?_); refine box_event ?hg (N := 2) ?hd (cs := #[.slice A0 l0.length c0]) (t := 39) ?hr ?_; (case hd => rfl); (case hg => rfl); (case hr => first | (go_simp; done) | (go_simp; rfl)); intro g2 hg wg2 hbox hb; have n2_ := Aside0.mk (lP_ HB.out hb); have n3_ := Aside0.mk hbox; have Sg2 := Aside0.mk ((by rw [hg]; exact (below_size HB.out) : w.heap.size ≤ g2)); clear HB hbox hb hg; have HB := n2_; have BK2 := n3_; have c2_ : wg2.cell? ⟨g2, 0, none⟩ = some (.slice A0 l0.length c0) := (blk_cell BK2.out 0).trans rfl; clear n2_ n3_) | ((with_reducible refine gate_dst (N := 3) rfl ?_); refine box_event ?hg (N := 3) ?hd (cs := #[.int .i64 x0, .int .i64 x1, .int .i64 x2, .int .i64 x3, .int .i64 x4, .int .i64 x5, .int .i64 x6, .int .i64 x7, .int .i64 x8, .int .i64 x9, .int .i64 x10, .int .i64 x11, .int .i64 x12, .int .i64 x13, .int .i64 x14, .int .i64 x15, .int .i64 x16, .int .i64 x17, .int .i64 x18, .int .i64 x19]) (t := 58) ?hr ?_; (case hd => rfl); (case hg => rfl); (case hr => first | (go_simp; done) | (go_simp; rfl)); intro g3 hg wg3 hbox hb; clear c2_; have n0_ := Aside0.mk (bB_ BK2.out hb); have NE := Aside0.mk ((by rw [hg]; exact Nat.ne_of_lt (blk_lt BK2.out)) : g2 ≠ g3); have n2_ := Aside0.mk (lP_ HB.out hb); have n3_ := Aside0.mk hbox; have Sg3 := Aside0.mk ((by rw [hg]; exact (below_size HB.out) : w.heap.size ≤ g3)); clear BK2; clear HB hbox hb hg; have HB := n2_; have BK2 := n0_; have BK3 := n3_; clear n0_; obtain ⟨_, _, _, _, _, _, _, _, _, _, _, _, _, _, _, _, _, _, _, _, _, _, _, _, _, _, _, _, _, _, _, _, _, _, _, _, _, _, _, _⟩ := bc20 BK3.out; clear n2_ n3_) | (go_at_call 41; (first | (with_reducible refine (impl_in.calls x0 0 9 false _ H1.out).mono ?_)); rintro e w9_ ⟨rfl, ⟨nd, rfl⟩⟩))
    go_ret
    exact ⟨rfl, (by repeat (first | exact HB.out | apply lN_ | apply lD_))⟩
  | true =>
    cases b2 with
    | false =>
      rw [if_neg (by simp)] at h
      obtain rfl := Option.some.inj h
      go_enter Try.func42, Try.ntmps42
      go_wp2_with (first | ((with_reducible refine gate_dst (N := 2) rfl ?_); refine box_event ?hg (N := 2) ?hd (cs := #[.slice A0 l0.length c0]) (t := 39) ?hr ?_; (case hd => rfl); (case hg => rfl); (case hr => first | (go_simp; done) | (go_simp; rfl)); intro g2 hg wg2 hbox hb; have n2_ := Aside0.mk (lP_ HB.out hb); have n3_ := Aside0.mk hbox; have Sg2 := Aside0.mk ((by rw [hg]; exact (below_size HB.out) : w.heap.size ≤ g2)); clear HB hbox hb hg; have HB := n2_; have BK2 := n3_; have c2_ : wg2.cell? ⟨g2, 0, none⟩ = some (.slice A0 l0.length c0) := (blk_cell BK2.out 0).trans rfl; clear n2_ n3_) | ((with_reducible refine gate_dst (N := 3) rfl ?_); refine box_event ?hg (N := 3) ?hd (cs := #[.int .i64 x0, .int .i64 x1, .int .i64 x2, .int .i64 x3, .int .i64 x4, .int .i64 x5, .int .i64 x6, .int .i64 x7, .int .i64 x8, .int .i64 x9, .int .i64 x10, .int .i64 x11, .int .i64 x12, .int .i64 x13, .int .i64 x14, .int .i64 x15, .int .i64 x16, .int .i64 x17, .int .i64 x18, .int .i64 x19]) (t := 58) ?hr ?_; (case hd => rfl); (case hg => rfl); (case hr => first | (go_simp; done) | (go_simp; rfl)); intro g3 hg wg3 hbox hb; clear c2_; have n0_ := Aside0.mk (bB_ BK2.out hb); have NE := Aside0.mk ((by rw [hg]; exact Nat.ne_of_lt (blk_lt BK2.out)) : g2 ≠ g3); have n2_ := Aside0.mk (lP_ HB.out hb); have n3_ := Aside0.mk hbox; have Sg3 := Aside0.mk ((by rw [hg]; exact (below_size HB.out) : w.heap.size ≤ g3)); clear BK2; clear HB hbox hb hg; have HB := n2_; have BK2 := n0_; have BK3 := n3_; clear n0_; obtain ⟨_, _, _, _, _, _, _, _, _, _, _, _, _, _, _, _, _, _, _, _, _, _, _, _, _, _, _, _, _, _, _, _, _, _, _, _, _, _, _, _⟩ := bc20 BK3.out; clear n2_ n3_) | (go_at_call 41; (first | (with_reducible refine (impl_in.calls x0 0 9 true _ H1.out).mono ?_) | (with_reducible refine (impl_in.calls x1 1 2 false _ H2.out).mono ?_)); rintro e w9_ ⟨rfl, ⟨nd, rfl⟩⟩))
      go_ret
      exact ⟨rfl, (by repeat (first | exact HB.out | apply lN_ | apply lD_))⟩
    | true =>
      cases b3 with
      | false =>
        rw [if_neg (by simp)] at h
        obtain rfl := Option.some.inj h
        go_enter Try.func42, Try.ntmps42
        go_wp2_with (first | ((with_reducible refine gate_dst (N := 2) rfl ?_); refine box_event ?hg (N := 2) ?hd (cs := #[.slice A0 l0.length c0]) (t := 39) ?hr ?_; (case hd => rfl); (case hg => rfl); (case hr => first | (go_simp; done) | (go_simp; rfl)); intro g2 hg wg2 hbox hb; have n2_ := Aside0.mk (lP_ HB.out hb); have n3_ := Aside0.mk hbox; have Sg2 := Aside0.mk ((by rw [hg]; exact (below_size HB.out) : w.heap.size ≤ g2)); clear HB hbox hb hg; have HB := n2_; have BK2 := n3_; have c2_ : wg2.cell? ⟨g2, 0, none⟩ = some (.slice A0 l0.length c0) := (blk_cell BK2.out 0).trans rfl; clear n2_ n3_) | ((with_reducible refine gate_dst (N := 3) rfl ?_); refine box_event ?hg (N := 3) ?hd (cs := #[.int .i64 x0, .int .i64 x1, .int .i64 x2, .int .i64 x3, .int .i64 x4, .int .i64 x5, .int .i64 x6, .int .i64 x7, .int .i64 x8, .int .i64 x9, .int .i64 x10, .int .i64 x11, .int .i64 x12, .int .i64 x13, .int .i64 x14, .int .i64 x15, .int .i64 x16, .int .i64 x17, .int .i64 x18, .int .i64 x19]) (t := 58) ?hr ?_; (case hd => rfl); (case hg => rfl); (case hr => first | (go_simp; done) | (go_simp; rfl)); intro g3 hg wg3 hbox hb; clear c2_; have n0_ := Aside0.mk (bB_ BK2.out hb); have NE := Aside0.mk ((by rw [hg]; exact Nat.ne_of_lt (blk_lt BK2.out)) : g2 ≠ g3); have n2_ := Aside0.mk (lP_ HB.out hb); have n3_ := Aside0.mk hbox; have Sg3 := Aside0.mk ((by rw [hg]; exact (below_size HB.out) : w.heap.size ≤ g3)); clear BK2; clear HB hbox hb hg; have HB := n2_; have BK2 := n0_; have BK3 := n3_; clear n0_; obtain ⟨_, _, _, _, _, _, _, _, _, _, _, _, _, _, _, _, _, _, _, _, _, _, _, _, _, _, _, _, _, _, _, _, _, _, _, _, _, _, _, _⟩ := bc20 BK3.out; clear n2_ n3_) | (go_at_call 41; (first | (with_reducible refine (impl_in.calls x0 0 9 true _ H1.out).mono ?_) | (with_reducible refine (impl_in.calls x1 1 2 true _ H2.out).mono ?_) | (with_reducible refine (impl_in.calls x2 1 3 false _ H3.out).mono ?_)); rintro e w9_ ⟨rfl, ⟨nd, rfl⟩⟩))
        go_ret
        exact ⟨rfl, (by repeat (first | exact HB.out | apply lN_ | apply lD_))⟩
      | true =>
        cases b4 with
        | false =>
          rw [if_neg (by simp)] at h
          obtain rfl := Option.some.inj h
          go_enter Try.func42, Try.ntmps42
          go_wp2_with (first | ((with_reducible refine gate_dst (N := 2) rfl ?_); refine box_event ?hg (N := 2) ?hd (cs := #[.slice A0 l0.length c0]) (t := 39) ?hr ?_; (case hd => rfl); (case hg => rfl); (case hr => first | (go_simp; done) | (go_simp; rfl)); intro g2 hg wg2 hbox hb; have n2_ := Aside0.mk (lP_ HB.out hb); have n3_ := Aside0.mk hbox; have Sg2 := Aside0.mk ((by rw [hg]; exact (below_size HB.out) : w.heap.size ≤ g2)); clear HB hbox hb hg; have HB := n2_; have BK2 := n3_; have c2_ : wg2.cell? ⟨g2, 0, none⟩ = some (.slice A0 l0.length c0) := (blk_cell BK2.out 0).trans rfl; clear n2_ n3_) | ((with_reducible refine gate_dst (N := 3) rfl ?_); refine box_event ?hg (N := 3) ?hd (cs := #[.int .i64 x0, .int .i64 x1, .int .i64 x2, .int .i64 x3, .int .i64 x4, .int .i64 x5, .int .i64 x6, .int .i64 x7, .int .i64 x8, .int .i64 x9, .int .i64 x10, .int .i64 x11, .int .i64 x12, .int .i64 x13, .int .i64 x14, .int .i64 x15, .int .i64 x16, .int .i64 x17, .int .i64 x18, .int .i64 x19]) (t := 58) ?hr ?_; (case hd => rfl); (case hg => rfl); (case hr => first | (go_simp; done) | (go_simp; rfl)); intro g3 hg wg3 hbox hb; clear c2_; have n0_ := Aside0.mk (bB_ BK2.out hb); have NE := Aside0.mk ((by rw [hg]; exact Nat.ne_of_lt (blk_lt BK2.out)) : g2 ≠ g3); have n2_ := Aside0.mk (lP_ HB.out hb); have n3_ := Aside0.mk hbox; have Sg3 := Aside0.mk ((by rw [hg]; exact (below_size HB.out) : w.heap.size ≤ g3)); clear BK2; clear HB hbox hb hg; have HB := n2_; have BK2 := n0_; have BK3 := n3_; clear n0_; obtain ⟨_, _, _, _, _, _, _, _, _, _, _, _, _, _, _, _, _, _, _, _, _, _, _, _, _, _, _, _, _, _, _, _, _, _, _, _, _, _, _, _⟩ := bc20 BK3.out; clear n2_ n3_) | (go_at_call 41; (first | (with_reducible refine (impl_in.calls x0 0 9 true _ H1.out).mono ?_) | (with_reducible refine (impl_in.calls x1 1 2 true _ H2.out).mono ?_) | (with_reducible refine (impl_in.calls x2 1 3 true _ H3.out).mono ?_)); rintro e w9_ ⟨rfl, ⟨nd, rfl⟩⟩) | (go_at_call 51; (first | (with_reducible refine (impl_isName.calls x3 false _ H4.out).mono ?_)); rintro e w9_ ⟨rfl, ⟨nd, rfl⟩⟩))
          go_ret
          exact ⟨rfl, (by repeat (first | exact HB.out | apply lN_ | apply lD_))⟩
        | true =>
          cases b5 with
          | false =>
            rw [if_neg (by simp)] at h
            obtain rfl := Option.some.inj h
            go_enter Try.func42, Try.ntmps42
            go_wp2_with (first | ((with_reducible refine gate_dst (N := 2) rfl ?_); refine box_event ?hg (N := 2) ?hd (cs := #[.slice A0 l0.length c0]) (t := 39) ?hr ?_; (case hd => rfl); (case hg => rfl); (case hr => first | (go_simp; done) | (go_simp; rfl)); intro g2 hg wg2 hbox hb; have n2_ := Aside0.mk (lP_ HB.out hb); have n3_ := Aside0.mk hbox; have Sg2 := Aside0.mk ((by rw [hg]; exact (below_size HB.out) : w.heap.size ≤ g2)); clear HB hbox hb hg; have HB := n2_; have BK2 := n3_; have c2_ : wg2.cell? ⟨g2, 0, none⟩ = some (.slice A0 l0.length c0) := (blk_cell BK2.out 0).trans rfl; clear n2_ n3_) | ((with_reducible refine gate_dst (N := 3) rfl ?_); refine box_event ?hg (N := 3) ?hd (cs := #[.int .i64 x0, .int .i64 x1, .int .i64 x2, .int .i64 x3, .int .i64 x4, .int .i64 x5, .int .i64 x6, .int .i64 x7, .int .i64 x8, .int .i64 x9, .int .i64 x10, .int .i64 x11, .int .i64 x12, .int .i64 x13, .int .i64 x14, .int .i64 x15, .int .i64 x16, .int .i64 x17, .int .i64 x18, .int .i64 x19]) (t := 58) ?hr ?_; (case hd => rfl); (case hg => rfl); (case hr => first | (go_simp; done) | (go_simp; rfl)); intro g3 hg wg3 hbox hb; clear c2_; have n0_ := Aside0.mk (bB_ BK2.out hb); have NE := Aside0.mk ((by rw [hg]; exact Nat.ne_of_lt (blk_lt BK2.out)) : g2 ≠ g3); have n2_ := Aside0.mk (lP_ HB.out hb); have n3_ := Aside0.mk hbox; have Sg3 := Aside0.mk ((by rw [hg]; exact (below_size HB.out) : w.heap.size ≤ g3)); clear BK2; clear HB hbox hb hg; have HB := n2_; have BK2 := n0_; have BK3 := n3_; clear n0_; obtain ⟨_, _, _, _, _, _, _, _, _, _, _, _, _, _, _, _, _, _, _, _, _, _, _, _, _, _, _, _, _, _, _, _, _, _, _, _, _, _, _, _⟩ := bc20 BK3.out; clear n2_ n3_) | (go_at_call 41; (first | (with_reducible refine (impl_in.calls x0 0 9 true _ H1.out).mono ?_) | (with_reducible refine (impl_in.calls x1 1 2 true _ H2.out).mono ?_) | (with_reducible refine (impl_in.calls x2 1 3 true _ H3.out).mono ?_)); rintro e w9_ ⟨rfl, ⟨nd, rfl⟩⟩) | (go_at_call 51; (first | (with_reducible refine (impl_isName.calls x3 true _ H4.out).mono ?_) | (with_reducible refine (impl_isName.calls x4 false _ H5.out).mono ?_)); rintro e w9_ ⟨rfl, ⟨nd, rfl⟩⟩))
            go_ret
            exact ⟨rfl, (by repeat (first | exact HB.out | apply lN_ | apply lD_))⟩
          | true =>
            cases b6 with
            | false =>
              rw [if_neg (by simp)] at h
              obtain rfl := Option.some.inj h
              go_enter Try.func42, Try.ntmps42
              go_wp2_with (first | ((with_reducible refine gate_dst (N := 2) rfl ?_); refine box_event ?hg (N := 2) ?hd (cs := #[.slice A0 l0.length c0]) (t := 39) ?hr ?_; (case hd => rfl); (case hg => rfl); (case hr => first | (go_simp; done) | (go_simp; rfl)); intro g2 hg wg2 hbox hb; have n2_ := Aside0.mk (lP_ HB.out hb); have n3_ := Aside0.mk hbox; have Sg2 := Aside0.mk ((by rw [hg]; exact (below_size HB.out) : w.heap.size ≤ g2)); clear HB hbox hb hg; have HB := n2_; have BK2 := n3_; have c2_ : wg2.cell? ⟨g2, 0, none⟩ = some (.slice A0 l0.length c0) := (blk_cell BK2.out 0).trans rfl; clear n2_ n3_) | ((with_reducible refine gate_dst (N := 3) rfl ?_); refine box_event ?hg (N := 3) ?hd (cs := #[.int .i64 x0, .int .i64 x1, .int .i64 x2, .int .i64 x3, .int .i64 x4, .int .i64 x5, .int .i64 x6, .int .i64 x7, .int .i64 x8, .int .i64 x9, .int .i64 x10, .int .i64 x11, .int .i64 x12, .int .i64 x13, .int .i64 x14, .int .i64 x15, .int .i64 x16, .int .i64 x17, .int .i64 x18, .int .i64 x19]) (t := 58) ?hr ?_; (case hd => rfl); (case hg => rfl); (case hr => first | (go_simp; done) | (go_simp; rfl)); intro g3 hg wg3 hbox hb; clear c2_; have n0_ := Aside0.mk (bB_ BK2.out hb); have NE := Aside0.mk ((by rw [hg]; exact Nat.ne_of_lt (blk_lt BK2.out)) : g2 ≠ g3); have n2_ := Aside0.mk (lP_ HB.out hb); have n3_ := Aside0.mk hbox; have Sg3 := Aside0.mk ((by rw [hg]; exact (below_size HB.out) : w.heap.size ≤ g3)); clear BK2; clear HB hbox hb hg; have HB := n2_; have BK2 := n0_; have BK3 := n3_; clear n0_; obtain ⟨_, _, _, _, _, _, _, _, _, _, _, _, _, _, _, _, _, _, _, _, _, _, _, _, _, _, _, _, _, _, _, _, _, _, _, _, _, _, _, _⟩ := bc20 BK3.out; clear n2_ n3_) | (go_at_call 41; (first | (with_reducible refine (impl_in.calls x0 0 9 true _ H1.out).mono ?_) | (with_reducible refine (impl_in.calls x1 1 2 true _ H2.out).mono ?_) | (with_reducible refine (impl_in.calls x2 1 3 true _ H3.out).mono ?_) | (with_reducible refine (impl_in.calls x17 0 9999 false _ H6.out).mono ?_)); rintro e w9_ ⟨rfl, ⟨nd, rfl⟩⟩) | (go_at_call 51; (first | (with_reducible refine (impl_isName.calls x3 true _ H4.out).mono ?_) | (with_reducible refine (impl_isName.calls x4 true _ H5.out).mono ?_)); rintro e w9_ ⟨rfl, ⟨nd, rfl⟩⟩))
              go_ret
              exact ⟨rfl, (by repeat (first | exact HB.out | apply lN_ | apply lD_))⟩
            | true =>
              rw [if_pos (by simp)] at h
              have HS2 := Aside0.mk (HS.out rfl)
              obtain ⟨c, hc, h⟩ := Option.bind_eq_some_iff.mp h
              have HW := Aside0.mk hc
              clear hc
              by_cases hz : c = 0
              rotate_left
              · rw [if_neg hz] at h
                obtain rfl := Option.some.inj h
                have hz0 : (c == 0) = false := by simpa using hz
                have hz1 : (c != 0) = true := by simpa using hz
                go_enter Try.func42, Try.ntmps42
                go_wp2_with (first | ((with_reducible refine gate_dst (N := 2) rfl ?_); refine box_event ?hg (N := 2) ?hd (cs := #[.slice A0 l0.length c0]) (t := 39) ?hr ?_; (case hd => rfl); (case hg => rfl); (case hr => first | (go_simp; done) | (go_simp; rfl)); intro g2 hg wg2 hbox hb; have n2_ := Aside0.mk (lP_ HB.out hb); have n3_ := Aside0.mk hbox; have Sg2 := Aside0.mk ((by rw [hg]; exact (below_size HB.out) : w.heap.size ≤ g2)); clear HB hbox hb hg; have HB := n2_; have BK2 := n3_; have c2_ : wg2.cell? ⟨g2, 0, none⟩ = some (.slice A0 l0.length c0) := (blk_cell BK2.out 0).trans rfl; clear n2_ n3_) | ((with_reducible refine gate_dst (N := 3) rfl ?_); refine box_event ?hg (N := 3) ?hd (cs := #[.int .i64 x0, .int .i64 x1, .int .i64 x2, .int .i64 x3, .int .i64 x4, .int .i64 x5, .int .i64 x6, .int .i64 x7, .int .i64 x8, .int .i64 x9, .int .i64 x10, .int .i64 x11, .int .i64 x12, .int .i64 x13, .int .i64 x14, .int .i64 x15, .int .i64 x16, .int .i64 x17, .int .i64 x18, .int .i64 x19]) (t := 58) ?hr ?_; (case hd => rfl); (case hg => rfl); (case hr => first | (go_simp; done) | (go_simp; rfl)); intro g3 hg wg3 hbox hb; clear c2_; have n0_ := Aside0.mk (bB_ BK2.out hb); have NE := Aside0.mk ((by rw [hg]; exact Nat.ne_of_lt (blk_lt BK2.out)) : g2 ≠ g3); have n2_ := Aside0.mk (lP_ HB.out hb); have n3_ := Aside0.mk hbox; have Sg3 := Aside0.mk ((by rw [hg]; exact (below_size HB.out) : w.heap.size ≤ g3)); clear BK2; clear HB hbox hb hg; have HB := n2_; have BK2 := n0_; have BK3 := n3_; clear n0_; obtain ⟨_, _, _, _, _, _, _, _, _, _, _, _, _, _, _, _, _, _, _, _, _, _, _, _, _, _, _, _, _, _, _, _, _, _, _, _, _, _, _, _⟩ := bc20 BK3.out; clear n2_ n3_) | (go_at_call 41; (first | (with_reducible refine (impl_in.calls x0 0 9 true _ H1.out).mono ?_) | (with_reducible refine (impl_in.calls x1 1 2 true _ H2.out).mono ?_) | (with_reducible refine (impl_in.calls x2 1 3 true _ H3.out).mono ?_) | (with_reducible refine (impl_in.calls x17 0 9999 true _ H6.out).mono ?_)); rintro e w9_ ⟨rfl, ⟨nd, rfl⟩⟩) | (go_at_call 51; (first | (with_reducible refine (impl_isName.calls x3 true _ H4.out).mono ?_) | (with_reducible refine (impl_isName.calls x4 true _ H5.out).mono ?_)); rintro e w9_ ⟨rfl, ⟨nd, rfl⟩⟩) | (go_at_call 52; (with_reducible refine (impl_WindowFault.calls k x18 x19 c _ HW.out).mono ?_); rintro e w4_ ⟨rfl, hb⟩; have n0_ := Aside0.mk (bB_ (by repeat (first | exact BK2.out | apply bN_ | apply bD_)) hb); have n1_ := Aside0.mk (bB_ (by repeat (first | exact BK3.out | apply bN_ | apply bD_)) hb); have n2_ := Aside0.mk (lP_ (by repeat (first | exact HB.out | apply lN_ | apply lD_)) hb); clear BK2 BK3 HB hb; have BK2 := n0_; have BK3 := n1_; have HB := n2_; clear n0_ n1_ n2_; obtain ⟨_, _, _, _, _, _, _, _, _, _, _, _, _, _, _, _, _, _, _, _, _, _, _, _, _, _, _, _, _, _, _, _, _, _, _, _, _, _, _, _⟩ := bc20 BK3.out))
                go_ret
                exact ⟨rfl, (by repeat (first | exact HB.out | apply lN_ | apply lD_))⟩
              rw [if_pos hz] at h
              subst hz
              obtain ⟨⟨fb, y0, y1, y2, y3, y4, y5, y6, y7, y8, y9, y10, y11, y12, y13, y14, y15, y16, y17, y18, y19⟩, hf, h⟩ := Option.bind_eq_some_iff.mp h
              obtain ⟨rfl, rfl, rfl, rfl, rfl, rfl, rfl, rfl, rfl, rfl, rfl, rfl, rfl, rfl, rfl, rfl, rfl, rfl, rfl, rfl⟩ := formOk_same hf
              have HF := Aside0.mk hf
              clear hf
              try dsimp only at h
              cases fb with
              | false =>
                rw [if_neg (by simp)] at h
                obtain rfl := Option.some.inj h
                go_enter Try.func42, Try.ntmps42
                go_wp2_with (first | ((with_reducible refine gate_dst (N := 2) rfl ?_); refine box_event ?hg (N := 2) ?hd (cs := #[.slice A0 l0.length c0]) (t := 39) ?hr ?_; (case hd => rfl); (case hg => rfl); (case hr => first | (go_simp; done) | (go_simp; rfl)); intro g2 hg wg2 hbox hb; have n2_ := Aside0.mk (lP_ HB.out hb); have n3_ := Aside0.mk hbox; have Sg2 := Aside0.mk ((by rw [hg]; exact (below_size HB.out) : w.heap.size ≤ g2)); clear HB hbox hb hg; have HB := n2_; have BK2 := n3_; have c2_ : wg2.cell? ⟨g2, 0, none⟩ = some (.slice A0 l0.length c0) := (blk_cell BK2.out 0).trans rfl; clear n2_ n3_) | ((with_reducible refine gate_dst (N := 3) rfl ?_); refine box_event ?hg (N := 3) ?hd (cs := #[.int .i64 x0, .int .i64 x1, .int .i64 x2, .int .i64 x3, .int .i64 x4, .int .i64 x5, .int .i64 x6, .int .i64 x7, .int .i64 x8, .int .i64 x9, .int .i64 x10, .int .i64 x11, .int .i64 x12, .int .i64 x13, .int .i64 x14, .int .i64 x15, .int .i64 x16, .int .i64 x17, .int .i64 x18, .int .i64 x19]) (t := 58) ?hr ?_; (case hd => rfl); (case hg => rfl); (case hr => first | (go_simp; done) | (go_simp; rfl)); intro g3 hg wg3 hbox hb; clear c2_; have n0_ := Aside0.mk (bB_ BK2.out hb); have NE := Aside0.mk ((by rw [hg]; exact Nat.ne_of_lt (blk_lt BK2.out)) : g2 ≠ g3); have n2_ := Aside0.mk (lP_ HB.out hb); have n3_ := Aside0.mk hbox; have Sg3 := Aside0.mk ((by rw [hg]; exact (below_size HB.out) : w.heap.size ≤ g3)); clear BK2; clear HB hbox hb hg; have HB := n2_; have BK2 := n0_; have BK3 := n3_; clear n0_; obtain ⟨_, _, _, _, _, _, _, _, _, _, _, _, _, _, _, _, _, _, _, _, _, _, _, _, _, _, _, _, _, _, _, _, _, _, _, _, _, _, _, _⟩ := bc20 BK3.out; clear n2_ n3_) | (go_at_call 41; (first | (with_reducible refine (impl_in.calls x0 0 9 true _ H1.out).mono ?_) | (with_reducible refine (impl_in.calls x1 1 2 true _ H2.out).mono ?_) | (with_reducible refine (impl_in.calls x2 1 3 true _ H3.out).mono ?_) | (with_reducible refine (impl_in.calls x17 0 9999 true _ H6.out).mono ?_)); rintro e w9_ ⟨rfl, ⟨nd, rfl⟩⟩) | (go_at_call 51; (first | (with_reducible refine (impl_isName.calls x3 true _ H4.out).mono ?_) | (with_reducible refine (impl_isName.calls x4 true _ H5.out).mono ?_)); rintro e w9_ ⟨rfl, ⟨nd, rfl⟩⟩) | (go_at_call 52; (with_reducible refine (impl_WindowFault.calls k x18 x19 0 _ HW.out).mono ?_); rintro e w4_ ⟨rfl, hb⟩; have n0_ := Aside0.mk (bB_ (by repeat (first | exact BK2.out | apply bN_ | apply bD_)) hb); have n1_ := Aside0.mk (bB_ (by repeat (first | exact BK3.out | apply bN_ | apply bD_)) hb); have n2_ := Aside0.mk (lP_ (by repeat (first | exact HB.out | apply lN_ | apply lD_)) hb); clear BK2 BK3 HB hb; have BK2 := n0_; have BK3 := n1_; have HB := n2_; clear n0_ n1_ n2_; obtain ⟨_, _, _, _, _, _, _, _, _, _, _, _, _, _, _, _, _, _, _, _, _, _, _, _, _, _, _, _, _, _, _, _, _, _, _, _, _, _, _, _⟩ := bc20 BK3.out) | (go_at_call 53; (with_reducible refine (impl_Talk_formOk.calls k g3 x0 x1 x2 x3 x4 x5 x6 x7 x8 x9 x10 x11 x12 x13 x14 x15 x16 x17 x18 x19 false x0 x1 x2 x3 x4 x5 x6 x7 x8 x9 x10 x11 x12 x13 x14 x15 x16 x17 x18 x19 w _ ?hI ?hB HF.out).mono ?_); (case hI => exact ⟨(by repeat (first | exact BK3.out | apply bN_ | apply bD_)), Sg3.out⟩); (case hB => exact (by repeat (first | exact HB.out | apply lN_ | apply lD_))); rintro e w5_ ⟨rfl, hI, hB, hk⟩; have n0_ := Aside0.mk ((hk.2 g2 (blk_lt (by repeat (first | exact BK2.out | apply bN_ | apply bD_))) NE.out (by simp)).trans (by repeat (first | exact BK2.out | apply bN_ | apply bD_))); have n1_ := Aside0.mk hI.1; have n2_ := Aside0.mk hB; clear BK2 BK3 HB hI hB hk; have BK2 := n0_; have BK3 := n1_; have HB := n2_; clear n0_ n1_ n2_; obtain ⟨_, _, _, _, _, _, _, _, _, _, _, _, _, _, _, _, _, _, _, _, _, _, _, _, _, _, _, _, _, _, _, _, _, _, _, _, _, _, _, _⟩ := bc20 BK3.out))
                go_ret
                exact ⟨rfl, (by repeat (first | exact HB.out | apply lN_ | apply lD_))⟩
              | true =>
                rw [if_pos rfl] at h
                obtain ⟨q0, hq0⟩ : ∃ b, b = tkAny l0 x2 0 [x5, x7, x9] := ⟨_, rfl⟩
                obtain ⟨q1, hq1⟩ : ∃ b, b = tkAny l0 x2 1 [x6, x8, x10, x11, x12, x13, x14] := ⟨_, rfl⟩
                obtain ⟨q2, hq2⟩ : ∃ b, b = tkAny l0 x2 2 [x15, x16] := ⟨_, rfl⟩
                rw [← hq0, ← hq1, ← hq2] at h
                have HQ0 := Aside0.mk hq0.symm
                clear hq0
                have HQ1 := Aside0.mk hq1.symm
                clear hq1
                have HQ2 := Aside0.mk hq2.symm
                clear hq2
                have H := Aside0.mk h
                clear h
                go_enter Try.func42, Try.ntmps42
                go_wp2_with (first | ((with_reducible refine gate_dst (N := 2) rfl ?_); refine box_event ?hg (N := 2) ?hd (cs := #[.slice A0 l0.length c0]) (t := 39) ?hr ?_; (case hd => rfl); (case hg => rfl); (case hr => first | (go_simp; done) | (go_simp; rfl)); intro g2 hg wg2 hbox hb; have n2_ := Aside0.mk (lP_ HB.out hb); have n3_ := Aside0.mk hbox; have Sg2 := Aside0.mk ((by rw [hg]; exact (below_size HB.out) : w.heap.size ≤ g2)); clear HB hbox hb hg; have HB := n2_; have BK2 := n3_; have c2_ : wg2.cell? ⟨g2, 0, none⟩ = some (.slice A0 l0.length c0) := (blk_cell BK2.out 0).trans rfl; clear n2_ n3_) | ((with_reducible refine gate_dst (N := 3) rfl ?_); refine box_event ?hg (N := 3) ?hd (cs := #[.int .i64 x0, .int .i64 x1, .int .i64 x2, .int .i64 x3, .int .i64 x4, .int .i64 x5, .int .i64 x6, .int .i64 x7, .int .i64 x8, .int .i64 x9, .int .i64 x10, .int .i64 x11, .int .i64 x12, .int .i64 x13, .int .i64 x14, .int .i64 x15, .int .i64 x16, .int .i64 x17, .int .i64 x18, .int .i64 x19]) (t := 58) ?hr ?_; (case hd => rfl); (case hg => rfl); (case hr => first | (go_simp; done) | (go_simp; rfl)); intro g3 hg wg3 hbox hb; clear c2_; have n0_ := Aside0.mk (bB_ BK2.out hb); have NE := Aside0.mk ((by rw [hg]; exact Nat.ne_of_lt (blk_lt BK2.out)) : g2 ≠ g3); have n2_ := Aside0.mk (lP_ HB.out hb); have n3_ := Aside0.mk hbox; have Sg3 := Aside0.mk ((by rw [hg]; exact (below_size HB.out) : w.heap.size ≤ g3)); clear BK2; clear HB hbox hb hg; have HB := n2_; have BK2 := n0_; have BK3 := n3_; clear n0_; obtain ⟨_, _, _, _, _, _, _, _, _, _, _, _, _, _, _, _, _, _, _, _, _, _, _, _, _, _, _, _, _, _, _, _, _, _, _, _, _, _, _, _⟩ := bc20 BK3.out; clear n2_ n3_) | (go_at_call 41; (first | (with_reducible refine (impl_in.calls x0 0 9 true _ H1.out).mono ?_) | (with_reducible refine (impl_in.calls x1 1 2 true _ H2.out).mono ?_) | (with_reducible refine (impl_in.calls x2 1 3 true _ H3.out).mono ?_) | (with_reducible refine (impl_in.calls x17 0 9999 true _ H6.out).mono ?_)); rintro e w9_ ⟨rfl, ⟨nd, rfl⟩⟩) | (go_at_call 51; (first | (with_reducible refine (impl_isName.calls x3 true _ H4.out).mono ?_) | (with_reducible refine (impl_isName.calls x4 true _ H5.out).mono ?_)); rintro e w9_ ⟨rfl, ⟨nd, rfl⟩⟩) | (go_at_call 52; (with_reducible refine (impl_WindowFault.calls k x18 x19 0 _ HW.out).mono ?_); rintro e w4_ ⟨rfl, hb⟩; have n0_ := Aside0.mk (bB_ (by repeat (first | exact BK2.out | apply bN_ | apply bD_)) hb); have n1_ := Aside0.mk (bB_ (by repeat (first | exact BK3.out | apply bN_ | apply bD_)) hb); have n2_ := Aside0.mk (lP_ (by repeat (first | exact HB.out | apply lN_ | apply lD_)) hb); clear BK2 BK3 HB hb; have BK2 := n0_; have BK3 := n1_; have HB := n2_; clear n0_ n1_ n2_; obtain ⟨_, _, _, _, _, _, _, _, _, _, _, _, _, _, _, _, _, _, _, _, _, _, _, _, _, _, _, _, _, _, _, _, _, _, _, _, _, _, _, _⟩ := bc20 BK3.out) | (go_at_call 53; (with_reducible refine (impl_Talk_formOk.calls k g3 x0 x1 x2 x3 x4 x5 x6 x7 x8 x9 x10 x11 x12 x13 x14 x15 x16 x17 x18 x19 true x0 x1 x2 x3 x4 x5 x6 x7 x8 x9 x10 x11 x12 x13 x14 x15 x16 x17 x18 x19 w _ ?hI ?hB HF.out).mono ?_); (case hI => exact ⟨(by repeat (first | exact BK3.out | apply bN_ | apply bD_)), Sg3.out⟩); (case hB => exact (by repeat (first | exact HB.out | apply lN_ | apply lD_))); rintro e w5_ ⟨rfl, hI, hB, hk⟩; have n0_ := Aside0.mk ((hk.2 g2 (blk_lt (by repeat (first | exact BK2.out | apply bN_ | apply bD_))) NE.out (by simp)).trans (by repeat (first | exact BK2.out | apply bN_ | apply bD_))); have n1_ := Aside0.mk hI.1; have n2_ := Aside0.mk hB; clear BK2 BK3 HB hI hB hk; have BK2 := n0_; have BK3 := n1_; have HB := n2_; clear n0_ n1_ n2_; obtain ⟨_, _, _, _, _, _, _, _, _, _, _, _, _, _, _, _, _, _, _, _, _, _, _, _, _, _, _, _, _, _, _, _, _, _, _, _, _, _, _, _⟩ := bc20 BK3.out) | (go_at_call 54; (with_reducible refine (impl_Talk_places.calls g3 x0 x1 x2 x3 x4 x5 x6 x7 x8 x9 x10 x11 x12 x13 x14 x15 x16 x17 x18 x19 _ (by repeat (first | exact BK3.out | apply bN_ | apply bD_))).mono ?_); rintro e w6_ ⟨v1, v2, v3, rfl, r1, r2, r3, hb⟩; have n0_ := Aside0.mk (bB_ (by repeat (first | exact BK2.out | apply bN_ | apply bD_)) hb); have n1_ := Aside0.mk (bB_ (by repeat (first | exact BK3.out | apply bN_ | apply bD_)) hb); have n2_ := Aside0.mk (lP_ (by repeat (first | exact HB.out | apply lN_ | apply lD_)) hb); clear BK2 BK3 HB hb; have BK2 := n0_; have BK3 := n1_; have HB := n2_; clear n0_ n1_ n2_; obtain ⟨_, _, _, _, _, _, _, _, _, _, _, _, _, _, _, _, _, _, _, _, _, _, _, _, _, _, _, _, _, _, _, _, _, _, _, _, _, _, _, _⟩ := bc20 BK3.out; obtain ⟨A1, c1, e1⟩ := Kd.R_slice r1; subst e1; obtain ⟨A2, c2, e2⟩ := Kd.R_slice r2; subst e2; obtain ⟨A3, c3, e3⟩ := Kd.R_slice r3; subst e3; have C1 := Aside0.mk (Kd.R_reads' r1).2.2; have C2 := Aside0.mk (Kd.R_reads' r2).2.2; have C3 := Aside0.mk (Kd.R_reads' r3).2.2; clear r1 r2 r3))
                go_loopg [52] 3 (fun gg s52 wr => ∃ kk : Nat, kk ≤ 3 ∧ 3 - kk ≤ gg ∧ s52 = .int .i64 kk ∧ Aside0 (∀ j : Nat, j < kk → (if j = 0 then q0 else if j = 1 then q1 else q2) = false) ∧ Aside0 (Below w6_.heap.size w6_ wr))
                case atStart => exact ⟨0, by omega, by omega, rfl, ⟨fun j hj => absurd hj (by omega)⟩, ⟨Below.refl _ _⟩⟩
                case round =>
                  obtain ⟨kk, hk3, hgg, rfl, HP, HL⟩ := hrel
                  have BW2 := Aside0.mk (HL.out.block g2 (blk_lt BK2.out) |>.trans BK2.out)
                  have BW3 := Aside0.mk (HL.out.block g3 (blk_lt BK3.out) |>.trans BK3.out)
                  have HBW := Aside0.mk (lP_ HB.out HL.out)
                  obtain ⟨_, _, _, _, _, _, _, _, _, _, _, _, _, _, _, _, _, _, _, _, _, _, _, _, _, _, _, _, _, _, _, _, _, _, _, _, _, _, _, _⟩ := bc20 BW3.out
                  have c2_ : wr.cell? ⟨g2, 0, none⟩ = some (.slice A0 l0.length c0) := (blk_cell BW2.out 0).trans rfl
                  by_cases hlt : kk < 3
                  have hix0 : ∀ W : World, (Instr.index 83 (.agg #[.slice A1 3 c1, .slice A2 7 c2, .slice A3 2 c3]) (.int .i64 0)).run Try.prog W = .ok (.slice A1 3 c1) W := by intro W; first | kernel_rfl | (go_simp; rfl)
                  have hix1 : ∀ W : World, (Instr.index 83 (.agg #[.slice A1 3 c1, .slice A2 7 c2, .slice A3 2 c3]) (.int .i64 1)).run Try.prog W = .ok (.slice A2 7 c2) W := by intro W; first | kernel_rfl | (go_simp; rfl)
                  have hix2 : ∀ W : World, (Instr.index 83 (.agg #[.slice A1 3 c1, .slice A2 7 c2, .slice A3 2 c3]) (.int .i64 2)).run Try.prog W = .ok (.slice A3 2 c3) W := by intro W; first | kernel_rfl | (go_simp; rfl)
                  · obtain rfl | rfl | rfl : kk = 0 ∨ kk = 1 ∨ kk = 2 := by omega
                    · cases q0 with
                      | true =>
                        obtain rfl : 3 = r := by simpa using H.out
                        go_wp2_with (first | ((with_reducible refine gate_dst (N := 8) rfl ?_); refine box_event ?hg (N := 8) ?hd (cs := #[.bool false]) (t := 4) ?hr ?_; (case hd => rfl); (case hg => rfl); (case hr => first | (go_simp; done) | (go_simp; rfl)); intro g8 hg w8_ hbox hb; have n0_ := Aside0.mk (bB_ BW2.out hb); have n1_ := Aside0.mk (bB_ BW3.out hb); have n2_ := Aside0.mk (lP_ HL.out hb); have n3_ := Aside0.mk hbox; have S8 := Aside0.mk ((by rw [hg]; exact (below_size HL.out) : w6_.heap.size ≤ g8)); have N82 := Aside0.mk ((by rw [hg]; exact Nat.ne_of_lt (blk_lt BW2.out) : g2 ≠ g8)); have N83 := Aside0.mk ((by rw [hg]; exact Nat.ne_of_lt (blk_lt BW3.out) : g3 ≠ g8)); clear c2_ BW2 BW3 HL hbox hb hg; have BW2 := n0_; have BW3 := n1_; have HL := n2_; have B8 := n3_; clear n0_ n1_ n2_ n3_; obtain ⟨_, _, _, _, _, _, _, _, _, _, _, _, _, _, _, _, _, _, _, _, _, _, _, _, _, _, _, _, _, _, _, _, _, _, _, _, _, _, _, _⟩ := bc20 BW3.out; have c8_ : w8_.cell? ⟨g8, 0, none⟩ = some (.bool false) := (blk_cell B8.out 0).trans rfl; have z8_ := blk_frozen B8.out 0; have m82 := N82.out; have m83 := N83.out; have m28 := N82.out.symm; have m38 := N83.out.symm) | (go_at_call 55; refine (slices_ContainsFunc_int64_int64.calls 56 #[.pointer (some ⟨g8, 0, none⟩), .pointer (some ⟨g2, 0, none⟩)] (tkP l0 (decide (x2 > 0))) A1 c1 [x5, x7, x9] _ (enters_of Try.func56 (by kernel_rfl) rfl) (fun W x _ hB => (impl_TalkFault_1.calls A0 l0.length c0 g8 g2 (decide (x2 > 0)) x HN0.out W ((hB.cell (p := ⟨g8, 0, none⟩) (blk_lt (blk_put (cs' := #[.bool (decide (x2 > 0))]) B8.out 0 (.bool (decide (x2 > 0))) rfl))).trans ((blk_cell (blk_put (cs' := #[.bool (decide (x2 > 0))]) B8.out 0 (.bool (decide (x2 > 0))) rfl) 0).trans rfl)) ((hB.cell (p := ⟨g2, 0, none⟩) (blk_lt (bF_ BW2.out N82.out _))).trans ((blk_cell (bF_ BW2.out N82.out _) 0).trans rfl))).mono (fun _ _ h => ⟨h.1, below_step hB h.2⟩)) (Kd.C_below C1.out (lS1_ HL.out S8.out)) (by simp)).mono ?_; rintro e w9 ⟨he, hb⟩; rw [show ([x5, x7, x9] : List Int).any (tkP l0 (decide (x2 > 0))) = true from HQ0.out] at he; subst he; have n0_ := Aside0.mk (below_step (lS1_ HL.out S8.out) hb); clear HL hb; have HL := n0_; clear n0_))
                        go_ret
                        exact ⟨rfl, lP_ HB.out HL.out⟩
                      | false =>
                        go_wp2_with (first | ((with_reducible refine gate_dst (N := 8) rfl ?_); refine box_event ?hg (N := 8) ?hd (cs := #[.bool false]) (t := 4) ?hr ?_; (case hd => rfl); (case hg => rfl); (case hr => first | (go_simp; done) | (go_simp; rfl)); intro g8 hg w8_ hbox hb; have n0_ := Aside0.mk (bB_ BW2.out hb); have n1_ := Aside0.mk (bB_ BW3.out hb); have n2_ := Aside0.mk (lP_ HL.out hb); have n3_ := Aside0.mk hbox; have S8 := Aside0.mk ((by rw [hg]; exact (below_size HL.out) : w6_.heap.size ≤ g8)); have N82 := Aside0.mk ((by rw [hg]; exact Nat.ne_of_lt (blk_lt BW2.out) : g2 ≠ g8)); have N83 := Aside0.mk ((by rw [hg]; exact Nat.ne_of_lt (blk_lt BW3.out) : g3 ≠ g8)); clear c2_ BW2 BW3 HL hbox hb hg; have BW2 := n0_; have BW3 := n1_; have HL := n2_; have B8 := n3_; clear n0_ n1_ n2_ n3_; obtain ⟨_, _, _, _, _, _, _, _, _, _, _, _, _, _, _, _, _, _, _, _, _, _, _, _, _, _, _, _, _, _, _, _, _, _, _, _, _, _, _, _⟩ := bc20 BW3.out; have c8_ : w8_.cell? ⟨g8, 0, none⟩ = some (.bool false) := (blk_cell B8.out 0).trans rfl; have z8_ := blk_frozen B8.out 0; have m82 := N82.out; have m83 := N83.out; have m28 := N82.out.symm; have m38 := N83.out.symm) | (go_at_call 55; refine (slices_ContainsFunc_int64_int64.calls 56 #[.pointer (some ⟨g8, 0, none⟩), .pointer (some ⟨g2, 0, none⟩)] (tkP l0 (decide (x2 > 0))) A1 c1 [x5, x7, x9] _ (enters_of Try.func56 (by kernel_rfl) rfl) (fun W x _ hB => (impl_TalkFault_1.calls A0 l0.length c0 g8 g2 (decide (x2 > 0)) x HN0.out W ((hB.cell (p := ⟨g8, 0, none⟩) (blk_lt (blk_put (cs' := #[.bool (decide (x2 > 0))]) B8.out 0 (.bool (decide (x2 > 0))) rfl))).trans ((blk_cell (blk_put (cs' := #[.bool (decide (x2 > 0))]) B8.out 0 (.bool (decide (x2 > 0))) rfl) 0).trans rfl)) ((hB.cell (p := ⟨g2, 0, none⟩) (blk_lt (bF_ BW2.out N82.out _))).trans ((blk_cell (bF_ BW2.out N82.out _) 0).trans rfl))).mono (fun _ _ h => ⟨h.1, below_step hB h.2⟩)) (Kd.C_below C1.out (lS1_ HL.out S8.out)) (by simp)).mono ?_; rintro e w9 ⟨he, hb⟩; rw [show ([x5, x7, x9] : List Int).any (tkP l0 (decide (x2 > 0))) = false from HQ0.out] at he; subst he; have n0_ := Aside0.mk (below_step (lS1_ HL.out S8.out) hb); clear HL hb; have HL := n0_; clear n0_))
                        go_roundg (3 - (0 + 1))
                        case measure => omega
                        case rel =>
                          refine ⟨1, by omega, by omega, by first | rfl | simp, ⟨fun j hj => ?_⟩, ⟨HL.out⟩⟩
                          rcases (show j < 0 ∨ j = 0 by omega) with hj2 | rfl
                          · exact HP.out j hj2
                          · rfl
                    · cases q1 with
                      | true =>
                        obtain rfl : 3 = r := by simpa using H.out
                        go_wp2_with (first | ((with_reducible refine gate_dst (N := 8) rfl ?_); refine box_event ?hg (N := 8) ?hd (cs := #[.bool false]) (t := 4) ?hr ?_; (case hd => rfl); (case hg => rfl); (case hr => first | (go_simp; done) | (go_simp; rfl)); intro g8 hg w8_ hbox hb; have n0_ := Aside0.mk (bB_ BW2.out hb); have n1_ := Aside0.mk (bB_ BW3.out hb); have n2_ := Aside0.mk (lP_ HL.out hb); have n3_ := Aside0.mk hbox; have S8 := Aside0.mk ((by rw [hg]; exact (below_size HL.out) : w6_.heap.size ≤ g8)); have N82 := Aside0.mk ((by rw [hg]; exact Nat.ne_of_lt (blk_lt BW2.out) : g2 ≠ g8)); have N83 := Aside0.mk ((by rw [hg]; exact Nat.ne_of_lt (blk_lt BW3.out) : g3 ≠ g8)); clear c2_ BW2 BW3 HL hbox hb hg; have BW2 := n0_; have BW3 := n1_; have HL := n2_; have B8 := n3_; clear n0_ n1_ n2_ n3_; obtain ⟨_, _, _, _, _, _, _, _, _, _, _, _, _, _, _, _, _, _, _, _, _, _, _, _, _, _, _, _, _, _, _, _, _, _, _, _, _, _, _, _⟩ := bc20 BW3.out; have c8_ : w8_.cell? ⟨g8, 0, none⟩ = some (.bool false) := (blk_cell B8.out 0).trans rfl; have z8_ := blk_frozen B8.out 0; have m82 := N82.out; have m83 := N83.out; have m28 := N82.out.symm; have m38 := N83.out.symm) | (go_at_call 55; refine (slices_ContainsFunc_int64_int64.calls 56 #[.pointer (some ⟨g8, 0, none⟩), .pointer (some ⟨g2, 0, none⟩)] (tkP l0 (decide (x2 > 1))) A2 c2 [x6, x8, x10, x11, x12, x13, x14] _ (enters_of Try.func56 (by kernel_rfl) rfl) (fun W x _ hB => (impl_TalkFault_1.calls A0 l0.length c0 g8 g2 (decide (x2 > 1)) x HN0.out W ((hB.cell (p := ⟨g8, 0, none⟩) (blk_lt (blk_put (cs' := #[.bool (decide (x2 > 1))]) B8.out 0 (.bool (decide (x2 > 1))) rfl))).trans ((blk_cell (blk_put (cs' := #[.bool (decide (x2 > 1))]) B8.out 0 (.bool (decide (x2 > 1))) rfl) 0).trans rfl)) ((hB.cell (p := ⟨g2, 0, none⟩) (blk_lt (bF_ BW2.out N82.out _))).trans ((blk_cell (bF_ BW2.out N82.out _) 0).trans rfl))).mono (fun _ _ h => ⟨h.1, below_step hB h.2⟩)) (Kd.C_below C2.out (lS1_ HL.out S8.out)) (by simp)).mono ?_; rintro e w9 ⟨he, hb⟩; rw [show ([x6, x8, x10, x11, x12, x13, x14] : List Int).any (tkP l0 (decide (x2 > 1))) = true from HQ1.out] at he; subst he; have n0_ := Aside0.mk (below_step (lS1_ HL.out S8.out) hb); clear HL hb; have HL := n0_; clear n0_))
                        go_ret
                        exact ⟨rfl, lP_ HB.out HL.out⟩
                      | false =>
                        go_wp2_with (first | ((with_reducible refine gate_dst (N := 8) rfl ?_); refine box_event ?hg (N := 8) ?hd (cs := #[.bool false]) (t := 4) ?hr ?_; (case hd => rfl); (case hg => rfl); (case hr => first | (go_simp; done) | (go_simp; rfl)); intro g8 hg w8_ hbox hb; have n0_ := Aside0.mk (bB_ BW2.out hb); have n1_ := Aside0.mk (bB_ BW3.out hb); have n2_ := Aside0.mk (lP_ HL.out hb); have n3_ := Aside0.mk hbox; have S8 := Aside0.mk ((by rw [hg]; exact (below_size HL.out) : w6_.heap.size ≤ g8)); have N82 := Aside0.mk ((by rw [hg]; exact Nat.ne_of_lt (blk_lt BW2.out) : g2 ≠ g8)); have N83 := Aside0.mk ((by rw [hg]; exact Nat.ne_of_lt (blk_lt BW3.out) : g3 ≠ g8)); clear c2_ BW2 BW3 HL hbox hb hg; have BW2 := n0_; have BW3 := n1_; have HL := n2_; have B8 := n3_; clear n0_ n1_ n2_ n3_; obtain ⟨_, _, _, _, _, _, _, _, _, _, _, _, _, _, _, _, _, _, _, _, _, _, _, _, _, _, _, _, _, _, _, _, _, _, _, _, _, _, _, _⟩ := bc20 BW3.out; have c8_ : w8_.cell? ⟨g8, 0, none⟩ = some (.bool false) := (blk_cell B8.out 0).trans rfl; have z8_ := blk_frozen B8.out 0; have m82 := N82.out; have m83 := N83.out; have m28 := N82.out.symm; have m38 := N83.out.symm) | (go_at_call 55; refine (slices_ContainsFunc_int64_int64.calls 56 #[.pointer (some ⟨g8, 0, none⟩), .pointer (some ⟨g2, 0, none⟩)] (tkP l0 (decide (x2 > 1))) A2 c2 [x6, x8, x10, x11, x12, x13, x14] _ (enters_of Try.func56 (by kernel_rfl) rfl) (fun W x _ hB => (impl_TalkFault_1.calls A0 l0.length c0 g8 g2 (decide (x2 > 1)) x HN0.out W ((hB.cell (p := ⟨g8, 0, none⟩) (blk_lt (blk_put (cs' := #[.bool (decide (x2 > 1))]) B8.out 0 (.bool (decide (x2 > 1))) rfl))).trans ((blk_cell (blk_put (cs' := #[.bool (decide (x2 > 1))]) B8.out 0 (.bool (decide (x2 > 1))) rfl) 0).trans rfl)) ((hB.cell (p := ⟨g2, 0, none⟩) (blk_lt (bF_ BW2.out N82.out _))).trans ((blk_cell (bF_ BW2.out N82.out _) 0).trans rfl))).mono (fun _ _ h => ⟨h.1, below_step hB h.2⟩)) (Kd.C_below C2.out (lS1_ HL.out S8.out)) (by simp)).mono ?_; rintro e w9 ⟨he, hb⟩; rw [show ([x6, x8, x10, x11, x12, x13, x14] : List Int).any (tkP l0 (decide (x2 > 1))) = false from HQ1.out] at he; subst he; have n0_ := Aside0.mk (below_step (lS1_ HL.out S8.out) hb); clear HL hb; have HL := n0_; clear n0_))
                        go_roundg (3 - (1 + 1))
                        case measure => omega
                        case rel =>
                          refine ⟨2, by omega, by omega, by first | rfl | simp, ⟨fun j hj => ?_⟩, ⟨HL.out⟩⟩
                          rcases (show j < 1 ∨ j = 1 by omega) with hj2 | rfl
                          · exact HP.out j hj2
                          · rfl
                    · cases q2 with
                      | true =>
                        obtain rfl : 3 = r := by simpa using H.out
                        go_wp2_with (first | ((with_reducible refine gate_dst (N := 8) rfl ?_); refine box_event ?hg (N := 8) ?hd (cs := #[.bool false]) (t := 4) ?hr ?_; (case hd => rfl); (case hg => rfl); (case hr => first | (go_simp; done) | (go_simp; rfl)); intro g8 hg w8_ hbox hb; have n0_ := Aside0.mk (bB_ BW2.out hb); have n1_ := Aside0.mk (bB_ BW3.out hb); have n2_ := Aside0.mk (lP_ HL.out hb); have n3_ := Aside0.mk hbox; have S8 := Aside0.mk ((by rw [hg]; exact (below_size HL.out) : w6_.heap.size ≤ g8)); have N82 := Aside0.mk ((by rw [hg]; exact Nat.ne_of_lt (blk_lt BW2.out) : g2 ≠ g8)); have N83 := Aside0.mk ((by rw [hg]; exact Nat.ne_of_lt (blk_lt BW3.out) : g3 ≠ g8)); clear c2_ BW2 BW3 HL hbox hb hg; have BW2 := n0_; have BW3 := n1_; have HL := n2_; have B8 := n3_; clear n0_ n1_ n2_ n3_; obtain ⟨_, _, _, _, _, _, _, _, _, _, _, _, _, _, _, _, _, _, _, _, _, _, _, _, _, _, _, _, _, _, _, _, _, _, _, _, _, _, _, _⟩ := bc20 BW3.out; have c8_ : w8_.cell? ⟨g8, 0, none⟩ = some (.bool false) := (blk_cell B8.out 0).trans rfl; have z8_ := blk_frozen B8.out 0; have m82 := N82.out; have m83 := N83.out; have m28 := N82.out.symm; have m38 := N83.out.symm) | (go_at_call 55; refine (slices_ContainsFunc_int64_int64.calls 56 #[.pointer (some ⟨g8, 0, none⟩), .pointer (some ⟨g2, 0, none⟩)] (tkP l0 (decide (x2 > 2))) A3 c3 [x15, x16] _ (enters_of Try.func56 (by kernel_rfl) rfl) (fun W x _ hB => (impl_TalkFault_1.calls A0 l0.length c0 g8 g2 (decide (x2 > 2)) x HN0.out W ((hB.cell (p := ⟨g8, 0, none⟩) (blk_lt (blk_put (cs' := #[.bool (decide (x2 > 2))]) B8.out 0 (.bool (decide (x2 > 2))) rfl))).trans ((blk_cell (blk_put (cs' := #[.bool (decide (x2 > 2))]) B8.out 0 (.bool (decide (x2 > 2))) rfl) 0).trans rfl)) ((hB.cell (p := ⟨g2, 0, none⟩) (blk_lt (bF_ BW2.out N82.out _))).trans ((blk_cell (bF_ BW2.out N82.out _) 0).trans rfl))).mono (fun _ _ h => ⟨h.1, below_step hB h.2⟩)) (Kd.C_below C3.out (lS1_ HL.out S8.out)) (by simp)).mono ?_; rintro e w9 ⟨he, hb⟩; rw [show ([x15, x16] : List Int).any (tkP l0 (decide (x2 > 2))) = true from HQ2.out] at he; subst he; have n0_ := Aside0.mk (below_step (lS1_ HL.out S8.out) hb); clear HL hb; have HL := n0_; clear n0_))
                        go_ret
                        exact ⟨rfl, lP_ HB.out HL.out⟩
                      | false =>
                        go_wp2_with (first | ((with_reducible refine gate_dst (N := 8) rfl ?_); refine box_event ?hg (N := 8) ?hd (cs := #[.bool false]) (t := 4) ?hr ?_; (case hd => rfl); (case hg => rfl); (case hr => first | (go_simp; done) | (go_simp; rfl)); intro g8 hg w8_ hbox hb; have n0_ := Aside0.mk (bB_ BW2.out hb); have n1_ := Aside0.mk (bB_ BW3.out hb); have n2_ := Aside0.mk (lP_ HL.out hb); have n3_ := Aside0.mk hbox; have S8 := Aside0.mk ((by rw [hg]; exact (below_size HL.out) : w6_.heap.size ≤ g8)); have N82 := Aside0.mk ((by rw [hg]; exact Nat.ne_of_lt (blk_lt BW2.out) : g2 ≠ g8)); have N83 := Aside0.mk ((by rw [hg]; exact Nat.ne_of_lt (blk_lt BW3.out) : g3 ≠ g8)); clear c2_ BW2 BW3 HL hbox hb hg; have BW2 := n0_; have BW3 := n1_; have HL := n2_; have B8 := n3_; clear n0_ n1_ n2_ n3_; obtain ⟨_, _, _, _, _, _, _, _, _, _, _, _, _, _, _, _, _, _, _, _, _, _, _, _, _, _, _, _, _, _, _, _, _, _, _, _, _, _, _, _⟩ := bc20 BW3.out; have c8_ : w8_.cell? ⟨g8, 0, none⟩ = some (.bool false) := (blk_cell B8.out 0).trans rfl; have z8_ := blk_frozen B8.out 0; have m82 := N82.out; have m83 := N83.out; have m28 := N82.out.symm; have m38 := N83.out.symm) | (go_at_call 55; refine (slices_ContainsFunc_int64_int64.calls 56 #[.pointer (some ⟨g8, 0, none⟩), .pointer (some ⟨g2, 0, none⟩)] (tkP l0 (decide (x2 > 2))) A3 c3 [x15, x16] _ (enters_of Try.func56 (by kernel_rfl) rfl) (fun W x _ hB => (impl_TalkFault_1.calls A0 l0.length c0 g8 g2 (decide (x2 > 2)) x HN0.out W ((hB.cell (p := ⟨g8, 0, none⟩) (blk_lt (blk_put (cs' := #[.bool (decide (x2 > 2))]) B8.out 0 (.bool (decide (x2 > 2))) rfl))).trans ((blk_cell (blk_put (cs' := #[.bool (decide (x2 > 2))]) B8.out 0 (.bool (decide (x2 > 2))) rfl) 0).trans rfl)) ((hB.cell (p := ⟨g2, 0, none⟩) (blk_lt (bF_ BW2.out N82.out _))).trans ((blk_cell (bF_ BW2.out N82.out _) 0).trans rfl))).mono (fun _ _ h => ⟨h.1, below_step hB h.2⟩)) (Kd.C_below C3.out (lS1_ HL.out S8.out)) (by simp)).mono ?_; rintro e w9 ⟨he, hb⟩; rw [show ([x15, x16] : List Int).any (tkP l0 (decide (x2 > 2))) = false from HQ2.out] at he; subst he; have n0_ := Aside0.mk (below_step (lS1_ HL.out S8.out) hb); clear HL hb; have HL := n0_; clear n0_))
                        go_roundg (3 - (2 + 1))
                        case measure => omega
                        case rel =>
                          refine ⟨3, by omega, by omega, by first | rfl | simp, ⟨fun j hj => ?_⟩, ⟨HL.out⟩⟩
                          rcases (show j < 2 ∨ j = 2 by omega) with hj2 | rfl
                          · exact HP.out j hj2
                          · rfl
                  · obtain rfl : kk = 3 := by omega
                    obtain rfl : q0 = false := HP.out 0 (by omega)
                    obtain rfl : q1 = false := HP.out 1 (by omega)
                    obtain rfl : q2 = false := HP.out 2 (by omega)
                    have h := H.out
                    clear H
                    rw [if_neg (by decide)] at h
                    have hpx7 : 0 ≤ x7 ∧ x7 < (l0.length : Int) := by
                      have h1 := HQ0.out
                      have h2 := HS2.out
                      unfold tkAny at h1
                      rw [decide_eq_true (show x2 > 0 by omega)] at h1
                      simp only [List.any_cons, List.any_nil, tkP, notIn, if_true, Bool.or_eq_false_iff, Bool.not_eq_false', decide_eq_true_eq] at h1
                      omega
                    obtain ⟨ad7, e7, a70, a71, a72, a73⟩ := at_T68 HR0.out x7 hpx7.1 hpx7.2
                    cases e7
                    replace a70 := (HBW.out.cell (World.block_lt_of_cell? w _ a70)).trans a70
                    replace a71 := (HBW.out.cell (World.block_lt_of_cell? w _ a71)).trans a71
                    replace a72 := (HBW.out.cell (World.block_lt_of_cell? w _ a72)).trans a72
                    replace a73 := (HBW.out.cell (World.block_lt_of_cell? w _ a73)).trans a73
                    have p7 := eq_true hpx7.1
                    have r7 := eq_true hpx7.2
                    have s2 := HS2.out
                    by_cases f7 : (rd_T68 l0 x7).f0 = 2
                    rotate_left
                    · rw [if_neg f7] at h
                      have u1 : ((rd_T68 l0 x7).f0 == 2) = false := by simpa using f7
                      have u2 : ((rd_T68 l0 x7).f0 != 2) = true := by simpa using f7
                      obtain rfl := Option.some.inj h
                      go_wp2
                      go_ret
                      exact ⟨rfl, HBW.out⟩
                    rw [if_pos f7] at h
                    have u1 : ((rd_T68 l0 x7).f0 == 2) = true := by simpa using f7
                    have u2 : ((rd_T68 l0 x7).f0 != 2) = false := by simpa using f7
                    by_cases g2_ : 2 ≤ x2
                    rotate_left
                    · rw [if_neg g2_] at h
                      have u3 : decide (2 ≤ x2) = false := decide_eq_false g2_
                      have u4 : decide (x2 ≥ 2) = false := decide_eq_false g2_
                      have u5 := eq_false g2_
                      obtain rfl := Option.some.inj h
                      go_wp2
                      go_ret
                      exact ⟨rfl, HBW.out⟩
                    rw [if_pos g2_] at h
                    have u3 : decide (2 ≤ x2) = true := decide_eq_true g2_
                    have u4 : decide (x2 ≥ 2) = true := decide_eq_true g2_
                    have u5 := eq_true g2_
                    have hpx8 : 0 ≤ x8 ∧ x8 < (l0.length : Int) := by
                      have h1 := HQ1.out
                      have h2 := HS2.out
                      unfold tkAny at h1
                      rw [decide_eq_true (show x2 > 1 by omega)] at h1
                      simp only [List.any_cons, List.any_nil, tkP, notIn, if_true, Bool.or_eq_false_iff, Bool.not_eq_false', decide_eq_true_eq] at h1
                      omega
                    obtain ⟨ad8, e8, a80, a81, a82, a83⟩ := at_T68 HR0.out x8 hpx8.1 hpx8.2
                    cases e8
                    replace a80 := (HBW.out.cell (World.block_lt_of_cell? w _ a80)).trans a80
                    replace a81 := (HBW.out.cell (World.block_lt_of_cell? w _ a81)).trans a81
                    replace a82 := (HBW.out.cell (World.block_lt_of_cell? w _ a82)).trans a82
                    replace a83 := (HBW.out.cell (World.block_lt_of_cell? w _ a83)).trans a83
                    have p8 := eq_true hpx8.1
                    have r8 := eq_true hpx8.2
                    by_cases f8 : (rd_T68 l0 x8).f0 = 6
                    · rw [if_pos f8] at h
                      have u6 : ((rd_T68 l0 x8).f0 == 6) = true := by simpa using f8
                      have u7 : ((rd_T68 l0 x8).f0 != 6) = false := by simpa using f8
                      obtain rfl := Option.some.inj h
                      go_wp2
                      go_ret
                      exact ⟨rfl, HBW.out⟩
                    · rw [if_neg f8] at h
                      have u6 : ((rd_T68 l0 x8).f0 == 6) = false := by simpa using f8
                      have u7 : ((rd_T68 l0 x8).f0 != 6) = true := by simpa using f8
                      obtain rfl := Option.some.inj h
                      go_wp2
                      go_ret
                      exact ⟨rfl, HBW.out⟩
end
end Go.Proofs.Ytaniedjfkiklmaa.G
namespace Go.Proofs.Ytaniedjfkiklmaa.G
open Go.RowKit Go.Proofs.YtaniedjfkiklmaaW.PrintWords Go.Proofs.YtaniedjfkiklmaaW.PrintLast Go.Proofs.YtaniedjfkiklmaaW.PrintMore
attribute [local go_sem] max2_int min2_int max_two min_two max_three min_three max_four min_four   -- for this text's walks alone
set_option linter.unusedVariables false
set_option linter.unusedSimpArgs false
mutual
def impl_GateFault.j0 : Nat → List (S68) → Bool → Int → Int → List (S58) → Option (Int)
 | 0, _, _, _, _, _ => none
 | k + 1, x0, x14, x484000, x484001, x484002 => if x14 = true then (some 3) else (if (x484002.length : Int) > 12 then (some 2) else (impl_GateFault.l0 k x0 x484002 (x484002.length : Int) 0))
def impl_GateFault.l0 : Nat → List (S68) → List (S58) → Int → Int → Option (Int)
 | 0, _, _, _, _ => none
 | k + 1, x0, x31, x32, x33 => if x33 < x32 then (if 0 ≤ x33 then (if x33 < (x31.length : Int) then ((impl_TalkFault.f k x0 ((rd_T58 x31 x33).f0) ((rd_T58 x31 x33).f1) ((rd_T58 x31 x33).f2) ((rd_T58 x31 x33).f3) ((rd_T58 x31 x33).f4) ((rd_T58 x31 x33).f5) ((rd_T58 x31 x33).f6) ((rd_T58 x31 x33).f7) ((rd_T58 x31 x33).f8) ((rd_T58 x31 x33).f9) ((rd_T58 x31 x33).f10) ((rd_T58 x31 x33).f11.f0) ((rd_T58 x31 x33).f11.f1) ((rd_T58 x31 x33).f11.f2) ((rd_T58 x31 x33).f11.f3) ((rd_T58 x31 x33).f12) ((rd_T58 x31 x33).f13) ((rd_T58 x31 x33).f14) ((rd_T58 x31 x33).f15.f0) ((rd_T58 x31 x33).f15.f1)).bind fun t489 => (if t489 = 0 then (impl_GateFault.l0 k x0 x31 x32 (wrap64 (x33 + 1))) else (some t489))) else (none)) else (none)) else (some 0)
end
def impl_GateFault.f (k : Nat) (l0 : List (S68)) (a1_0 : Int) (a1_1 : Int) (l1_2 : List (S58)) : Option (Int) := (impl_TermsFault.f l0).bind fun t484 => (if t484 = 0 then ((impl_isId.f a1_0).bind fun t485 => (if t485 = true then ((impl_in.f a1_1 0 90).bind fun t486 => (impl_GateFault.j0 k l0 (!t486) a1_0 a1_1 l1_2)) else (impl_GateFault.j0 k l0 true a1_0 a1_1 l1_2))) else (some t484))
set_option maxHeartbeats 8000000 in
set_option maxRecDepth 100000 in
theorem impl_GateFault.calls (k : Nat) (A0 : Option Addr) (c0 : Nat) (l0 : List (S68)) (a1_0 : Int) (a1_1 : Int) (A1_2 : Option Addr) (c1_2 : Nat) (l1_2 : List (S58)) (r : Int) (w : World) (hr0 : Kd.C k68 w A0 l0.length l0) (hc0 : l0.length ≤ c0) (hr1_2 : Kd.C k58 w A1_2 l1_2.length l1_2) (hc1_2 : l1_2.length ≤ c1_2) (h : impl_GateFault.f k l0 a1_0 a1_1 l1_2 = some r) :
  Calls Try.prog 23 #[.slice A0 l0.length c0, .agg #[.int .i64 a1_0, .int .i64 a1_1, .slice A1_2 l1_2.length c1_2]] w fun e w' => e = .returned (.int .i64 r) ∧ Below w.heap.size w w' := by
 have hu32 := Try.underlying32
 have hu58 := Try.underlying58
 have a8 := Aside0.mk hr0
 have a9 := Aside0.mk hc0
 clear hr0 hc0
 have HR1_2 := Aside0.mk hr1_2
 have HC1_2 := Aside0.mk hc1_2
 clear hr1_2 hc1_2
 have HB := Aside0.mk (Below.refl w.heap.size w)
 have H : ((impl_TermsFault.f l0).bind fun t484 => (if t484 = 0 then ((impl_isId.f a1_0).bind fun t485 => (if t485 = true then ((impl_in.f a1_1 0 90).bind fun t486 => (impl_GateFault.j0 k l0 (!t486) a1_0 a1_1 l1_2)) else (impl_GateFault.j0 k l0 true a1_0 a1_1 l1_2))) else (some t484))) = some r := h
 clear h
 replace H := Option.bind_eq_some_iff.mp H
 obtain ⟨t484, ad, H⟩ := H
 try dsimp only at H
 have A3 := Aside0.mk ad
 clear ad
 by_cases c4 : t484 = 0
 ·rw [if_pos c4] at H
  have c4b0 : (t484 == 0) = true := beq_iff_eq.mpr c4
  have c4b1 : (t484 != 0) = false := bne_eq_false_iff_eq.mpr c4
  clear c4
  have aa := Aside0.mk H
  clear H
  go_enter Try.func23, Try.ntmps23
  go_upto_region 4 with (first | ((with_reducible refine gate_dst (N := 3) rfl ?_); refine box_event ?hg (N := 3) ?hd (cs := #[.int .i64 a1_0, .int .i64 a1_1, .slice A1_2 l1_2.length c1_2]) (t := 32) ?hr ?_; (case hd => rfl); (case hg => rfl); (case hr => first | (go_simp; done) | (go_simp; rfl)); intro a2 hg w6 hbox hb; have n0_ := Aside0.mk (lP_ (by repeat (first | (with_reducible first | exact HB.out | apply lA1_ | apply lN_ | apply lD_) | exact HB.out)) hb); have n1_ := Aside0.mk (hbox); have n2_ := Aside0.mk ((by rw [hg]; exact (below_size (by repeat (first | (with_reducible first | exact HB.out | apply lA1_ | apply lN_ | apply lD_) | exact HB.out))) : w.heap.size ≤ a2)); have n3_ := Aside0.mk ((by rw [hg]; exact (below_size (by repeat (first | (with_reducible first | exact HB.out | apply lA1_ | apply lN_ | apply lD_) | exact HB.out))) : w.heap.size ≤ a2)); clear HB; have HB := n0_; have a0 := n1_; have ah := n2_; have a1 := n3_; clear n0_ n1_ n2_ n3_ hb hbox hg) | ((with_reducible refine gate_callee (f := 40) rfl ?_); refine goesA_ (some 10) rfl rfl Try.func40 (by kernel_rfl) rfl #[.slice A0 l0.length c0] rfl ?_; (with_reducible refine (impl_TermsFault.calls _ _ l0 t484 _ ?side1 ?side2 A3.out).mono ?_); (case side1 => repeat (first | exact (Kd.C_below a8.out HB.out) | (with_reducible refine Kd.C_alloc ?_ _) | (with_reducible refine Kd.C_drewN ?_ _) | (with_reducible refine Kd.C_drew ?_))); (case side2 => exact a9.out); rintro e w7 ⟨rfl, hb⟩; refine ⟨_, rfl, ?_⟩; have n0_ := Aside0.mk (bB_ (g := a2) (o := .cells #[.int .i64 a1_0, .int .i64 a1_1, .slice A1_2 l1_2.length c1_2] 32 (0, 0)) (by (with_reducible repeat first | apply bN_ | apply bD_ | apply bA_); exact a0.out) hb); have n1_ := Aside0.mk (lP_ (by repeat (first | (with_reducible first | exact HB.out | apply lA1_ | apply lN_ | apply lD_ | refine lS1_ ?_ a1.out) | exact HB.out)) hb); clear a0 HB; have a0 := n0_; have HB := n1_; clear n0_ n1_; (try clear hb); (try clear hb2); (try clear hk); (try clear hi)))
  (try simp only [Act.put, lA_, lZ_, lS_])
  go_cut [14] (fun v14 wc => ∃ (kq : Nat) (x14_4 : Bool), v14 = .bool x14_4 ∧ Aside0 (impl_GateFault.j0 kq l0 x14_4 a1_0 a1_1 l1_2 = some r) ∧ Aside0 (kq ≤ k) ∧ Aside0 (wc.heap[a2]? = some (.cells #[.int .i64 a1_0, .int .i64 a1_1, (.slice A1_2 l1_2.length c1_2)] 32 (0, 0))) ∧ Aside0 (Below w.heap.size w wc))
  case first =>
   have H := aa.out
   clear aa
   replace H := Option.bind_eq_some_iff.mp H
   obtain ⟨t485, ae, H⟩ := H
   try dsimp only at H
   have A8 := Aside0.mk ae
   clear ae
   by_cases c9 : t485 = true
   ·subst c9
    rw [if_pos rfl] at H
    replace H := Option.bind_eq_some_iff.mp H
    obtain ⟨t486, ab, H⟩ := H
    try dsimp only at H
    have ag := Aside0.mk ab
    clear ab
    have H' := Aside0.mk H
    clear H
    obtain ⟨_, _, _, _, _, _⟩ := bc3 a0.out
    go_wp2_with (first | ((with_reducible refine gate_callee (f := 33) rfl ?_); refine goesA_ (some 17) rfl rfl Try.func33 (by kernel_rfl) rfl #[.int .i64 a1_0] rfl ?_; (with_reducible refine (impl_isId.calls a1_0 true _ A8.out).mono ?_); rintro e w' ⟨rfl, ⟨nd, rfl⟩⟩; refine ⟨_, rfl, ?_⟩) | (go_at_call 41; (with_reducible refine (impl_in.calls a1_1 0 90 t486 _ ag.out).mono ?_); rintro e w' ⟨rfl, ⟨nd, rfl⟩⟩))
    go_meet
    case rel => exact ⟨_, (!t486), (by first | rfl | (simp; done) | (simp [*]; done)), H', ⟨by first | omega | exact Nat.le_refl _⟩, ⟨by (with_reducible repeat first | apply bN_ | apply bD_ | apply bA_); exact a0.out⟩, ⟨by repeat (first | (with_reducible first | exact HB.out | apply lA1_ | apply lN_ | apply lD_ | refine lS1_ ?_ a1.out) | exact HB.out)⟩⟩
   ·replace c9 := Bool.eq_false_iff.mpr c9
    subst c9
    rw [if_neg (show ¬ (false = true) by decide)] at H
    have H' := Aside0.mk H
    clear H
    obtain ⟨_, _, _, _, _, _⟩ := bc3 a0.out
    go_wp2_with (first | ((with_reducible refine gate_callee (f := 33) rfl ?_); refine goesA_ (some 17) rfl rfl Try.func33 (by kernel_rfl) rfl #[.int .i64 a1_0] rfl ?_; (with_reducible refine (impl_isId.calls a1_0 false _ A8.out).mono ?_); rintro e w' ⟨rfl, ⟨nd, rfl⟩⟩; refine ⟨_, rfl, ?_⟩))
    go_meet
    case rel => exact ⟨_, (true), (by first | rfl | (simp; done) | (simp [*]; done)), H', ⟨by first | omega | exact Nat.le_refl _⟩, ⟨by (with_reducible repeat first | apply bN_ | apply bD_ | apply bA_); exact a0.out⟩, ⟨by repeat (first | (with_reducible first | exact HB.out | apply lA1_ | apply lN_ | apply lD_ | refine lS1_ ?_ a1.out) | exact HB.out)⟩⟩
  case rest =>
   clear aa
   try clear c1
   try clear c2
   try clear p2
   try clear c3
   try clear c4
   try clear c4b0
   try clear c4b1
   try clear c9
   try clear hcz11_0
   try clear hcz11_1
   try clear hcz11_2
   try clear hcz12_0
   try clear hcz12_1
   try clear hcz12_2
   try clear hfz11_0
   try clear hfz11_1
   try clear hfz11_2
   try clear hfz12_0
   try clear hfz12_1
   try clear hfz12_2
   obtain ⟨kq, x14_4, rfl, HA, HJ4, a0, HB⟩ := hcut
   cases kq with
   | zero => exact absurd HA.out (by simp [impl_GateFault.j0])
   | succ kj4 =>
    have H := HA.out
    clear HA
    simp only [impl_GateFault.j0] at H
    by_cases c13 : x14_4 = true
    ·subst c13
     rw [if_pos rfl] at H
     obtain rfl := Option.some.inj H
     go_wp2
     go_ret
     exact ⟨by first | rfl | (simp [errW_none, errW_some] <;> rfl) | (simp [*, errW_none, errW_some] <;> rfl), by repeat (first | (with_reducible first | exact HB.out | apply lA1_ | apply lN_ | apply lD_ | refine lS1_ ?_ a1.out) | exact HB.out)⟩
    ·replace c13 := Bool.eq_false_iff.mpr c13
     subst c13
     rw [if_neg (show ¬ (false = true) by decide)] at H
     by_cases c14 : (l1_2.length : Int) > 12
     ·rw [if_pos c14] at H
      have c14b0 : decide (12 < (l1_2.length : Int)) = true := decide_eq_true c14
      have c14b1 : decide (12 < l1_2.length) = true := decide_eq_true (by omega)
      clear c14
      obtain rfl := Option.some.inj H
      obtain ⟨_, _, _, _, _, _⟩ := bc3 a0.out
      go_wp2
      go_ret
      exact ⟨by first | rfl | (simp [errW_none, errW_some] <;> rfl) | (simp [*, errW_none, errW_some] <;> rfl), by repeat (first | (with_reducible first | exact HB.out | apply lA1_ | apply lN_ | apply lD_ | refine lS1_ ?_ a1.out) | exact HB.out)⟩
     ·rw [if_neg c14] at H
      have c14b0 : decide (12 < (l1_2.length : Int)) = false := decide_eq_false c14
      have c14b1 : decide (12 < l1_2.length) = false := decide_eq_false (by omega)
      clear c14
      have H' := Aside0.mk H
      clear H
      obtain ⟨_, _, _, _, _, _⟩ := bc3 a0.out
      go_wp2
      go_loopg [33] kj4 (fun kq v33 w' => ∃ (x33_2 : Int), v33 = .int .i64 x33_2 ∧ Aside0 (impl_GateFault.l0 kq l0 l1_2 (l1_2.length : Int) x33_2 = some r) ∧ Aside0 (kq ≤ kj4) ∧ Aside0 (w'.heap[a2]? = some (.cells #[.int .i64 a1_0, .int .i64 a1_1, (.slice A1_2 l1_2.length c1_2)] 32 (0, 0))) ∧ Aside0 (Below w.heap.size w w'))
      case atStart => exact ⟨(0), (by first | rfl | (simp; done) | (simp [*]; done)), H', ⟨Nat.le_refl _⟩, ⟨by (with_reducible repeat first | apply bN_ | apply bD_ | apply bA_); exact a0.out⟩, ⟨by repeat (first | (with_reducible first | exact HB.out | apply lA1_ | apply lN_ | apply lD_ | refine lS1_ ?_ a1.out) | exact HB.out)⟩⟩
      case round =>
       clear H'
       try clear c1
       try clear c2
       try clear p2
       try clear c3
       try clear c4
       try clear c4b0
       try clear c4b1
       try clear c9
       try clear c13
       try clear c14
       try clear c14b0
       try clear c14b1
       try clear hcz11_0
       try clear hcz11_1
       try clear hcz11_2
       try clear hcz12_0
       try clear hcz12_1
       try clear hcz12_2
       try clear hcz15_0
       try clear hcz15_1
       try clear hcz15_2
       try clear hcz16_0
       try clear hcz16_1
       try clear hcz16_2
       try clear hfz11_0
       try clear hfz11_1
       try clear hfz11_2
       try clear hfz12_0
       try clear hfz12_1
       try clear hfz12_2
       try clear hfz15_0
       try clear hfz15_1
       try clear hfz15_2
       try clear hfz16_0
       try clear hfz16_1
       try clear hfz16_2
       try clear p2
       obtain ⟨x33_2, rfl, HA, HK2, a0, HB⟩ := hrel
       cases gk with
       | zero => exact absurd HA.out (by simp [impl_GateFault.l0])
       | succ k2 =>
        have H := HA.out
        clear HA
        simp only [impl_GateFault.l0] at H
        by_cases c17 : x33_2 < (l1_2.length : Int)
        ·rw [if_pos c17] at H
         have c17b0 : decide (x33_2 < (l1_2.length : Int)) = true := decide_eq_true c17
         clear c17
         by_cases c18 : 0 ≤ x33_2
         ·rw [if_pos c18] at H
          have c18b0 : decide (0 ≤ x33_2) = true := decide_eq_true c18
          clear c18
          by_cases c19 : x33_2 < (l1_2.length : Int)
          ·rw [if_pos c19] at H
           have c19b0 : decide (x33_2 < (l1_2.length : Int)) = true := decide_eq_true c19
           clear c19
           replace H := Option.bind_eq_some_iff.mp H
           obtain ⟨t489, ac, H⟩ := H
           try dsimp only at H
           have af := Aside0.mk ac
           clear ac
           by_cases c21 : t489 = 0
           ·rw [if_pos c21] at H
            have c21b0 : (t489 == 0) = true := beq_iff_eq.mpr c21
            have c21b1 : (t489 != 0) = false := bne_eq_false_iff_eq.mpr c21
            clear c21
            have H' := Aside0.mk H
            clear H
            have p487 : 0 ≤ (x33_2 : Int) := of_decide_eq_true (by first | (with_reducible assumption) | assumption)
            have q487 : x33_2 < (l1_2.length : Int) := of_decide_eq_true (by first | (with_reducible assumption) | assumption)
            obtain ⟨ad487, e487, hL487⟩ := at_L58 HR1_2.out x33_2 p487 q487
            cases e487
            replace hL487 := RowAt.below (B := 0) hL487 HB.out
            replace p487 := eq_true p487
            replace q487 := eq_true q487
            go_wp2_with (first | ((with_reducible refine gate_load_ (t := 58) rfl ?_); refine load_row_ (by rfl) (by rfl) (by rfl) hL487 Try.underlying58 rfl size58_ ?_) | ((with_reducible refine gate_dst (N := 7) rfl ?_); refine box_event ?hg (N := 7) ?hd (cs := #[.int .i64 0, .int .i64 0, .int .i64 0, .int .i64 0, .int .i64 0, .int .i64 0, .int .i64 0, .int .i64 0, .int .i64 0, .int .i64 0, .int .i64 0, .int .i64 0, .int .i64 0, .int .i64 0, .int .i64 0, .int .i64 0, .int .i64 0, .int .i64 0, .int .i64 0, .int .i64 0]) (t := 58) ?hr ?_; (case hd => rfl); (case hg => rfl); (case hr => first | (go_simp; done) | (go_simp; rfl)); intro a6 hg w22 hbox hb; have n0_ := Aside0.mk (bB_ a0.out hb); have n1_ := Aside0.mk (lP_ HB.out hb); have n2_ := Aside0.mk (hbox); have n4_ := Aside0.mk ((by rw [hg]; exact (below_size HB.out) : w.heap.size ≤ a6)); have n5_ := Aside0.mk ((by rw [hg]; exact Nat.ne_of_lt (blk_lt a0.out) : a2 ≠ a6)); have n6_ := Aside0.mk n5_.out.symm; clear a0 HB; have a0 := n0_; have HB := n1_; have a7 := n2_; have a4 := n4_; have a3 := n5_; have a5 := n6_; clear n0_ n1_ n2_ n4_ n5_ n6_ hb hbox hg; have ai := a5.out; have aj := a3.out; obtain ⟨_, _, _, _, _, _, _, _, _, _, _, _, _, _, _, _, _, _, _, _, _, _, _, _, _, _, _, _, _, _, _, _, _, _, _, _, _, _, _, _⟩ := bc20 a7.out) | ((with_reducible refine gate_store (t := 58) rfl ?_); refine store_box_ (by rfl) (by rfl) (by rfl) (by rfl) (by rfl) a7.out (by rfl) size58_ (by rfl) ?_; intro w99_ hst hU; have n0_ := Aside0.mk (bU_ hU a0.out a3.out); have n1_ := Aside0.mk (lU_ hU HB.out a4.out); have n2_ := Aside0.mk hst; clear a0 HB a7 hU hst; have a0 := n0_; have HB := n1_; have a7 := n2_; clear n0_ n1_ n2_; obtain ⟨_, _, _, _, _, _, _, _, _, _, _, _, _, _, _, _, _, _, _, _, _, _, _, _, _, _, _, _, _, _, _, _, _, _, _, _, _, _, _, _⟩ := bc20 a7.out) | ((with_reducible refine gate_load_ (t := 58) rfl ?_); refine load_row_ (by rfl) (by rfl) (by rfl) (rowAt_block (t := 58) (cs := [.int .i64 (rd_T58 l1_2 x33_2).f0, .int .i64 (rd_T58 l1_2 x33_2).f1, .int .i64 (rd_T58 l1_2 x33_2).f2, .int .i64 (rd_T58 l1_2 x33_2).f3, .int .i64 (rd_T58 l1_2 x33_2).f4, .int .i64 (rd_T58 l1_2 x33_2).f5, .int .i64 (rd_T58 l1_2 x33_2).f6, .int .i64 (rd_T58 l1_2 x33_2).f7, .int .i64 (rd_T58 l1_2 x33_2).f8, .int .i64 (rd_T58 l1_2 x33_2).f9, .int .i64 (rd_T58 l1_2 x33_2).f10, .int .i64 (rd_T58 l1_2 x33_2).f11.f0, .int .i64 (rd_T58 l1_2 x33_2).f11.f1, .int .i64 (rd_T58 l1_2 x33_2).f11.f2, .int .i64 (rd_T58 l1_2 x33_2).f11.f3, .int .i64 (rd_T58 l1_2 x33_2).f12, .int .i64 (rd_T58 l1_2 x33_2).f13, .int .i64 (rd_T58 l1_2 x33_2).f14, .int .i64 (rd_T58 l1_2 x33_2).f15.f0, .int .i64 (rd_T58 l1_2 x33_2).f15.f1]) (by (with_reducible repeat first | apply bN_ | apply bD_ | apply bA_); exact a7.out)) Try.underlying58 rfl size58_ ?_) | ((with_reducible refine gate_callee (f := 42) rfl ?_); refine goesA_ (some 39) rfl rfl Try.func42 (by kernel_rfl) rfl #[.slice A0 l0.length c0, .agg #[.int .i64 ((rd_T58 l1_2 x33_2).f0), .int .i64 ((rd_T58 l1_2 x33_2).f1), .int .i64 ((rd_T58 l1_2 x33_2).f2), .int .i64 ((rd_T58 l1_2 x33_2).f3), .int .i64 ((rd_T58 l1_2 x33_2).f4), .int .i64 ((rd_T58 l1_2 x33_2).f5), .int .i64 ((rd_T58 l1_2 x33_2).f6), .int .i64 ((rd_T58 l1_2 x33_2).f7), .int .i64 ((rd_T58 l1_2 x33_2).f8), .int .i64 ((rd_T58 l1_2 x33_2).f9), .int .i64 ((rd_T58 l1_2 x33_2).f10), .int .i64 ((rd_T58 l1_2 x33_2).f11.f0), .int .i64 ((rd_T58 l1_2 x33_2).f11.f1), .int .i64 ((rd_T58 l1_2 x33_2).f11.f2), .int .i64 ((rd_T58 l1_2 x33_2).f11.f3), .int .i64 ((rd_T58 l1_2 x33_2).f12), .int .i64 ((rd_T58 l1_2 x33_2).f13), .int .i64 ((rd_T58 l1_2 x33_2).f14), .int .i64 ((rd_T58 l1_2 x33_2).f15.f0), .int .i64 ((rd_T58 l1_2 x33_2).f15.f1)]] rfl ?_; (with_reducible refine (impl_TalkFault.calls k2 _ _ l0 ((rd_T58 l1_2 x33_2).f0) ((rd_T58 l1_2 x33_2).f1) ((rd_T58 l1_2 x33_2).f2) ((rd_T58 l1_2 x33_2).f3) ((rd_T58 l1_2 x33_2).f4) ((rd_T58 l1_2 x33_2).f5) ((rd_T58 l1_2 x33_2).f6) ((rd_T58 l1_2 x33_2).f7) ((rd_T58 l1_2 x33_2).f8) ((rd_T58 l1_2 x33_2).f9) ((rd_T58 l1_2 x33_2).f10) ((rd_T58 l1_2 x33_2).f11.f0) ((rd_T58 l1_2 x33_2).f11.f1) ((rd_T58 l1_2 x33_2).f11.f2) ((rd_T58 l1_2 x33_2).f11.f3) ((rd_T58 l1_2 x33_2).f12) ((rd_T58 l1_2 x33_2).f13) ((rd_T58 l1_2 x33_2).f14) ((rd_T58 l1_2 x33_2).f15.f0) ((rd_T58 l1_2 x33_2).f15.f1) t489 _ ?side1 ?side2 af.out).mono ?_); (case side1 => exact Kd.C_below a8.out (by repeat (first | (with_reducible first | exact HB.out | refine lS1_ ?_ a1.out | refine lS1_ ?_ a4.out) | exact HB.out))); (case side2 => exact a9.out); rintro e w25 ⟨rfl, hb⟩; refine ⟨_, rfl, ?_⟩; have n0_ := Aside0.mk (bB_ (g := a2) (o := .cells #[.int .i64 a1_0, .int .i64 a1_1, .slice (some ad487) l1_2.length c1_2] 32 (0, 0)) (by exact a0.out) hb); have n2_ := Aside0.mk (lP_ (by repeat (first | (with_reducible first | exact HB.out | refine lS1_ ?_ a1.out | refine lS1_ ?_ a4.out) | exact HB.out)) hb); clear a0 HB; have a0 := n0_; have HB := n2_; clear n0_ n2_; (try clear hb); (try clear hb2); (try clear hk); (try clear hi)))
            go_roundg k2
            case measure => have := HJ4.out; have := HK2.out; omega
            case rel => exact ⟨(wrap64 (x33_2 + 1)), (by first | rfl | (simp; done) | (simp [*]; done)), H', ⟨by have := HJ4.out; have := HK2.out; omega⟩, ⟨by (with_reducible repeat first | apply bN_ | apply bD_ | apply bA_); exact a0.out⟩, ⟨by repeat (first | (with_reducible first | exact HB.out | apply lA1_ | apply lN_ | apply lD_ | refine lS1_ ?_ a1.out | refine lS1_ ?_ a4.out) | exact HB.out)⟩⟩
           ·rw [if_neg c21] at H
            have c21b0 : (t489 == 0) = false := beq_eq_false_iff_ne.mpr c21
            have c21b1 : (t489 != 0) = true := bne_iff_ne.mpr c21
            obtain rfl := Option.some.inj H
            have p487 : 0 ≤ (x33_2 : Int) := of_decide_eq_true (by first | (with_reducible assumption) | assumption)
            have q487 : x33_2 < (l1_2.length : Int) := of_decide_eq_true (by first | (with_reducible assumption) | assumption)
            obtain ⟨ad487, e487, hL487⟩ := at_L58 HR1_2.out x33_2 p487 q487
            cases e487
            replace hL487 := RowAt.below (B := 0) hL487 HB.out
            replace p487 := eq_true p487
            replace q487 := eq_true q487
            go_wp2_with (first | ((with_reducible refine gate_load_ (t := 58) rfl ?_); refine load_row_ (by rfl) (by rfl) (by rfl) hL487 Try.underlying58 rfl size58_ ?_) | ((with_reducible refine gate_dst (N := 7) rfl ?_); refine box_event ?hg (N := 7) ?hd (cs := #[.int .i64 0, .int .i64 0, .int .i64 0, .int .i64 0, .int .i64 0, .int .i64 0, .int .i64 0, .int .i64 0, .int .i64 0, .int .i64 0, .int .i64 0, .int .i64 0, .int .i64 0, .int .i64 0, .int .i64 0, .int .i64 0, .int .i64 0, .int .i64 0, .int .i64 0, .int .i64 0]) (t := 58) ?hr ?_; (case hd => rfl); (case hg => rfl); (case hr => first | (go_simp; done) | (go_simp; rfl)); intro a6 hg w26 hbox hb; have n1_ := Aside0.mk (lP_ (by repeat (first | (with_reducible first | exact HB.out | apply lA1_ | apply lN_ | apply lD_ | refine lS1_ ?_ a1.out) | exact HB.out)) hb); have n2_ := Aside0.mk (hbox); have n4_ := Aside0.mk ((by rw [hg]; exact (below_size (by repeat (first | (with_reducible first | exact HB.out | apply lA1_ | apply lN_ | apply lD_ | refine lS1_ ?_ a1.out) | exact HB.out))) : w.heap.size ≤ a6)); have n5_ := Aside0.mk ((by rw [hg]; exact Nat.ne_of_lt (blk_lt (g := a2) (o := .cells #[.int .i64 a1_0, .int .i64 a1_1, .slice (some ad487) l1_2.length c1_2] 32 (0, 0)) (by (with_reducible repeat first | apply bN_ | apply bD_ | apply bA_); exact a0.out)) : a2 ≠ a6)); have n6_ := Aside0.mk n5_.out.symm; clear HB; have HB := n1_; have a7 := n2_; have a4 := n4_; have a3 := n5_; have a5 := n6_; clear n1_ n2_ n4_ n5_ n6_ hb hbox hg; have ak := a5.out; have al := a3.out; obtain ⟨_, _, _, _, _, _, _, _, _, _, _, _, _, _, _, _, _, _, _, _, _, _, _, _, _, _, _, _, _, _, _, _, _, _, _, _, _, _, _, _⟩ := bc20 a7.out) | ((with_reducible refine gate_store (t := 58) rfl ?_); refine store_box_ (by rfl) (by rfl) (by rfl) (by rfl) (by rfl) a7.out (by rfl) size58_ (by rfl) ?_; intro w99_ hst hU; have n0_ := Aside0.mk (lU_ hU HB.out a4.out); have n1_ := Aside0.mk hst; clear HB a7 hU hst; have HB := n0_; have a7 := n1_; clear n0_ n1_; obtain ⟨_, _, _, _, _, _, _, _, _, _, _, _, _, _, _, _, _, _, _, _, _, _, _, _, _, _, _, _, _, _, _, _, _, _, _, _, _, _, _, _⟩ := bc20 a7.out) | ((with_reducible refine gate_load_ (t := 58) rfl ?_); refine load_row_ (by rfl) (by rfl) (by rfl) (rowAt_block (t := 58) (cs := [.int .i64 (rd_T58 l1_2 x33_2).f0, .int .i64 (rd_T58 l1_2 x33_2).f1, .int .i64 (rd_T58 l1_2 x33_2).f2, .int .i64 (rd_T58 l1_2 x33_2).f3, .int .i64 (rd_T58 l1_2 x33_2).f4, .int .i64 (rd_T58 l1_2 x33_2).f5, .int .i64 (rd_T58 l1_2 x33_2).f6, .int .i64 (rd_T58 l1_2 x33_2).f7, .int .i64 (rd_T58 l1_2 x33_2).f8, .int .i64 (rd_T58 l1_2 x33_2).f9, .int .i64 (rd_T58 l1_2 x33_2).f10, .int .i64 (rd_T58 l1_2 x33_2).f11.f0, .int .i64 (rd_T58 l1_2 x33_2).f11.f1, .int .i64 (rd_T58 l1_2 x33_2).f11.f2, .int .i64 (rd_T58 l1_2 x33_2).f11.f3, .int .i64 (rd_T58 l1_2 x33_2).f12, .int .i64 (rd_T58 l1_2 x33_2).f13, .int .i64 (rd_T58 l1_2 x33_2).f14, .int .i64 (rd_T58 l1_2 x33_2).f15.f0, .int .i64 (rd_T58 l1_2 x33_2).f15.f1]) (by (with_reducible repeat first | apply bN_ | apply bD_ | apply bA_); exact a7.out)) Try.underlying58 rfl size58_ ?_) | ((with_reducible refine gate_callee (f := 42) rfl ?_); refine goesA_ (some 39) rfl rfl Try.func42 (by kernel_rfl) rfl #[.slice A0 l0.length c0, .agg #[.int .i64 ((rd_T58 l1_2 x33_2).f0), .int .i64 ((rd_T58 l1_2 x33_2).f1), .int .i64 ((rd_T58 l1_2 x33_2).f2), .int .i64 ((rd_T58 l1_2 x33_2).f3), .int .i64 ((rd_T58 l1_2 x33_2).f4), .int .i64 ((rd_T58 l1_2 x33_2).f5), .int .i64 ((rd_T58 l1_2 x33_2).f6), .int .i64 ((rd_T58 l1_2 x33_2).f7), .int .i64 ((rd_T58 l1_2 x33_2).f8), .int .i64 ((rd_T58 l1_2 x33_2).f9), .int .i64 ((rd_T58 l1_2 x33_2).f10), .int .i64 ((rd_T58 l1_2 x33_2).f11.f0), .int .i64 ((rd_T58 l1_2 x33_2).f11.f1), .int .i64 ((rd_T58 l1_2 x33_2).f11.f2), .int .i64 ((rd_T58 l1_2 x33_2).f11.f3), .int .i64 ((rd_T58 l1_2 x33_2).f12), .int .i64 ((rd_T58 l1_2 x33_2).f13), .int .i64 ((rd_T58 l1_2 x33_2).f14), .int .i64 ((rd_T58 l1_2 x33_2).f15.f0), .int .i64 ((rd_T58 l1_2 x33_2).f15.f1)]] rfl ?_; (with_reducible refine (impl_TalkFault.calls k2 _ _ l0 ((rd_T58 l1_2 x33_2).f0) ((rd_T58 l1_2 x33_2).f1) ((rd_T58 l1_2 x33_2).f2) ((rd_T58 l1_2 x33_2).f3) ((rd_T58 l1_2 x33_2).f4) ((rd_T58 l1_2 x33_2).f5) ((rd_T58 l1_2 x33_2).f6) ((rd_T58 l1_2 x33_2).f7) ((rd_T58 l1_2 x33_2).f8) ((rd_T58 l1_2 x33_2).f9) ((rd_T58 l1_2 x33_2).f10) ((rd_T58 l1_2 x33_2).f11.f0) ((rd_T58 l1_2 x33_2).f11.f1) ((rd_T58 l1_2 x33_2).f11.f2) ((rd_T58 l1_2 x33_2).f11.f3) ((rd_T58 l1_2 x33_2).f12) ((rd_T58 l1_2 x33_2).f13) ((rd_T58 l1_2 x33_2).f14) ((rd_T58 l1_2 x33_2).f15.f0) ((rd_T58 l1_2 x33_2).f15.f1) t489 _ ?side1 ?side2 af.out).mono ?_); (case side1 => exact Kd.C_below a8.out (by repeat (first | (with_reducible first | exact HB.out | apply lA1_ | apply lN_ | apply lD_ | refine lS1_ ?_ a1.out | refine lS1_ ?_ a4.out) | exact HB.out))); (case side2 => exact a9.out); rintro e w29 ⟨rfl, hb⟩; refine ⟨_, rfl, ?_⟩; have n2_ := Aside0.mk (lP_ (by repeat (first | (with_reducible first | exact HB.out | apply lA1_ | apply lN_ | apply lD_ | refine lS1_ ?_ a1.out | refine lS1_ ?_ a4.out) | exact HB.out)) hb); clear HB; have HB := n2_; clear n2_; (try clear hb); (try clear hb2); (try clear hk); (try clear hi)))
            go_ret
            exact ⟨by first | rfl | (simp [errW_none, errW_some] <;> rfl) | (simp [*, errW_none, errW_some] <;> rfl), by repeat (first | (with_reducible first | exact HB.out | apply lA1_ | apply lN_ | apply lD_ | refine lS1_ ?_ a1.out | refine lS1_ ?_ a4.out) | exact HB.out)⟩
          ·rw [if_neg c19] at H
           exact absurd H (by simp)
         ·rw [if_neg c18] at H
          exact absurd H (by simp)
        ·rw [if_neg c17] at H
         have c17b0 : decide (x33_2 < (l1_2.length : Int)) = false := decide_eq_false c17
         clear c17
         obtain rfl := Option.some.inj H
         go_wp2
         go_ret
         exact ⟨by first | rfl | (simp [errW_none, errW_some] <;> rfl) | (simp [*, errW_none, errW_some] <;> rfl), by repeat (first | (with_reducible first | exact HB.out | apply lA1_ | apply lN_ | apply lD_ | refine lS1_ ?_ a1.out) | exact HB.out)⟩
 ·rw [if_neg c4] at H
  have c4b0 : (t484 == 0) = false := beq_eq_false_iff_ne.mpr c4
  have c4b1 : (t484 != 0) = true := bne_iff_ne.mpr c4
  obtain rfl := Option.some.inj H
  go_enter Try.func23, Try.ntmps23
  go_wp2_with (first | ((with_reducible refine gate_load_ (t := 58) rfl ?_); refine load_row_ (by rfl) (by rfl) (by rfl) hL487 Try.underlying58 rfl size58_ ?_) | ((with_reducible refine gate_dst (N := 3) rfl ?_); refine box_event ?hg (N := 3) ?hd (cs := #[.int .i64 a1_0, .int .i64 a1_1, .slice A1_2 l1_2.length c1_2]) (t := 32) ?hr ?_; (case hd => rfl); (case hg => rfl); (case hr => first | (go_simp; done) | (go_simp; rfl)); intro a2 hg w30 hbox hb; have n0_ := Aside0.mk (lP_ (by repeat (first | (with_reducible first | exact HB.out | apply lA1_ | apply lN_ | apply lD_) | exact HB.out)) hb); have n3_ := Aside0.mk ((by rw [hg]; exact (below_size (by repeat (first | (with_reducible first | exact HB.out | apply lA1_ | apply lN_ | apply lD_) | exact HB.out))) : w.heap.size ≤ a2)); clear HB; have HB := n0_; have a1 := n3_; clear n0_ n3_ hb hbox hg) | ((with_reducible refine gate_callee (f := 40) rfl ?_); refine goesA_ (some 10) rfl rfl Try.func40 (by kernel_rfl) rfl #[.slice A0 l0.length c0] rfl ?_; (with_reducible refine (impl_TermsFault.calls _ _ l0 t484 _ ?side1 ?side2 A3.out).mono ?_); (case side1 => repeat (first | exact (Kd.C_below a8.out HB.out) | (with_reducible refine Kd.C_alloc ?_ _) | (with_reducible refine Kd.C_drewN ?_ _) | (with_reducible refine Kd.C_drew ?_))); (case side2 => exact a9.out); rintro e w31 ⟨rfl, hb⟩; refine ⟨_, rfl, ?_⟩; have n1_ := Aside0.mk (lP_ (by repeat (first | (with_reducible first | exact HB.out | refine lS1_ ?_ a1.out) | exact HB.out)) hb); clear HB; have HB := n1_; clear n1_; (try clear hb); (try clear hb2); (try clear hk); (try clear hi)))
  go_ret
  exact ⟨by first | rfl | (simp [errW_none, errW_some] <;> rfl) | (simp [*, errW_none, errW_some] <;> rfl), by repeat (first | (with_reducible first | exact HB.out | apply lA1_ | apply lN_ | apply lD_ | refine lS1_ ?_ a1.out) | exact HB.out)⟩
end Go.Proofs.Ytaniedjfkiklmaa.G
