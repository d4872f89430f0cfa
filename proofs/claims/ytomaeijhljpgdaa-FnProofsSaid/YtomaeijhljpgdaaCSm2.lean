/- Part 2 of the proof of several laws of this seat: what the functions on its road do, and the plain laws. -/
import Derived.Test.YtomaeijhljpgdaaCSm1
import Derived.Test.YtomaeijhljpgdaaProg
import Derived.Below
import Derived.Deep.Draws
import Derived.Deep.AppendLies
import Derived.Maps.AppendAt
import Derived.OwnWalk
import Derived.Laws.BytesArg
import Derived.Laws.MakeOwn
import Derived.Laws.OwnMore
import Derived.Deep.OwnRows
import Derived.Tactics
import Derived.Lib.ConvBytes
import Derived.Laws.Slices
import Derived.WalkKit
import Derived.KernelRfl
import Derived.RowKit3
import Derived.Deep.LoopGhost
import Derived.Deep.QuietTactic
import Derived.BigQuiet
import Derived.WideLaws
import Derived.Deep.DeepCutAuto
import Derived.Deep.CutBlock
import Derived.Deep.RegionHeld3
import Derived.Laws.Rows
import Derived.Lib.AppendStr
import Derived.ArgAppend
import Derived.Laws.IdiomCopy
import Derived.OrdersHeld
import Derived.Laws.BitsLemmas
import Derived.RowKit
import Derived.WalkSpells
import Derived.Shelf.Abstract
import Derived.Maps.OwnOps
import Derived.DeepKeys4
import Derived.Maps.Views
namespace Go.Proofs.Ytomaeijhljpgdaa.G
open Go.RowKit Go.Proofs.YtomaeijhljpgdaaW.PrintWords Go.Proofs.YtomaeijhljpgdaaW.PrintLast Go.Proofs.YtomaeijhljpgdaaW.PrintMore
attribute [local go_sem] max2_int min2_int max_two min_two max_three min_three max_four min_four   -- for this text's walks alone
set_option linter.unusedVariables false
set_option linter.unusedSimpArgs false
def errW : Option Int → Value
  | none => .nilIface
  | some c => .iface 0 (.int .i64 c)
theorem errW_none : errW none = .nilIface := rfl
theorem errW_some (c : Int) : errW (some c) = .iface 0 (.int .i64 c) := rfl
theorem info2 : (Try.prog.info? 2).map (fun i => (i.zero, i.size, i.bytes)) = some (some (.int .i64 0), 1, 8) := by kernel_rfl
theorem info26 : (Try.prog.info? 26).map (fun i => (i.zero, i.size, i.bytes)) = some (some (.agg #[(.int .i64 0), (.int .i64 0), (.int .i64 0), (.int .i64 0)]), 4, 32) := by kernel_rfl
structure S26 where
  f0 : Int
  f1 : Int
  f2 : Int
  f3 : Int
def z26 : S26 := ⟨(0 : Int), (0 : Int), (0 : Int), (0 : Int)⟩
def k26 : Kd S26 := Kd.iso (Kd.pair (Kd.int .i64) (Kd.pair (Kd.int .i64) (Kd.pair (Kd.int .i64) (Kd.int .i64)))) (fun x : S26 => (x.f0, x.f1, x.f2, x.f3))
theorem k26_open {w : World} {x : S26} {cs : List Value} (h : k26.K w x cs) : cs = [.int .i64 x.f0, .int .i64 x.f1, .int .i64 x.f2, .int .i64 x.f3] := by
  obtain ⟨_, _, rfl, rfl, ⟨_, _, rfl, rfl, ⟨_, _, rfl, rfl, rfl⟩⟩⟩ := h
  exact rfl
theorem k26_openM {w : World} {base : Nat} {ok : Nat → Prop} {x : S26} {cs : List Value} (h : k26.M w base ok x cs) : cs = [.int .i64 x.f0, .int .i64 x.f1, .int .i64 x.f2, .int .i64 x.f3] := by
  obtain ⟨_, _, rfl, rfl, ⟨_, _, rfl, rfl, ⟨_, _, rfl, rfl, rfl⟩⟩⟩ := h
  exact rfl
theorem k26_mkM (w : World) (base : Nat) (ok : Nat → Prop) (x : S26)  : k26.M w base ok x [.int .i64 x.f0, .int .i64 x.f1, .int .i64 x.f2, .int .i64 x.f3] := ⟨[.int .i64 x.f0], [.int .i64 x.f1, .int .i64 x.f2, .int .i64 x.f3], rfl, rfl, ⟨[.int .i64 x.f1], [.int .i64 x.f2, .int .i64 x.f3], rfl, rfl, ⟨[.int .i64 x.f2], [.int .i64 x.f3], rfl, rfl, rfl⟩⟩⟩
def rd_T26 (xs : List S26) (i : Int) : S26 := xs.getD i.toNat z26
theorem at_T26 {w : World} {A : Option Addr} {n : Nat} {xs : List S26} (h : Kd.C k26 w A n xs) (i : Int) (h0 : 0 ≤ i) (h1 : i < n) : ∃ ad , A = some ad ∧ w.cell? (ad.add (i.toNat * 4)) = some (.int .i64 (rd_T26 xs i).f0) ∧ w.cell? ⟨(ad.add (i.toNat * 4)).block, (ad.add (i.toNat * 4)).off + 1, none⟩ = some (.int .i64 (rd_T26 xs i).f1) ∧ w.cell? ⟨(ad.add (i.toNat * 4)).block, (ad.add (i.toNat * 4)).off + 2, none⟩ = some (.int .i64 (rd_T26 xs i).f2) ∧ w.cell? ⟨(ad.add (i.toNat * 4)).block, (ad.add (i.toNat * 4)).off + 3, none⟩ = some (.int .i64 (rd_T26 xs i).f3) := by
  obtain ⟨ad, c, e, _, hK, hc0⟩ := Kd.C_get h z26 i h0 h1
  have hc : ∀ j u, c[j]? = some u → w.cell? (ad.add (i.toNat * 4 + j)) = some u := hc0
  obtain rfl := k26_open hK
  exact ⟨ad, e, hc 0 _ rfl, by rw [← add_field _ _ 1 (by omega)]; exact hc 1 _ rfl, by rw [← add_field _ _ 2 (by omega)]; exact hc 2 _ rfl, by rw [← add_field _ _ 3 (by omega)]; exact hc 3 _ rfl⟩
structure S98 where
  f0 : Int
  f1 : Int
  f2 : Int
  f3 : Int
def z98 : S98 := ⟨(0 : Int), (0 : Int), (0 : Int), (0 : Int)⟩
def k98 : Kd S98 := Kd.iso (Kd.pair (Kd.int .i64) (Kd.pair (Kd.int .i64) (Kd.pair (Kd.int .i64) (Kd.int .i64)))) (fun x : S98 => (x.f0, x.f1, x.f2, x.f3))
theorem k98_open {w : World} {x : S98} {cs : List Value} (h : k98.K w x cs) : cs = [.int .i64 x.f0, .int .i64 x.f1, .int .i64 x.f2, .int .i64 x.f3] := by
  obtain ⟨_, _, rfl, rfl, ⟨_, _, rfl, rfl, ⟨_, _, rfl, rfl, rfl⟩⟩⟩ := h
  exact rfl
def rd_T98 (xs : List S98) (i : Int) : S98 := xs.getD i.toNat z98
theorem at_T98 {w : World} {A : Option Addr} {n : Nat} {xs : List S98} (h : Kd.C k98 w A n xs) (i : Int) (h0 : 0 ≤ i) (h1 : i < n) : ∃ ad , A = some ad ∧ w.cell? (ad.add (i.toNat * 4)) = some (.int .i64 (rd_T98 xs i).f0) ∧ w.cell? ⟨(ad.add (i.toNat * 4)).block, (ad.add (i.toNat * 4)).off + 1, none⟩ = some (.int .i64 (rd_T98 xs i).f1) ∧ w.cell? ⟨(ad.add (i.toNat * 4)).block, (ad.add (i.toNat * 4)).off + 2, none⟩ = some (.int .i64 (rd_T98 xs i).f2) ∧ w.cell? ⟨(ad.add (i.toNat * 4)).block, (ad.add (i.toNat * 4)).off + 3, none⟩ = some (.int .i64 (rd_T98 xs i).f3) := by
  obtain ⟨ad, c, e, _, hK, hc0⟩ := Kd.C_get h z98 i h0 h1
  have hc : ∀ j u, c[j]? = some u → w.cell? (ad.add (i.toNat * 4 + j)) = some u := hc0
  obtain rfl := k98_open hK
  exact ⟨ad, e, hc 0 _ rfl, by rw [← add_field _ _ 1 (by omega)]; exact hc 1 _ rfl, by rw [← add_field _ _ 2 (by omega)]; exact hc 2 _ rfl, by rw [← add_field _ _ 3 (by omega)]; exact hc 3 _ rfl⟩
theorem lA_ {α : Type _} (l : List α) (i : Nat) (a : α) : l.toArray.setIfInBounds i a = (l.set i a).toArray := List.setIfInBounds_toArray l i a
theorem lZ_ {α : Type _} {x a : α} {xs : List α} : (x :: xs).set 0 a = a :: xs := rfl
theorem lS_ {α : Type _} {x a : α} {xs : List α} {i : Nat} : (x :: xs).set (i + 1) a = x :: xs.set i a := rfl
theorem rfield_ {P : Program} {t ty : TypeId} {f : Nat} {fs : Array Field} {xs : Array Value} {v : Value} {w : World} {d : TypeDesc} (o : Nat) (hu : P.underlying t = some (.struct fs)) (hq : P.underlying ty = some d) (hf : (fs[f]?).map (fun fd => (fd.offset, fd.type)) = some (o, ty)) (hp : (match d with | .struct _ | .array _ _ => true | _ => false) = false) (hx : xs[o]? = some v) :
    (Sem.run P (Instr.field t (.agg xs) f) w).andThen (fun a w' => Result.ok (Next.value a) w') = Result.ok (Next.value v) w := by
  cases hd : fs[f]? with
  | none => simp [hd] at hf
  | some fd =>
    obtain ⟨rfl, rfl⟩ : fd.offset = o ∧ fd.type = ty := by simpa [hd] using hf
    cases d <;> simp at hp <;> simp [Instr.field, run_underlying hu, hd, asAgg, part, isAgg, run_underlying hq, hx]
theorem upon_field_ {P : Program} {t ty : TypeId} {f : Nat} {fs : Array Field} {xs : Array Value} {v : Value} {w : World} {d : TypeDesc} {o : Oper} {a : Act} {next : Act → World → Prop} {Q : Exit → Act → World → Prop} (q : Nat) (hu : P.underlying t = some (.struct fs)) (hq : P.underlying ty = some d) (hf : (fs[f]?).map (fun fd => (fd.offset, fd.type)) = some (q, ty)) (hp : (match d with | .struct _ | .array _ _ => true | _ => false) = false) (hx : xs[q]? = some v) (h : Oper.upon P o a next Q (Result.ok (Next.value v) w)) :
    Oper.upon P o a next Q ((Sem.run P (Instr.field t (.agg xs) f) w).andThen (fun a w' => Result.ok (Next.value a) w')) := by
  rw [rfield_ q hu hq hf hp hx]; exact h
end Go.Proofs.Ytomaeijhljpgdaa.G
namespace Go.Proofs.Ytomaeijhljpgdaa.G
open Go.RowKit Go.Proofs.YtomaeijhljpgdaaW.PrintWords Go.Proofs.YtomaeijhljpgdaaW.PrintLast Go.Proofs.YtomaeijhljpgdaaW.PrintMore
attribute [local go_sem] max2_int min2_int max_two min_two max_three min_three max_four min_four   -- for this text's walks alone
set_option linter.unusedVariables false
set_option linter.unusedSimpArgs false
def impl_in.f (a0 : Int) (a1 : Int) (a2 : Int) : Option (Bool) := if a0 ≥ a1 then (some (decide (a0 ≤ a2))) else (some false)
set_option maxHeartbeats 8000000 in
set_option maxRecDepth 100000 in
theorem impl_in.calls (a0 : Int) (a1 : Int) (a2 : Int) (r : Bool) (w : World) (h : impl_in.f a0 a1 a2 = some r) :
  Calls Try.prog 64 #[.int .i64 a0, .int .i64 a1, .int .i64 a2] w fun e w' => e = .returned (.bool r) ∧ Drawn0 w w' := by
 have H : (if a0 ≥ a1 then (some (decide (a0 ≤ a2))) else (some false)) = some r := h
 clear h
 by_cases c4 : a0 ≥ a1
 ·rw [if_pos c4] at H
  have c4b0 : decide (a1 ≤ a0) = true := decide_eq_true c4
  clear c4
  obtain rfl := Option.some.inj H
  go_enter Try.func64, Try.ntmps64
  go_wp2
  go_ret
  exact ⟨by first | rfl | (simp; done) | (simp [*]; done), by repeat (first | exact Drawn0.refl _ | apply Drawn0.step)⟩
 ·rw [if_neg c4] at H
  have c4b0 : decide (a1 ≤ a0) = false := decide_eq_false c4
  clear c4
  obtain rfl := Option.some.inj H
  go_enter Try.func64, Try.ntmps64
  go_wp2
  go_ret
  exact ⟨by first | rfl | (simp; done) | (simp [*]; done), by repeat (first | exact Drawn0.refl _ | apply Drawn0.step)⟩
end Go.Proofs.Ytomaeijhljpgdaa.G
namespace Go.Proofs.Ytomaeijhljpgdaa.G
open Go.RowKit Go.Proofs.YtomaeijhljpgdaaW.PrintWords Go.Proofs.YtomaeijhljpgdaaW.PrintLast Go.Proofs.YtomaeijhljpgdaaW.PrintMore
attribute [local go_sem] max2_int min2_int max_two min_two max_three min_three max_four min_four   -- for this text's walks alone
set_option linter.unusedVariables false
set_option linter.unusedSimpArgs false
def impl_namesOf.j0 : Nat → Int → Bool → Option (Bool × Bool × Bool)
 | 0, _, _ => none
 | k + 1, x3, x4 => if x4 = true then (some (false, false, true)) else (if x3 = 6 then (some (true, false, false)) else (some (true, true, false)))
def impl_namesOf.f (k : Nat) (a0 : Int) : Option (Bool × Bool × Bool) := if a0 = 1 then (impl_namesOf.j0 k a0 (a0 == 1)) else (impl_namesOf.j0 k a0 (a0 == 2))
set_option maxHeartbeats 8000000 in
set_option maxRecDepth 100000 in
theorem impl_namesOf.calls (k : Nat) (a0 : Int) (r1 : Bool) (r2 : Bool) (r3 : Bool) (w : World) (h : impl_namesOf.f k a0 = some (r1, r2, r3)) :
  Calls Try.prog 84 #[.int .i64 a0] w fun e w' => e = .returned (.agg #[.bool r1, .bool r2, .bool r3]) ∧ Below w.heap.size w w' := by
 have hu116 := Try.underlying116
 have HB := Aside0.mk (Below.refl w.heap.size w)
 have H : (if a0 = 1 then (impl_namesOf.j0 k a0 (a0 == 1)) else (impl_namesOf.j0 k a0 (a0 == 2))) = some (r1, r2, r3) := h
 clear h
 have HC2 := Aside0.mk H
 clear H
 go_enter Try.func84, Try.ntmps84
 go_upto_if 4 with (first | ((with_reducible refine gate_dst (N := 2) rfl ?_); refine box_event ?hg (N := 2) ?hd (cs := #[.bool false, .bool false, .bool false]) (t := 116) ?hr ?_; (case hd => rfl); (case hg => rfl); (case hr => first | (go_simp; done) | (go_simp; rfl)); intro gb266 hg w3 hbox hb; have n0_ := Aside0.mk (below_step (by repeat (first | (with_reducible first | exact HB.out | apply below_alloc | apply pw_below_drewN | apply below_drew1) | exact HB.out)) hb); have n1_ := Aside0.mk (hbox); have n2_ := Aside0.mk ((by rw [hg]; exact (below_size (by repeat (first | (with_reducible first | exact HB.out | apply below_alloc | apply pw_below_drewN | apply below_drew1) | exact HB.out))) : w.heap.size ≤ gb266)); have n3_ := Aside0.mk ((by rw [hg]; exact (below_size (by repeat (first | (with_reducible first | exact HB.out | apply below_alloc | apply pw_below_drewN | apply below_drew1) | exact HB.out))) : w.heap.size ≤ gb266)); clear HB; have HB := n0_; have BK266 := n1_; have GW266 := n2_; have GE266 := n3_; clear n0_ n1_ n2_ n3_; clear hb hbox hg))
 (try simp only [Act.put, lA_, lZ_, lS_])
 go_cut [4] (fun v4 wc => ∃ (kq : Nat) (x4_1 : Bool), v4 = .bool x4_1 ∧ Aside0 (impl_namesOf.j0 kq a0 x4_1 = some (r1, r2, r3)) ∧ Aside0 (kq ≤ k) ∧ Aside0 (wc.heap[gb266]? = some (.cells #[.bool false, .bool false, .bool false] 116 (0, 0))) ∧ Aside0 (Below w.heap.size w wc))
 case first =>
  have H := HC2.out
  clear HC2
  by_cases c4 : a0 = 1
  ·rw [if_pos c4] at H
   have c4b0 : (a0 == 1) = true := beq_iff_eq.mpr c4
   have c4b1 : (a0 != 1) = false := bne_eq_false_iff_eq.mpr c4
   clear c4
   (first | rw [c4b0] | (simp only [i64_w, i32_w]; rw [c4b0]) | skip)
   have H' := Aside0.mk H
   clear H
   go_wp2
   go_meet
   case rel => exact ⟨_, ((a0 == 1)), (by first | rfl | (simp; done) | (simp [*]; done)), H', ⟨by first | omega | exact Nat.le_refl _⟩, ⟨by (with_reducible repeat (first | refine blk_drewN ?_ _ | refine blk_drew ?_ | refine blk_alloc ?_ _)); exact BK266.out⟩, ⟨by repeat (first | (with_reducible first | exact HB.out | apply below_alloc | apply pw_below_drewN | apply below_drew1 | refine below_set ?_ GE266.out) | exact HB.out)⟩⟩
  ·rw [if_neg c4] at H
   have c4b0 : (a0 == 1) = false := beq_eq_false_iff_ne.mpr c4
   have c4b1 : (a0 != 1) = true := bne_iff_ne.mpr c4
   (first | rw [c4b0] | (simp only [i64_w, i32_w]; rw [c4b0]) | skip)
   have H' := Aside0.mk H
   clear H
   go_wp2
   go_meet
   case rel => exact ⟨_, ((a0 == 2)), (by first | rfl | (simp; done) | (simp [*]; done)), H', ⟨by first | omega | exact Nat.le_refl _⟩, ⟨by (with_reducible repeat (first | refine blk_drewN ?_ _ | refine blk_drew ?_ | refine blk_alloc ?_ _)); exact BK266.out⟩, ⟨by repeat (first | (with_reducible first | exact HB.out | apply below_alloc | apply pw_below_drewN | apply below_drew1 | refine below_set ?_ GE266.out) | exact HB.out)⟩⟩
 case rest =>
  clear HC2
  try clear p2
  try clear c4
  try clear c4b0
  try clear c4b1
  obtain ⟨kq, x4_1, rfl, HA, HJ1, BK266, HB⟩ := hcut
  cases kq with
  | zero => exact absurd HA.out (by simp [impl_namesOf.j0])
  | succ kj1 =>
   have H := HA.out
   clear HA
   simp only [impl_namesOf.j0] at H
   by_cases c5 : x4_1 = true
   ·subst c5
    rw [if_pos rfl] at H
    simp only [Option.some.injEq, Prod.mk.injEq] at H
    obtain ⟨rfl, rfl, rfl⟩ := H
    have hcz6_0 : wc.cell? ⟨gb266, 0, none⟩ = some (.bool false) := (blk_cell BK266.out 0).trans rfl
    have hcz6_1 : wc.cell? ⟨gb266, 1, none⟩ = some (.bool false) := (blk_cell BK266.out 1).trans rfl
    have hcz6_2 : wc.cell? ⟨gb266, 2, none⟩ = some (.bool false) := (blk_cell BK266.out 2).trans rfl
    have hfz6_0 := blk_frozen BK266.out 0
    have hfz6_1 := blk_frozen BK266.out 1
    have hfz6_2 := blk_frozen BK266.out 2
    go_wp2
    refine bodyPost_ret (results_cell_row rfl _ _ gb266 116 #[.bool false, .bool false, .bool true] (0, 0) _ rfl (by (with_reducible repeat (first | refine blk_drewN ?_ _ | refine blk_drew ?_ | refine blk_alloc ?_ _)); refine blk_put (cs := #[.bool false, .bool false, .bool false]) ?_ 2 _ rfl; (with_reducible repeat (first | refine blk_drewN ?_ _ | refine blk_drew ?_ | refine blk_alloc ?_ _)); refine blk_put (cs := #[.bool false, .bool false, .bool false]) ?_ 1 _ rfl; (with_reducible repeat (first | refine blk_drewN ?_ _ | refine blk_drew ?_ | refine blk_alloc ?_ _)); refine blk_put (cs := #[.bool false, .bool false, .bool false]) ?_ 0 _ rfl; (with_reducible repeat (first | refine blk_drewN ?_ _ | refine blk_drew ?_ | refine blk_alloc ?_ _)); exact BK266.out) Try.underlying116 rfl (by kernel_rfl)) rfl ?_
    exact ⟨by first | rfl | (simp [errW_none, errW_some] <;> rfl) | (simp [*, errW_none, errW_some] <;> rfl), by repeat (first | (with_reducible first | exact HB.out | apply below_alloc | apply pw_below_drewN | apply below_drew1 | refine below_set ?_ GE266.out) | exact HB.out)⟩
   ·replace c5 := Bool.eq_false_iff.mpr c5
    subst c5
    rw [if_neg (show ¬ (false = true) by decide)] at H
    by_cases c7 : a0 = 6
    ·rw [if_pos c7] at H
     have c7b0 : (a0 == 6) = true := beq_iff_eq.mpr c7
     have c7b1 : (a0 != 6) = false := bne_eq_false_iff_eq.mpr c7
     clear c7
     simp only [Option.some.injEq, Prod.mk.injEq] at H
     obtain ⟨rfl, rfl, rfl⟩ := H
     have hcz8_0 : wc.cell? ⟨gb266, 0, none⟩ = some (.bool false) := (blk_cell BK266.out 0).trans rfl
     have hcz8_1 : wc.cell? ⟨gb266, 1, none⟩ = some (.bool false) := (blk_cell BK266.out 1).trans rfl
     have hcz8_2 : wc.cell? ⟨gb266, 2, none⟩ = some (.bool false) := (blk_cell BK266.out 2).trans rfl
     have hfz8_0 := blk_frozen BK266.out 0
     have hfz8_1 := blk_frozen BK266.out 1
     have hfz8_2 := blk_frozen BK266.out 2
     go_wp2
     refine bodyPost_ret (results_cell_row rfl _ _ gb266 116 #[.bool true, .bool false, .bool false] (0, 0) _ rfl (by (with_reducible repeat (first | refine blk_drewN ?_ _ | refine blk_drew ?_ | refine blk_alloc ?_ _)); refine blk_put (cs := #[.bool true, .bool false, .bool false]) ?_ 2 _ rfl; (with_reducible repeat (first | refine blk_drewN ?_ _ | refine blk_drew ?_ | refine blk_alloc ?_ _)); refine blk_put (cs := #[.bool true, .bool false, .bool false]) ?_ 1 _ rfl; (with_reducible repeat (first | refine blk_drewN ?_ _ | refine blk_drew ?_ | refine blk_alloc ?_ _)); refine blk_put (cs := #[.bool false, .bool false, .bool false]) ?_ 0 _ rfl; (with_reducible repeat (first | refine blk_drewN ?_ _ | refine blk_drew ?_ | refine blk_alloc ?_ _)); exact BK266.out) Try.underlying116 rfl (by kernel_rfl)) rfl ?_
     exact ⟨by first | rfl | (simp [errW_none, errW_some] <;> rfl) | (simp [*, errW_none, errW_some] <;> rfl), by repeat (first | (with_reducible first | exact HB.out | apply below_alloc | apply pw_below_drewN | apply below_drew1 | refine below_set ?_ GE266.out) | exact HB.out)⟩
    ·rw [if_neg c7] at H
     have c7b0 : (a0 == 6) = false := beq_eq_false_iff_ne.mpr c7
     have c7b1 : (a0 != 6) = true := bne_iff_ne.mpr c7
     simp only [Option.some.injEq, Prod.mk.injEq] at H
     obtain ⟨rfl, rfl, rfl⟩ := H
     have hcz9_0 : wc.cell? ⟨gb266, 0, none⟩ = some (.bool false) := (blk_cell BK266.out 0).trans rfl
     have hcz9_1 : wc.cell? ⟨gb266, 1, none⟩ = some (.bool false) := (blk_cell BK266.out 1).trans rfl
     have hcz9_2 : wc.cell? ⟨gb266, 2, none⟩ = some (.bool false) := (blk_cell BK266.out 2).trans rfl
     have hfz9_0 := blk_frozen BK266.out 0
     have hfz9_1 := blk_frozen BK266.out 1
     have hfz9_2 := blk_frozen BK266.out 2
     go_wp2
     refine bodyPost_ret (results_cell_row rfl _ _ gb266 116 #[.bool true, .bool true, .bool false] (0, 0) _ rfl (by (with_reducible repeat (first | refine blk_drewN ?_ _ | refine blk_drew ?_ | refine blk_alloc ?_ _)); refine blk_put (cs := #[.bool true, .bool true, .bool false]) ?_ 2 _ rfl; (with_reducible repeat (first | refine blk_drewN ?_ _ | refine blk_drew ?_ | refine blk_alloc ?_ _)); refine blk_put (cs := #[.bool true, .bool false, .bool false]) ?_ 1 _ rfl; (with_reducible repeat (first | refine blk_drewN ?_ _ | refine blk_drew ?_ | refine blk_alloc ?_ _)); refine blk_put (cs := #[.bool false, .bool false, .bool false]) ?_ 0 _ rfl; (with_reducible repeat (first | refine blk_drewN ?_ _ | refine blk_drew ?_ | refine blk_alloc ?_ _)); exact BK266.out) Try.underlying116 rfl (by kernel_rfl)) rfl ?_
     exact ⟨by first | rfl | (simp [errW_none, errW_some] <;> rfl) | (simp [*, errW_none, errW_some] <;> rfl), by repeat (first | (with_reducible first | exact HB.out | apply below_alloc | apply pw_below_drewN | apply below_drew1 | refine below_set ?_ GE266.out) | exact HB.out)⟩
end Go.Proofs.Ytomaeijhljpgdaa.G
namespace Go.Proofs.Ytomaeijhljpgdaa.G
open Go.RowKit Go.Proofs.YtomaeijhljpgdaaW.PrintWords Go.Proofs.YtomaeijhljpgdaaW.PrintLast Go.Proofs.YtomaeijhljpgdaaW.PrintMore
attribute [local go_sem] max2_int min2_int max_two min_two max_three min_three max_four min_four   -- for this text's walks alone
set_option linter.unusedVariables false
set_option linter.unusedSimpArgs false
set_option maxHeartbeats 4000000 in
set_option maxRecDepth 100000 in
theorem slices_IndexFunc_int64_int64.calls (g : Nat) (lb : Array Value) (p : Int → Bool) (A0 : Option Addr) (c0 : Nat) (l0 : List Int) (w : World) (eg : ∀ args w, (callFunc g args).run Try.prog w = .ok (.enter g args) w)
    (hp : ∀ (W : World) (x : Int), x ∈ l0 → Below w.heap.size w W → Calls Try.prog g (#[.int .i64 x] ++ lb) W fun e w' => e = .returned (.bool (p x)) ∧ Below w.heap.size w w')
    (hr0 : Kd.C (Kd.int .i64) w A0 l0.length l0) (hl : l0.length ≤ 9223372036854775807) :
    Calls Try.prog 107 #[.slice A0 l0.length c0, .func (.func g) #[] lb] w fun e w' => ∃ v : Int, e = .returned (.int .i64 v) ∧ Aside0 (decide (0 ≤ v) = l0.any p) ∧ Below w.heap.size w w' := by
  have HR := Aside0.mk hr0
  clear hr0
  go_enter Try.func107, Try.ntmps107
  go_wp2
  go_loopg [5, 8] l0.length (fun gg _ s8 wr => ∃ kk : Nat, kk ≤ l0.length ∧ l0.length - kk ≤ gg ∧ s8 = .int .i64 kk ∧ Aside0 (Below w.heap.size w wr) ∧ Aside0 (∀ j : Nat, j < kk → p (rd l0 j) = false))
  case atStart => exact ⟨0, Nat.zero_le _, by omega, rfl, Aside0.mk (Below.refl _ w), Aside0.mk (fun j hj => absurd hj (Nat.not_lt_zero _))⟩
  case round =>
    obtain ⟨kk, hkk, hg, rfl, BW, HA⟩ := hrel
    by_cases hlt : kk < l0.length
    · have hltz : (kk : Int) < (l0.length : Int) := by omega
      obtain ⟨ad, e, hx⟩ := Kd.at_int (Kd.C_below HR.out BW.out) (kk : Int) (by omega) (by omega)
      rw [Int.toNat_natCast] at hx
      subst e
      have hm : rd l0 (kk : Int) ∈ l0 := by
        have : rd l0 (kk : Int) = l0[kk] := by simp [rd, List.getD, List.getElem?_eq_getElem hlt]
        rw [this]; exact List.getElem_mem hlt
      have HM := Aside0.mk hm
      have hcall := hp wr (rd l0 (kk : Int)) hm BW.out
      clear hp hm
      generalize hy : rd l0 (kk : Int) = y at hx hcall
      have HY := Aside0.mk hy
      clear hy
      cases hq : p y with
      | true =>
        rw [hq] at hcall
        go_wp2_with (go_at_fn g; refine hcall.mono ?_; rintro e w' ⟨rfl, hb'⟩)
        go_ret
        refine ⟨_, rfl, Aside0.mk ?_, hb'⟩
        rw [decide_eq_true (show (0 : Int) ≤ (kk : Int) by omega)]
        symm
        exact List.any_eq_true.2 ⟨_, HM.out, by rw [HY.out]; exact hq⟩
      | false =>
        rw [hq] at hcall
        go_wp2_with (go_at_fn g; refine hcall.mono ?_; rintro e w' ⟨rfl, hb'⟩)
        go_roundg (l0.length - (kk + 1))
        case measure => omega
        case rel =>
          refine ⟨kk + 1, by omega, by omega, by go_num, Aside0.mk hb', Aside0.mk (fun j hj => ?_)⟩
          by_cases e : j = kk
          · subst e
            rw [HY.out]; exact hq
          · exact HA.out j (by omega)
    · have hltz : ¬ (kk : Int) < (l0.length : Int) := by omega
      obtain rfl : kk = l0.length := by omega
      go_wp2
      go_ret
      refine ⟨_, rfl, Aside0.mk ?_, BW.out⟩
      rw [decide_eq_false (show ¬ (0 : Int) ≤ -1 by omega)]
      symm
      rw [List.any_eq_false]
      intro x hx
      obtain ⟨j, hj, rfl⟩ := List.getElem_of_mem hx
      have := HA.out j hj
      have e : rd l0 (j : Int) = l0[j] := by simp [rd, List.getD, List.getElem?_eq_getElem hj]
      rw [e] at this
      simp [this]
end Go.Proofs.Ytomaeijhljpgdaa.G
namespace Go.Proofs.Ytomaeijhljpgdaa.G
open Go.RowKit Go.Proofs.YtomaeijhljpgdaaW.PrintWords Go.Proofs.YtomaeijhljpgdaaW.PrintLast Go.Proofs.YtomaeijhljpgdaaW.PrintMore
attribute [local go_sem] max2_int min2_int max_two min_two max_three min_three max_four min_four   -- for this text's walks alone
set_option linter.unusedVariables false
set_option linter.unusedSimpArgs false
set_option maxHeartbeats 4000000 in
set_option maxRecDepth 100000 in
theorem slices_ContainsFunc_int64_int64.calls (g : Nat) (lb : Array Value) (p : Int → Bool) (A0 : Option Addr) (c0 : Nat) (l0 : List Int) (w : World) (eg : ∀ args w, (callFunc g args).run Try.prog w = .ok (.enter g args) w)
    (hp : ∀ (W : World) (x : Int), x ∈ l0 → Below w.heap.size w W → Calls Try.prog g (#[.int .i64 x] ++ lb) W fun e w' => e = .returned (.bool (p x)) ∧ Below w.heap.size w w')
    (hr0 : Kd.C (Kd.int .i64) w A0 l0.length l0) (hl : l0.length ≤ 9223372036854775807) :
    Calls Try.prog 85 #[.slice A0 l0.length c0, .func (.func g) #[] lb] w fun e w' => e = .returned (.bool (l0.any p)) ∧ Below w.heap.size w w' := by
  have hC := slices_IndexFunc_int64_int64.calls g lb p A0 c0 l0 w eg hp hr0 hl
  clear hp hr0
  go_enter Try.func85, Try.ntmps85
  go_wp2_with (go_at_call 107; refine hC.mono ?_; rintro e w' ⟨v, rfl, hv, hb⟩)
  go_ret
  exact ⟨congrArg (fun b => Ending.returned (Value.bool b)) hv.out, hb⟩
end Go.Proofs.Ytomaeijhljpgdaa.G
namespace Go.Proofs.Ytomaeijhljpgdaa.G
open Go.RowKit Go.Proofs.YtomaeijhljpgdaaW.PrintWords Go.Proofs.YtomaeijhljpgdaaW.PrintLast Go.Proofs.YtomaeijhljpgdaaW.PrintMore
attribute [local go_sem] max2_int min2_int max_two min_two max_three min_three max_four min_four   -- for this text's walks alone
set_option linter.unusedVariables false
set_option linter.unusedSimpArgs false
def impl_Term_parts.f (k : Nat) (a0_0 : Int) (a0_1 : Int) (a0_2 : Int) (a0_3 : Int) : Option (List Int) := (impl_namesOf.f k a0_0).bind fun bt268 => (if bt268.2.2 = true then (some ([] : List Int)) else (if bt268.2.1 = true then (some (([a0_1, a0_2] : List Int))) else (some (([a0_1] : List Int)))))
set_option maxHeartbeats 8000000 in
set_option maxRecDepth 100000 in
theorem impl_Term_parts.calls (k : Nat) (a0_0 : Int) (a0_1 : Int) (a0_2 : Int) (a0_3 : Int) (r : List Int) (w : World) (h : impl_Term_parts.f k a0_0 a0_1 a0_2 a0_3 = some r) :
  Calls Try.prog 86 #[.agg #[.int .i64 a0_0, .int .i64 a0_1, .int .i64 a0_2, .int .i64 a0_3]] w fun e w' => ∃ v0_ : Value, e = .returned (v0_) ∧ Kd.R (Kd.int .i64) 2 w' w.heap.size (fun _ => True) v0_ r ∧ Below w.heap.size w w' := by
 have hu26 := Try.underlying26
 have hu116 := Try.underlying116
 have HB := Aside0.mk (Below.refl w.heap.size w)
 have H : ((impl_namesOf.f k a0_0).bind fun bt268 => (if bt268.2.2 = true then (some ([] : List Int)) else (if bt268.2.1 = true then (some (([a0_1, a0_2] : List Int))) else (some (([a0_1] : List Int)))))) = some r := h
 clear h
 replace H := Option.bind_eq_some_iff.mp H
 obtain ⟨⟨t268, t269, t270⟩, A20, H⟩ := H
 try dsimp only at H
 have A2 := Aside0.mk A20
 clear A20
 by_cases c3 : t270 = true
 ·subst c3
  rw [if_pos rfl] at H
  obtain rfl := Option.some.inj H
  go_enter Try.func86, Try.ntmps86
  go_wp2_with (first | ((with_reducible refine gate_dst (N := 1) rfl ?_); refine box_event ?hg (N := 1) ?hd (cs := #[.int .i64 a0_0, .int .i64 a0_1, .int .i64 a0_2, .int .i64 a0_3]) (t := 26) ?hr ?_; (case hd => rfl); (case hg => rfl); (case hr => first | (go_simp; done) | (go_simp; rfl)); intro gb267 hg w4 hbox hb; have n0_ := Aside0.mk (below_step (by repeat (first | (with_reducible first | exact HB.out | apply below_alloc | apply pw_below_drewN | apply below_drew1) | exact HB.out)) hb); have n1_ := Aside0.mk (hbox); have n2_ := Aside0.mk ((by rw [hg]; exact (below_size (by repeat (first | (with_reducible first | exact HB.out | apply below_alloc | apply pw_below_drewN | apply below_drew1) | exact HB.out))) : w.heap.size ≤ gb267)); have n3_ := Aside0.mk ((by rw [hg]; exact (below_size (by repeat (first | (with_reducible first | exact HB.out | apply below_alloc | apply pw_below_drewN | apply below_drew1) | exact HB.out))) : w.heap.size ≤ gb267)); clear HB; have HB := n0_; have BK267 := n1_; have GW267 := n2_; have GE267 := n3_; clear n0_ n1_ n2_ n3_; clear hb hbox hg; have hcz5_0 : w4.cell? ⟨gb267, 0, none⟩ = some (.int .i64 a0_0) := (blk_cell BK267.out 0).trans rfl; have hcz5_1 : w4.cell? ⟨gb267, 1, none⟩ = some (.int .i64 a0_1) := (blk_cell BK267.out 1).trans rfl; have hcz5_2 : w4.cell? ⟨gb267, 2, none⟩ = some (.int .i64 a0_2) := (blk_cell BK267.out 2).trans rfl; have hcz5_3 : w4.cell? ⟨gb267, 3, none⟩ = some (.int .i64 a0_3) := (blk_cell BK267.out 3).trans rfl; have hfz5_0 := blk_frozen BK267.out 0; have hfz5_1 := blk_frozen BK267.out 1; have hfz5_2 := blk_frozen BK267.out 2; have hfz5_3 := blk_frozen BK267.out 3) | ((with_reducible refine gate_callee (f := 84) rfl ?_); refine goesL_ (some 6) rfl rfl Try.func84 (by kernel_rfl) rfl #[.int .i64 a0_0] rfl (by (try simp only [List.map_toArray, List.map_cons, List.map_nil]); first | done | rfl | (simp only [List.length_drop, List.length_take]; rfl)) ?_; (with_reducible refine (impl_namesOf.calls k a0_0 t268 t269 true _ A2.out).mono ?_); rintro e w6 ⟨rfl, hb⟩; refine ⟨_, rfl, ?_⟩; have n0_ := Aside0.mk (blk_below (g := gb267) (o := .cells #[.int .i64 a0_0, .int .i64 a0_1, .int .i64 a0_2, .int .i64 a0_3] 26 (0, 0)) (by (with_reducible repeat (first | refine blk_drewN ?_ _ | refine blk_drew ?_ | refine blk_alloc ?_ _)); exact BK267.out) hb); have n1_ := Aside0.mk (below_step (by repeat (first | (with_reducible first | exact HB.out | apply below_alloc | apply pw_below_drewN | apply below_drew1 | refine below_set ?_ GE267.out) | exact HB.out)) hb); clear BK267; clear HB; have BK267 := n0_; have HB := n1_; clear n0_ n1_; (try clear hb); (try clear hb2); (try clear hk); (try clear hi)) | ((with_reducible refine gate_dst (N := 3) rfl ?_); refine box_event ?hg (N := 3) ?hd (cs := #[.bool false, .bool false, .bool false]) (t := 116) ?hr ?_; (case hd => rfl); (case hg => rfl); (case hr => first | (go_simp; done) | (go_simp; rfl)); intro gb271 hg w7 hbox hb; have n0_ := Aside0.mk (blk_below (g := gb267) (o := .cells #[.int .i64 a0_0, .int .i64 a0_1, .int .i64 a0_2, .int .i64 a0_3] 26 (0, 0)) (by (with_reducible repeat (first | refine blk_drewN ?_ _ | refine blk_drew ?_ | refine blk_alloc ?_ _)); exact BK267.out) hb); have n1_ := Aside0.mk (below_step (by repeat (first | (with_reducible first | exact HB.out | apply below_alloc | apply pw_below_drewN | apply below_drew1 | refine below_set ?_ GE267.out) | exact HB.out)) hb); have n2_ := Aside0.mk (hbox); have n3_ := Aside0.mk ((by rw [hg]; exact (below_size (by repeat (first | (with_reducible first | exact HB.out | apply below_alloc | apply pw_below_drewN | apply below_drew1 | refine below_set ?_ GE267.out) | exact HB.out))) : w.heap.size ≤ gb271)); have n4_ := Aside0.mk ((by rw [hg]; exact (below_size (by repeat (first | (with_reducible first | exact HB.out | apply below_alloc | apply pw_below_drewN | apply below_drew1 | refine below_set ?_ GE267.out) | exact HB.out))) : w.heap.size ≤ gb271)); have n5_ := Aside0.mk ((by rw [hg]; exact Nat.ne_of_lt (blk_lt (g := gb267) (o := .cells #[.int .i64 a0_0, .int .i64 a0_1, .int .i64 a0_2, .int .i64 a0_3] 26 (0, 0)) (by (with_reducible repeat (first | refine blk_drewN ?_ _ | refine blk_drew ?_ | refine blk_alloc ?_ _)); exact BK267.out)) : gb267 ≠ gb271)); have n6_ := Aside0.mk ((by rw [hg]; exact Nat.ne_of_gt (blk_lt (g := gb267) (o := .cells #[.int .i64 a0_0, .int .i64 a0_1, .int .i64 a0_2, .int .i64 a0_3] 26 (0, 0)) (by (with_reducible repeat (first | refine blk_drewN ?_ _ | refine blk_drew ?_ | refine blk_alloc ?_ _)); exact BK267.out)) : gb271 ≠ gb267)); clear BK267; clear HB; have BK267 := n0_; have HB := n1_; have BK271 := n2_; have GW271 := n3_; have GE271 := n4_; have NB267_271 := n5_; have NB271_267 := n6_; clear n0_ n1_ n2_ n3_ n4_ n5_ n6_; clear hb hbox hg; have hnb8 := NB271_267.out; have hnc8 := NB267_271.out; have hcz9_0 : w7.cell? ⟨gb271, 0, none⟩ = some (.bool false) := (blk_cell BK271.out 0).trans rfl; have hcz9_1 : w7.cell? ⟨gb271, 1, none⟩ = some (.bool false) := (blk_cell BK271.out 1).trans rfl; have hcz9_2 : w7.cell? ⟨gb271, 2, none⟩ = some (.bool false) := (blk_cell BK271.out 2).trans rfl; have hfz9_0 := blk_frozen BK271.out 0; have hfz9_1 := blk_frozen BK271.out 1; have hfz9_2 := blk_frozen BK271.out 2))
  go_ret
  exact ⟨_, by first | rfl | (simp [errW_none, errW_some] <;> rfl) | (simp [*, errW_none, errW_some] <;> rfl), by first | exact Kd.R_nil _ _ _ _ _ | exact Kd.N_nil _ _ _ _ _ | exact Kd.V_nil _ _ _ _ _ | exact Kd.Q_nil _ _ _ _ _ | exact Kd.S_nil _ _ _ _ _, by repeat (first | (with_reducible first | exact HB.out | apply below_alloc | apply pw_below_drewN | apply below_drew1 | refine below_set ?_ GE267.out | refine below_set ?_ GE271.out) | exact HB.out)⟩
 ·replace c3 := Bool.eq_false_iff.mpr c3
  subst c3
  rw [if_neg (show ¬ (false = true) by decide)] at H
  by_cases c10 : t269 = true
  ·subst c10
   rw [if_pos rfl] at H
   obtain ⟨y272, hy272⟩ : ∃ y_ : List Int, y_ = (([a0_1, a0_2] : List Int)) := ⟨_, rfl⟩
   replace H : (some y272) = some r := by first | (rw [hy272]; with_reducible exact H) | (have H2_ := (Option.bind_some _ _).symm.trans H; rw [hy272]; with_reducible exact H2_) | (have H2_ := (Option.bind_some _ _).symm.trans H; with_reducible exact H2_) | with_reducible exact H | (rw [hy272]; exact H) | exact H
   have Ny272 := Aside0.mk hy272
   clear hy272
   obtain rfl := Option.some.inj H
   go_enter Try.func86, Try.ntmps86
   go_wp2_with (first | ((with_reducible refine gate_dst (N := 1) rfl ?_); refine box_event ?hg (N := 1) ?hd (cs := #[.int .i64 a0_0, .int .i64 a0_1, .int .i64 a0_2, .int .i64 a0_3]) (t := 26) ?hr ?_; (case hd => rfl); (case hg => rfl); (case hr => first | (go_simp; done) | (go_simp; rfl)); intro gb267 hg w11 hbox hb; have n0_ := Aside0.mk (below_step (by repeat (first | (with_reducible first | exact HB.out | apply below_alloc | apply pw_below_drewN | apply below_drew1) | exact HB.out)) hb); have n1_ := Aside0.mk (hbox); have n2_ := Aside0.mk ((by rw [hg]; exact (below_size (by repeat (first | (with_reducible first | exact HB.out | apply below_alloc | apply pw_below_drewN | apply below_drew1) | exact HB.out))) : w.heap.size ≤ gb267)); have n3_ := Aside0.mk ((by rw [hg]; exact (below_size (by repeat (first | (with_reducible first | exact HB.out | apply below_alloc | apply pw_below_drewN | apply below_drew1) | exact HB.out))) : w.heap.size ≤ gb267)); clear HB; have HB := n0_; have BK267 := n1_; have GW267 := n2_; have GE267 := n3_; clear n0_ n1_ n2_ n3_; clear hb hbox hg; have hcz12_0 : w11.cell? ⟨gb267, 0, none⟩ = some (.int .i64 a0_0) := (blk_cell BK267.out 0).trans rfl; have hcz12_1 : w11.cell? ⟨gb267, 1, none⟩ = some (.int .i64 a0_1) := (blk_cell BK267.out 1).trans rfl; have hcz12_2 : w11.cell? ⟨gb267, 2, none⟩ = some (.int .i64 a0_2) := (blk_cell BK267.out 2).trans rfl; have hcz12_3 : w11.cell? ⟨gb267, 3, none⟩ = some (.int .i64 a0_3) := (blk_cell BK267.out 3).trans rfl; have hfz12_0 := blk_frozen BK267.out 0; have hfz12_1 := blk_frozen BK267.out 1; have hfz12_2 := blk_frozen BK267.out 2; have hfz12_3 := blk_frozen BK267.out 3) | ((with_reducible refine gate_callee (f := 84) rfl ?_); refine goesL_ (some 6) rfl rfl Try.func84 (by kernel_rfl) rfl #[.int .i64 a0_0] rfl (by (try simp only [List.map_toArray, List.map_cons, List.map_nil]); first | done | rfl | (simp only [List.length_drop, List.length_take]; rfl)) ?_; (with_reducible refine (impl_namesOf.calls k a0_0 t268 true false _ A2.out).mono ?_); rintro e w13 ⟨rfl, hb⟩; refine ⟨_, rfl, ?_⟩; have n0_ := Aside0.mk (blk_below (g := gb267) (o := .cells #[.int .i64 a0_0, .int .i64 a0_1, .int .i64 a0_2, .int .i64 a0_3] 26 (0, 0)) (by (with_reducible repeat (first | refine blk_drewN ?_ _ | refine blk_drew ?_ | refine blk_alloc ?_ _)); exact BK267.out) hb); have n1_ := Aside0.mk (below_step (by repeat (first | (with_reducible first | exact HB.out | apply below_alloc | apply pw_below_drewN | apply below_drew1 | refine below_set ?_ GE267.out) | exact HB.out)) hb); clear BK267; clear HB; have BK267 := n0_; have HB := n1_; clear n0_ n1_; (try clear hb); (try clear hb2); (try clear hk); (try clear hi)) | ((with_reducible refine gate_dst (N := 3) rfl ?_); refine box_event ?hg (N := 3) ?hd (cs := #[.bool false, .bool false, .bool false]) (t := 116) ?hr ?_; (case hd => rfl); (case hg => rfl); (case hr => first | (go_simp; done) | (go_simp; rfl)); intro gb271 hg w14 hbox hb; have n0_ := Aside0.mk (blk_below (g := gb267) (o := .cells #[.int .i64 a0_0, .int .i64 a0_1, .int .i64 a0_2, .int .i64 a0_3] 26 (0, 0)) (by (with_reducible repeat (first | refine blk_drewN ?_ _ | refine blk_drew ?_ | refine blk_alloc ?_ _)); exact BK267.out) hb); have n1_ := Aside0.mk (below_step (by repeat (first | (with_reducible first | exact HB.out | apply below_alloc | apply pw_below_drewN | apply below_drew1 | refine below_set ?_ GE267.out) | exact HB.out)) hb); have n2_ := Aside0.mk (hbox); have n3_ := Aside0.mk ((by rw [hg]; exact (below_size (by repeat (first | (with_reducible first | exact HB.out | apply below_alloc | apply pw_below_drewN | apply below_drew1 | refine below_set ?_ GE267.out) | exact HB.out))) : w.heap.size ≤ gb271)); have n4_ := Aside0.mk ((by rw [hg]; exact (below_size (by repeat (first | (with_reducible first | exact HB.out | apply below_alloc | apply pw_below_drewN | apply below_drew1 | refine below_set ?_ GE267.out) | exact HB.out))) : w.heap.size ≤ gb271)); have n5_ := Aside0.mk ((by rw [hg]; exact Nat.ne_of_lt (blk_lt (g := gb267) (o := .cells #[.int .i64 a0_0, .int .i64 a0_1, .int .i64 a0_2, .int .i64 a0_3] 26 (0, 0)) (by (with_reducible repeat (first | refine blk_drewN ?_ _ | refine blk_drew ?_ | refine blk_alloc ?_ _)); exact BK267.out)) : gb267 ≠ gb271)); have n6_ := Aside0.mk ((by rw [hg]; exact Nat.ne_of_gt (blk_lt (g := gb267) (o := .cells #[.int .i64 a0_0, .int .i64 a0_1, .int .i64 a0_2, .int .i64 a0_3] 26 (0, 0)) (by (with_reducible repeat (first | refine blk_drewN ?_ _ | refine blk_drew ?_ | refine blk_alloc ?_ _)); exact BK267.out)) : gb271 ≠ gb267)); clear BK267; clear HB; have BK267 := n0_; have HB := n1_; have BK271 := n2_; have GW271 := n3_; have GE271 := n4_; have NB267_271 := n5_; have NB271_267 := n6_; clear n0_ n1_ n2_ n3_ n4_ n5_ n6_; clear hb hbox hg; have hnb15 := NB271_267.out; have hnc15 := NB267_271.out; have hcz16_0 : w14.cell? ⟨gb271, 0, none⟩ = some (.bool false) := (blk_cell BK271.out 0).trans rfl; have hcz16_1 : w14.cell? ⟨gb271, 1, none⟩ = some (.bool false) := (blk_cell BK271.out 1).trans rfl; have hcz16_2 : w14.cell? ⟨gb271, 2, none⟩ = some (.bool false) := (blk_cell BK271.out 2).trans rfl; have hfz16_0 := blk_frozen BK271.out 0; have hfz16_1 := blk_frozen BK271.out 1; have hfz16_2 := blk_frozen BK271.out 2; have hcz17_0 : w14.cell? ⟨gb267, 0, none⟩ = some (.int .i64 a0_0) := (blk_cell BK267.out 0).trans rfl; have hcz17_1 : w14.cell? ⟨gb267, 1, none⟩ = some (.int .i64 a0_1) := (blk_cell BK267.out 1).trans rfl; have hcz17_2 : w14.cell? ⟨gb267, 2, none⟩ = some (.int .i64 a0_2) := (blk_cell BK267.out 2).trans rfl; have hcz17_3 : w14.cell? ⟨gb267, 3, none⟩ = some (.int .i64 a0_3) := (blk_cell BK267.out 3).trans rfl; have hfz17_0 := blk_frozen BK267.out 0; have hfz17_1 := blk_frozen BK267.out 1; have hfz17_2 := blk_frozen BK267.out 2; have hfz17_3 := blk_frozen BK267.out 3) | ((with_reducible refine gate_dst (N := 21) rfl ?_); refine Kd.R_lit (Kd.int .i64) _ 2 ?hg (N := 21) ?hd (xs := ([a0_1, a0_2] : List Int)) (inner := [.int .i64 a0_1, .int .i64 a0_2]) (ok := fun _ => True) (okp := fun _ => True) ?hr ?hp (fun _ hk => hk) trivial (Below.refl _ _) (Nat.le_refl _) (by simp) ?_; (case hd => rfl); (case hg => rfl); (case hr => first | (go_simp; done) | (go_simp; rfl)); (case hp => exact (Reps.one (show Kd.M (Kd.int .i64) _ _ _ a0_1 [.int .i64 a0_1] from rfl) (Reps.one (show Kd.M (Kd.int .i64) _ _ _ a0_2 [.int .i64 a0_2] from rfl) (Reps.none _ _)))); intro v273 w18 ho19 hb hg_ hnew_; clear hg_ hnew_; (first | rw [← Ny272.out] at ho19 | (simp only [Int.reduceToNat] at ho19; rw [← Ny272.out] at ho19)); have n0_ := Aside0.mk (Kd.R_lower ho19 (below_size (by repeat (first | (with_reducible first | exact HB.out | apply below_alloc | apply pw_below_drewN | apply below_drew1 | refine below_set ?_ GE267.out | refine below_set ?_ GE271.out) | exact HB.out)))); have n1_ := Aside0.mk (blk_below (g := gb267) (o := .cells #[.int .i64 a0_0, .int .i64 a0_1, .int .i64 a0_2, .int .i64 a0_3] 26 (0, 0)) (by (with_reducible repeat (first | refine blk_drewN ?_ _ | refine blk_drew ?_ | refine blk_alloc ?_ _)); refine blk_far ?_ NB267_271.out _; (with_reducible repeat (first | refine blk_drewN ?_ _ | refine blk_drew ?_ | refine blk_alloc ?_ _)); refine blk_far ?_ NB267_271.out _; (with_reducible repeat (first | refine blk_drewN ?_ _ | refine blk_drew ?_ | refine blk_alloc ?_ _)); refine blk_far ?_ NB267_271.out _; (with_reducible repeat (first | refine blk_drewN ?_ _ | refine blk_drew ?_ | refine blk_alloc ?_ _)); exact BK267.out) hb); have n2_ := Aside0.mk (blk_below (g := gb271) (o := .cells #[.bool t268, .bool true, .bool false] 116 (0, 0)) (by (with_reducible repeat (first | refine blk_drewN ?_ _ | refine blk_drew ?_ | refine blk_alloc ?_ _)); refine blk_put (cs := #[.bool t268, .bool true, .bool false]) ?_ 2 _ rfl; (with_reducible repeat (first | refine blk_drewN ?_ _ | refine blk_drew ?_ | refine blk_alloc ?_ _)); refine blk_put (cs := #[.bool t268, .bool false, .bool false]) ?_ 1 _ rfl; (with_reducible repeat (first | refine blk_drewN ?_ _ | refine blk_drew ?_ | refine blk_alloc ?_ _)); refine blk_put (cs := #[.bool false, .bool false, .bool false]) ?_ 0 _ rfl; (with_reducible repeat (first | refine blk_drewN ?_ _ | refine blk_drew ?_ | refine blk_alloc ?_ _)); exact BK271.out) hb); have n3_ := Aside0.mk (below_step (by repeat (first | (with_reducible first | exact HB.out | apply below_alloc | apply pw_below_drewN | apply below_drew1 | refine below_set ?_ GE267.out | refine below_set ?_ GE271.out) | exact HB.out)) hb); clear BK267; clear BK271; clear HB; have HO274 := n0_; have BK267 := n1_; have BK271 := n2_; have HB := n3_; clear n0_ n1_ n2_ n3_; clear hb ho19))
   go_ret
   exact ⟨_, by first | rfl | (simp [errW_none, errW_some] <;> rfl) | (simp [*, errW_none, errW_some] <;> rfl), by (with_reducible repeat (first | apply Kd.R_alloc | apply Kd.R_drewN | apply Kd.R_drew)); exact HO274.out, by repeat (first | (with_reducible first | exact HB.out | apply below_alloc | apply pw_below_drewN | apply below_drew1 | refine below_set ?_ GE267.out | refine below_set ?_ GE271.out) | exact HB.out)⟩
  ·replace c10 := Bool.eq_false_iff.mpr c10
   subst c10
   rw [if_neg (show ¬ (false = true) by decide)] at H
   obtain ⟨y275, hy275⟩ : ∃ y_ : List Int, y_ = (([a0_1] : List Int)) := ⟨_, rfl⟩
   replace H : (some y275) = some r := by first | (rw [hy275]; with_reducible exact H) | (have H2_ := (Option.bind_some _ _).symm.trans H; rw [hy275]; with_reducible exact H2_) | (have H2_ := (Option.bind_some _ _).symm.trans H; with_reducible exact H2_) | with_reducible exact H | (rw [hy275]; exact H) | exact H
   have Ny275 := Aside0.mk hy275
   clear hy275
   obtain rfl := Option.some.inj H
   go_enter Try.func86, Try.ntmps86
   go_wp2_with (first | ((with_reducible refine gate_dst (N := 1) rfl ?_); refine box_event ?hg (N := 1) ?hd (cs := #[.int .i64 a0_0, .int .i64 a0_1, .int .i64 a0_2, .int .i64 a0_3]) (t := 26) ?hr ?_; (case hd => rfl); (case hg => rfl); (case hr => first | (go_simp; done) | (go_simp; rfl)); intro gb267 hg w20 hbox hb; have n0_ := Aside0.mk (below_step (by repeat (first | (with_reducible first | exact HB.out | apply below_alloc | apply pw_below_drewN | apply below_drew1) | exact HB.out)) hb); have n1_ := Aside0.mk (hbox); have n2_ := Aside0.mk ((by rw [hg]; exact (below_size (by repeat (first | (with_reducible first | exact HB.out | apply below_alloc | apply pw_below_drewN | apply below_drew1) | exact HB.out))) : w.heap.size ≤ gb267)); have n3_ := Aside0.mk ((by rw [hg]; exact (below_size (by repeat (first | (with_reducible first | exact HB.out | apply below_alloc | apply pw_below_drewN | apply below_drew1) | exact HB.out))) : w.heap.size ≤ gb267)); clear HB; have HB := n0_; have BK267 := n1_; have GW267 := n2_; have GE267 := n3_; clear n0_ n1_ n2_ n3_; clear hb hbox hg; have hcz21_0 : w20.cell? ⟨gb267, 0, none⟩ = some (.int .i64 a0_0) := (blk_cell BK267.out 0).trans rfl; have hcz21_1 : w20.cell? ⟨gb267, 1, none⟩ = some (.int .i64 a0_1) := (blk_cell BK267.out 1).trans rfl; have hcz21_2 : w20.cell? ⟨gb267, 2, none⟩ = some (.int .i64 a0_2) := (blk_cell BK267.out 2).trans rfl; have hcz21_3 : w20.cell? ⟨gb267, 3, none⟩ = some (.int .i64 a0_3) := (blk_cell BK267.out 3).trans rfl; have hfz21_0 := blk_frozen BK267.out 0; have hfz21_1 := blk_frozen BK267.out 1; have hfz21_2 := blk_frozen BK267.out 2; have hfz21_3 := blk_frozen BK267.out 3) | ((with_reducible refine gate_callee (f := 84) rfl ?_); refine goesL_ (some 6) rfl rfl Try.func84 (by kernel_rfl) rfl #[.int .i64 a0_0] rfl (by (try simp only [List.map_toArray, List.map_cons, List.map_nil]); first | done | rfl | (simp only [List.length_drop, List.length_take]; rfl)) ?_; (with_reducible refine (impl_namesOf.calls k a0_0 t268 false false _ A2.out).mono ?_); rintro e w22 ⟨rfl, hb⟩; refine ⟨_, rfl, ?_⟩; have n0_ := Aside0.mk (blk_below (g := gb267) (o := .cells #[.int .i64 a0_0, .int .i64 a0_1, .int .i64 a0_2, .int .i64 a0_3] 26 (0, 0)) (by (with_reducible repeat (first | refine blk_drewN ?_ _ | refine blk_drew ?_ | refine blk_alloc ?_ _)); exact BK267.out) hb); have n1_ := Aside0.mk (below_step (by repeat (first | (with_reducible first | exact HB.out | apply below_alloc | apply pw_below_drewN | apply below_drew1 | refine below_set ?_ GE267.out) | exact HB.out)) hb); clear BK267; clear HB; have BK267 := n0_; have HB := n1_; clear n0_ n1_; (try clear hb); (try clear hb2); (try clear hk); (try clear hi)) | ((with_reducible refine gate_dst (N := 3) rfl ?_); refine box_event ?hg (N := 3) ?hd (cs := #[.bool false, .bool false, .bool false]) (t := 116) ?hr ?_; (case hd => rfl); (case hg => rfl); (case hr => first | (go_simp; done) | (go_simp; rfl)); intro gb271 hg w23 hbox hb; have n0_ := Aside0.mk (blk_below (g := gb267) (o := .cells #[.int .i64 a0_0, .int .i64 a0_1, .int .i64 a0_2, .int .i64 a0_3] 26 (0, 0)) (by (with_reducible repeat (first | refine blk_drewN ?_ _ | refine blk_drew ?_ | refine blk_alloc ?_ _)); exact BK267.out) hb); have n1_ := Aside0.mk (below_step (by repeat (first | (with_reducible first | exact HB.out | apply below_alloc | apply pw_below_drewN | apply below_drew1 | refine below_set ?_ GE267.out) | exact HB.out)) hb); have n2_ := Aside0.mk (hbox); have n3_ := Aside0.mk ((by rw [hg]; exact (below_size (by repeat (first | (with_reducible first | exact HB.out | apply below_alloc | apply pw_below_drewN | apply below_drew1 | refine below_set ?_ GE267.out) | exact HB.out))) : w.heap.size ≤ gb271)); have n4_ := Aside0.mk ((by rw [hg]; exact (below_size (by repeat (first | (with_reducible first | exact HB.out | apply below_alloc | apply pw_below_drewN | apply below_drew1 | refine below_set ?_ GE267.out) | exact HB.out))) : w.heap.size ≤ gb271)); have n5_ := Aside0.mk ((by rw [hg]; exact Nat.ne_of_lt (blk_lt (g := gb267) (o := .cells #[.int .i64 a0_0, .int .i64 a0_1, .int .i64 a0_2, .int .i64 a0_3] 26 (0, 0)) (by (with_reducible repeat (first | refine blk_drewN ?_ _ | refine blk_drew ?_ | refine blk_alloc ?_ _)); exact BK267.out)) : gb267 ≠ gb271)); have n6_ := Aside0.mk ((by rw [hg]; exact Nat.ne_of_gt (blk_lt (g := gb267) (o := .cells #[.int .i64 a0_0, .int .i64 a0_1, .int .i64 a0_2, .int .i64 a0_3] 26 (0, 0)) (by (with_reducible repeat (first | refine blk_drewN ?_ _ | refine blk_drew ?_ | refine blk_alloc ?_ _)); exact BK267.out)) : gb271 ≠ gb267)); clear BK267; clear HB; have BK267 := n0_; have HB := n1_; have BK271 := n2_; have GW271 := n3_; have GE271 := n4_; have NB267_271 := n5_; have NB271_267 := n6_; clear n0_ n1_ n2_ n3_ n4_ n5_ n6_; clear hb hbox hg; have hnb24 := NB271_267.out; have hnc24 := NB267_271.out; have hcz25_0 : w23.cell? ⟨gb271, 0, none⟩ = some (.bool false) := (blk_cell BK271.out 0).trans rfl; have hcz25_1 : w23.cell? ⟨gb271, 1, none⟩ = some (.bool false) := (blk_cell BK271.out 1).trans rfl; have hcz25_2 : w23.cell? ⟨gb271, 2, none⟩ = some (.bool false) := (blk_cell BK271.out 2).trans rfl; have hfz25_0 := blk_frozen BK271.out 0; have hfz25_1 := blk_frozen BK271.out 1; have hfz25_2 := blk_frozen BK271.out 2; have hcz26_0 : w23.cell? ⟨gb267, 0, none⟩ = some (.int .i64 a0_0) := (blk_cell BK267.out 0).trans rfl; have hcz26_1 : w23.cell? ⟨gb267, 1, none⟩ = some (.int .i64 a0_1) := (blk_cell BK267.out 1).trans rfl; have hcz26_2 : w23.cell? ⟨gb267, 2, none⟩ = some (.int .i64 a0_2) := (blk_cell BK267.out 2).trans rfl; have hcz26_3 : w23.cell? ⟨gb267, 3, none⟩ = some (.int .i64 a0_3) := (blk_cell BK267.out 3).trans rfl; have hfz26_0 := blk_frozen BK267.out 0; have hfz26_1 := blk_frozen BK267.out 1; have hfz26_2 := blk_frozen BK267.out 2; have hfz26_3 := blk_frozen BK267.out 3) | ((with_reducible refine gate_dst (N := 16) rfl ?_); refine Kd.R_lit (Kd.int .i64) _ 2 ?hg (N := 16) ?hd (xs := ([a0_1] : List Int)) (inner := [.int .i64 a0_1]) (ok := fun _ => True) (okp := fun _ => True) ?hr ?hp (fun _ hk => hk) trivial (Below.refl _ _) (Nat.le_refl _) (by simp) ?_; (case hd => rfl); (case hg => rfl); (case hr => first | (go_simp; done) | (go_simp; rfl)); (case hp => exact (Reps.one (show Kd.M (Kd.int .i64) _ _ _ a0_1 [.int .i64 a0_1] from rfl) (Reps.none _ _))); intro v276 w27 ho28 hb hg_ hnew_; clear hg_ hnew_; (first | rw [← Ny275.out] at ho28 | (simp only [Int.reduceToNat] at ho28; rw [← Ny275.out] at ho28)); have n0_ := Aside0.mk (Kd.R_lower ho28 (below_size (by repeat (first | (with_reducible first | exact HB.out | apply below_alloc | apply pw_below_drewN | apply below_drew1 | refine below_set ?_ GE267.out | refine below_set ?_ GE271.out) | exact HB.out)))); have n1_ := Aside0.mk (blk_below (g := gb267) (o := .cells #[.int .i64 a0_0, .int .i64 a0_1, .int .i64 a0_2, .int .i64 a0_3] 26 (0, 0)) (by (with_reducible repeat (first | refine blk_drewN ?_ _ | refine blk_drew ?_ | refine blk_alloc ?_ _)); refine blk_far ?_ NB267_271.out _; (with_reducible repeat (first | refine blk_drewN ?_ _ | refine blk_drew ?_ | refine blk_alloc ?_ _)); refine blk_far ?_ NB267_271.out _; (with_reducible repeat (first | refine blk_drewN ?_ _ | refine blk_drew ?_ | refine blk_alloc ?_ _)); refine blk_far ?_ NB267_271.out _; (with_reducible repeat (first | refine blk_drewN ?_ _ | refine blk_drew ?_ | refine blk_alloc ?_ _)); exact BK267.out) hb); have n2_ := Aside0.mk (blk_below (g := gb271) (o := .cells #[.bool t268, .bool false, .bool false] 116 (0, 0)) (by (with_reducible repeat (first | refine blk_drewN ?_ _ | refine blk_drew ?_ | refine blk_alloc ?_ _)); refine blk_put (cs := #[.bool t268, .bool false, .bool false]) ?_ 2 _ rfl; (with_reducible repeat (first | refine blk_drewN ?_ _ | refine blk_drew ?_ | refine blk_alloc ?_ _)); refine blk_put (cs := #[.bool t268, .bool false, .bool false]) ?_ 1 _ rfl; (with_reducible repeat (first | refine blk_drewN ?_ _ | refine blk_drew ?_ | refine blk_alloc ?_ _)); refine blk_put (cs := #[.bool false, .bool false, .bool false]) ?_ 0 _ rfl; (with_reducible repeat (first | refine blk_drewN ?_ _ | refine blk_drew ?_ | refine blk_alloc ?_ _)); exact BK271.out) hb); have n3_ := Aside0.mk (below_step (by repeat (first | (with_reducible first | exact HB.out | apply below_alloc | apply pw_below_drewN | apply below_drew1 | refine below_set ?_ GE267.out | refine below_set ?_ GE271.out) | exact HB.out)) hb); clear BK267; clear BK271; clear HB; have HO277 := n0_; have BK267 := n1_; have BK271 := n2_; have HB := n3_; clear n0_ n1_ n2_ n3_; clear hb ho28))
   go_ret
   exact ⟨_, by first | rfl | (simp [errW_none, errW_some] <;> rfl) | (simp [*, errW_none, errW_some] <;> rfl), by (with_reducible repeat (first | apply Kd.R_alloc | apply Kd.R_drewN | apply Kd.R_drew)); exact HO277.out, by repeat (first | (with_reducible first | exact HB.out | apply below_alloc | apply pw_below_drewN | apply below_drew1 | refine below_set ?_ GE267.out | refine below_set ?_ GE271.out) | exact HB.out)⟩
end Go.Proofs.Ytomaeijhljpgdaa.G
namespace Go.Proofs.Ytomaeijhljpgdaa.G
open Go.RowKit Go.Proofs.YtomaeijhljpgdaaW.PrintWords Go.Proofs.YtomaeijhljpgdaaW.PrintLast Go.Proofs.YtomaeijhljpgdaaW.PrintMore
attribute [local go_sem] max2_int min2_int max_two min_two max_three min_three max_four min_four   -- for this text's walks alone
set_option linter.unusedVariables false
set_option linter.unusedSimpArgs false
theorem impl_in_eq (a b c : Int) : impl_in.f a b c = some (decide (b ≤ a ∧ a ≤ c)) := by
  unfold impl_in.f; split
  · congr 1; simp; omega
  · congr 1; simp; omega
set_option maxHeartbeats 4000000 in
set_option maxRecDepth 100000 in
theorem impl_isPlace.calls (A0 : Option Addr) (n c0 : Nat) (x : Int) (hn : n ≤ 9223372036854775807) (w : World) :
    Calls Try.prog 88 #[.slice A0 n c0, .int .i64 x] w fun e w' => e = .returned (.bool (decide (0 ≤ x ∧ x ≤ (n : Int) - 1))) ∧ Below w.heap.size w w' := by
  have HI := Aside0.mk (impl_in_eq x 0 ((n : Int) - 1))
  obtain ⟨r, hr⟩ : ∃ r, r = decide (0 ≤ x ∧ x ≤ (n : Int) - 1) := ⟨_, rfl⟩
  rw [← hr] at HI ⊢
  clear hr
  have e1 : wrap64 ((n : Int) - 1) = (n : Int) - 1 := by unfold wrap64; omega
  go_enter Try.func88, Try.ntmps88
  go_wp2_with (go_at_call 64; refine (impl_in.calls _ _ _ _ _ HI.out).mono ?_; rintro e w' ⟨rfl, ⟨nd, rfl⟩⟩)
  go_ret
  exact ⟨rfl, pw_below_drewN (Below.refl _ _) _⟩
set_option maxHeartbeats 4000000 in
set_option maxRecDepth 100000 in
theorem impl_fault_1.calls (A0 : Option Addr) (n c0 B : Nat) (x : Int) (hn : n ≤ 9223372036854775807) (W : World) (hc : W.cell? ⟨B, 0, none⟩ = some (.slice A0 n c0)) :
    Calls Try.prog 87 (#[.int .i64 x] ++ #[.pointer (some ⟨B, 0, none⟩)]) W fun e w' => e = .returned (.bool (!decide (0 ≤ x ∧ x ≤ (n : Int) - 1))) ∧ Below W.heap.size W w' := by
  have hC := fun W' => impl_isPlace.calls A0 n c0 x hn W'
  generalize decide (0 ≤ x ∧ x ≤ (n : Int) - 1) = r at hC ⊢
  go_enter Try.func87, Try.ntmps87
  go_wp2_with (go_at_call 88; refine (hC _).mono ?_; rintro e w' ⟨rfl, hb⟩)
  go_ret
  exact ⟨rfl, hb⟩
set_option maxHeartbeats 4000000 in
set_option maxRecDepth 100000 in
theorem impl_fault_2.calls (A0 : Option Addr) (l : List (S26)) (c0 B : Nat) (x : Int) (W : World) (hc : W.cell? ⟨B, 0, none⟩ = some (.slice A0 l.length c0)) (hr : Kd.C k26 W A0 l.length l) (h0 : 0 ≤ x) (h1 : x < (l.length : Int)) :
    Calls Try.prog 89 (#[.int .i64 x] ++ #[.pointer (some ⟨B, 0, none⟩)]) W fun e w' => e = .returned (.bool ((rd_T26 l x).f0 != 2)) ∧ Below W.heap.size W w' := by
  obtain ⟨ad, e, hx0, _⟩ := at_T26 hr x h0 h1
  clear hr
  subst e
  generalize (rd_T26 l x).f0 = y at hx0 ⊢
  obtain ⟨i, rfl⟩ := Int.eq_ofNat_of_zero_le h0
  rw [Int.toNat_natCast] at hx0
  have hlt : i < l.length := by omega
  go_enter Try.func89, Try.ntmps89
  go_wp2
  go_ret
  exact ⟨rfl, Below.refl _ _⟩
theorem fault_in (l1 : List S26) (ps : List Int) (hp : ps.any (fun x => !decide (0 ≤ x ∧ x ≤ (l1.length : Int) - 1)) = false) : ∀ x ∈ ps, 0 ≤ x ∧ x < (l1.length : Int) := by
  intro x hx
  have := List.any_eq_false.1 hp x hx
  simp at this
  omega
set_option maxHeartbeats 4000000 in
set_option maxRecDepth 100000 in
theorem fault_text (a0_0 a0_1 a0_2 a0_3 : Int) (A1 : Option Addr) (c1 : Nat) (l1 : List S26) (w : World) (hr1 : Kd.C k26 w A1 l1.length l1) (hl : l1.length ≤ 9223372036854775807) (hop : ¬ (1 ≤ a0_0 ∧ a0_0 ≤ 7)) :
    Calls Try.prog 53 #[.agg #[.int .i64 a0_0, .int .i64 a0_1, .int .i64 a0_2, .int .i64 a0_3], .slice A1 l1.length c1] w fun e w' => e = .returned (.int .i64 5) ∧ Below w.heap.size w w' := by
  have hmf : ∀ (fn : Fn) (first cap : Array Value) (w : World), (Instr.makeFunc fn first cap).run Try.prog w = .ok (.func fn first cap) w := fun _ _ _ _ => rfl
  have HB := Aside0.mk (Below.refl w.heap.size w)
  have HR := Aside0.mk hr1
  have HL := Aside0.mk hl
  clear hr1 hl
  have HI := Aside0.mk (show impl_in.f a0_0 1 7 = some false by rw [impl_in_eq, decide_eq_false hop])
  clear hop
  go_enter Try.func53, Try.ntmps53
  go_wp2_with (first
    | ((with_reducible refine gate_dst (N := 2) rfl ?_); refine box_event ?hg (N := 2) ?hd (cs := #[.int .i64 a0_0, .int .i64 a0_1, .int .i64 a0_2, .int .i64 a0_3]) (t := 26) ?hr ?_; (case hd => rfl); (case hg => rfl); (case hr => first | (go_simp; done) | (go_simp; rfl)); intro g2 hg w2 hbox hb; have n0_ := Aside0.mk (below_step HB.out hb); have n1_ := Aside0.mk hbox; clear HB; have HB := n0_; have BK2 := n1_; clear n0_ n1_ hb hbox hg)
    | ((with_reducible refine gate_dst (N := 3) rfl ?_); refine box_event ?hg (N := 3) ?hd (cs := #[.slice A1 l1.length c1]) (t := 24) ?hr ?_; (case hd => rfl); (case hg => rfl); (case hr => first | (go_simp; done) | (go_simp; rfl)); intro g3 hg w3 hbox hb; have n0_ := Aside0.mk (below_step HB.out hb); have n1_ := Aside0.mk (blk_below BK2.out hb); have n2_ := Aside0.mk hbox; clear HB BK2; have HB := n0_; have BK2 := n1_; have BK3 := n2_; clear n0_ n1_ n2_ hb hbox hg; have q0_ : w3.cell? ⟨g2, 0, none⟩ = some (.int .i64 a0_0) := (blk_cell BK2.out 0).trans rfl; have q1_ : w3.cell? ⟨g2, 1, none⟩ = some (.int .i64 a0_1) := (blk_cell BK2.out 1).trans rfl; have q2_ : w3.cell? ⟨g2, 2, none⟩ = some (.int .i64 a0_2) := (blk_cell BK2.out 2).trans rfl; have q3_ : w3.cell? ⟨g2, 3, none⟩ = some (.int .i64 a0_3) := (blk_cell BK2.out 3).trans rfl)
    | (go_at_call 64; with_reducible refine (impl_in.calls a0_0 1 7 _ _ HI.out).mono ?_; rintro e w4 ⟨rfl, hd⟩; have hb := hd.below; clear hd; have n0_ := Aside0.mk (below_step HB.out hb); have n1_ := Aside0.mk (blk_below BK2.out hb); have n2_ := Aside0.mk (blk_below BK3.out hb); clear HB BK2 BK3 hb; have HB := n0_; have BK2 := n1_; have BK3 := n2_; clear n0_ n1_ n2_; clear q0_ q1_ q2_ q3_; have q0_ : w4.cell? ⟨g2, 0, none⟩ = some (.int .i64 a0_0) := (blk_cell BK2.out 0).trans rfl; have q1_ : w4.cell? ⟨g2, 1, none⟩ = some (.int .i64 a0_1) := (blk_cell BK2.out 1).trans rfl; have q2_ : w4.cell? ⟨g2, 2, none⟩ = some (.int .i64 a0_2) := (blk_cell BK2.out 2).trans rfl; have q3_ : w4.cell? ⟨g2, 3, none⟩ = some (.int .i64 a0_3) := (blk_cell BK2.out 3).trans rfl))
  go_ret
  exact ⟨rfl, HB.out⟩
set_option maxHeartbeats 4000000 in
set_option maxRecDepth 100000 in
theorem fault_n_a (a0_0 a0_1 a0_2 a0_3 : Int) (A1 : Option Addr) (c1 : Nat) (l1 : List S26) (w : World) (hr1 : Kd.C k26 w A1 l1.length l1) (hl : l1.length ≤ 9223372036854775807) (hI : impl_in.f a0_0 1 7 = some true) (hN : impl_namesOf.f 1 a0_0 = some (false, false, true)) (h : ¬ a0_1 = 0) :
    Calls Try.prog 53 #[.agg #[.int .i64 a0_0, .int .i64 a0_1, .int .i64 a0_2, .int .i64 a0_3], .slice A1 l1.length c1] w fun e w' => e = .returned (.int .i64 1) ∧ Below w.heap.size w w' := by
  have hmf : ∀ (fn : Fn) (first cap : Array Value) (w : World), (Instr.makeFunc fn first cap).run Try.prog w = .ok (.func fn first cap) w := fun _ _ _ _ => rfl
  have HB := Aside0.mk (Below.refl w.heap.size w)
  have HR := Aside0.mk hr1
  have HL := Aside0.mk hl
  clear hr1 hl
  have h0 : (a0_1 == 0) = false := by simpa using h
  have h1 : (a0_1 != 0) = true := by simpa using h
  have h2 : decide (a0_1 = 0) = false := decide_eq_false h
  clear h
  have HI := Aside0.mk hI
  have HN := Aside0.mk hN
  clear hI hN
  go_enter Try.func53, Try.ntmps53
  go_wp2_with (first
    | ((with_reducible refine gate_dst (N := 2) rfl ?_); refine box_event ?hg (N := 2) ?hd (cs := #[.int .i64 a0_0, .int .i64 a0_1, .int .i64 a0_2, .int .i64 a0_3]) (t := 26) ?hr ?_; (case hd => rfl); (case hg => rfl); (case hr => first | (go_simp; done) | (go_simp; rfl)); intro g2 hg w2 hbox hb; have n0_ := Aside0.mk (below_step HB.out hb); have n1_ := Aside0.mk hbox; clear HB; have HB := n0_; have BK2 := n1_; clear n0_ n1_ hb hbox hg)
    | ((with_reducible refine gate_dst (N := 3) rfl ?_); refine box_event ?hg (N := 3) ?hd (cs := #[.slice A1 l1.length c1]) (t := 24) ?hr ?_; (case hd => rfl); (case hg => rfl); (case hr => first | (go_simp; done) | (go_simp; rfl)); intro g3 hg w3 hbox hb; have n0_ := Aside0.mk (below_step HB.out hb); have n1_ := Aside0.mk (blk_below BK2.out hb); have n2_ := Aside0.mk hbox; clear HB BK2; have HB := n0_; have BK2 := n1_; have BK3 := n2_; clear n0_ n1_ n2_ hb hbox hg; have q0_ : w3.cell? ⟨g2, 0, none⟩ = some (.int .i64 a0_0) := (blk_cell BK2.out 0).trans rfl; have q1_ : w3.cell? ⟨g2, 1, none⟩ = some (.int .i64 a0_1) := (blk_cell BK2.out 1).trans rfl; have q2_ : w3.cell? ⟨g2, 2, none⟩ = some (.int .i64 a0_2) := (blk_cell BK2.out 2).trans rfl; have q3_ : w3.cell? ⟨g2, 3, none⟩ = some (.int .i64 a0_3) := (blk_cell BK2.out 3).trans rfl)
    | (go_at_call 64; with_reducible refine (impl_in.calls a0_0 1 7 _ _ HI.out).mono ?_; rintro e w4 ⟨rfl, hd⟩; have hb := hd.below; clear hd; have n0_ := Aside0.mk (below_step HB.out hb); have n1_ := Aside0.mk (blk_below BK2.out hb); have n2_ := Aside0.mk (blk_below BK3.out hb); clear HB BK2 BK3 hb; have HB := n0_; have BK2 := n1_; have BK3 := n2_; clear n0_ n1_ n2_; clear q0_ q1_ q2_ q3_; have q0_ : w4.cell? ⟨g2, 0, none⟩ = some (.int .i64 a0_0) := (blk_cell BK2.out 0).trans rfl; have q1_ : w4.cell? ⟨g2, 1, none⟩ = some (.int .i64 a0_1) := (blk_cell BK2.out 1).trans rfl; have q2_ : w4.cell? ⟨g2, 2, none⟩ = some (.int .i64 a0_2) := (blk_cell BK2.out 2).trans rfl; have q3_ : w4.cell? ⟨g2, 3, none⟩ = some (.int .i64 a0_3) := (blk_cell BK2.out 3).trans rfl)
    | (go_at_call 84; with_reducible refine (impl_namesOf.calls 1 a0_0 false false true _ HN.out).mono ?_; rintro e w5 ⟨rfl, hb⟩; have n0_ := Aside0.mk (below_step HB.out hb); have n1_ := Aside0.mk (blk_below BK2.out hb); have n2_ := Aside0.mk (blk_below BK3.out hb); clear HB BK2 BK3 hb; have HB := n0_; have BK2 := n1_; have BK3 := n2_; clear n0_ n1_ n2_; clear q0_ q1_ q2_ q3_)
    | ((with_reducible refine gate_dst (N := 5) rfl ?_); refine box_event ?hg (N := 5) ?hd (cs := #[.bool false, .bool false, .bool false]) (t := 116) ?hr ?_; (case hd => rfl); (case hg => rfl); (case hr => first | (go_simp; done) | (go_simp; rfl)); intro g5 hg w6 hbox hb; have n0_ := Aside0.mk (below_step HB.out hb); have n1_ := Aside0.mk (blk_below BK2.out hb); have n2_ := Aside0.mk (blk_below BK3.out hb); have n3_ := Aside0.mk hbox; have n4_ := Aside0.mk (show w.heap.size ≤ g5 by rw [hg]; exact below_size HB.out); have n5_ := Aside0.mk (show g2 ≠ g5 by rw [hg]; exact Nat.ne_of_lt (blk_lt BK2.out)); have n6_ := Aside0.mk (show g3 ≠ g5 by rw [hg]; exact Nat.ne_of_lt (blk_lt BK3.out)); clear HB BK2 BK3; have HB := n0_; have BK2 := n1_; have BK3 := n2_; have BK5 := n3_; have GE5 := n4_; have NB25 := n5_; have NB35 := n6_; clear n0_ n1_ n2_ n3_ n4_ n5_ n6_ hb hbox hg; have hnb_ := NB25.out; have hnc_ := NB25.out.symm; have q0_ : w6.cell? ⟨g2, 0, none⟩ = some (.int .i64 a0_0) := (blk_cell BK2.out 0).trans rfl; have q1_ : w6.cell? ⟨g2, 1, none⟩ = some (.int .i64 a0_1) := (blk_cell BK2.out 1).trans rfl; have q2_ : w6.cell? ⟨g2, 2, none⟩ = some (.int .i64 a0_2) := (blk_cell BK2.out 2).trans rfl; have q3_ : w6.cell? ⟨g2, 3, none⟩ = some (.int .i64 a0_3) := (blk_cell BK2.out 3).trans rfl; have p0_ : w6.cell? ⟨g5, 0, none⟩ = some (.bool false) := (blk_cell BK5.out 0).trans rfl; have p1_ : w6.cell? ⟨g5, 1, none⟩ = some (.bool false) := (blk_cell BK5.out 1).trans rfl; have p2_ : w6.cell? ⟨g5, 2, none⟩ = some (.bool false) := (blk_cell BK5.out 2).trans rfl; have f0_ := blk_frozen BK5.out 0; have f1_ := blk_frozen BK5.out 1; have f2_ := blk_frozen BK5.out 2))
  go_ret
  exact ⟨rfl, (by repeat (first | exact HB.out | refine below_set ?_ GE5.out))⟩
set_option maxHeartbeats 4000000 in
set_option maxRecDepth 100000 in
theorem fault_n_b (a0_0 a0_2 a0_3 : Int) (A1 : Option Addr) (c1 : Nat) (l1 : List S26) (w : World) (hr1 : Kd.C k26 w A1 l1.length l1) (hl : l1.length ≤ 9223372036854775807) (hI : impl_in.f a0_0 1 7 = some true) (hN : impl_namesOf.f 1 a0_0 = some (false, false, true)) (h : ¬ a0_2 = 0) :
    Calls Try.prog 53 #[.agg #[.int .i64 a0_0, .int .i64 0, .int .i64 a0_2, .int .i64 a0_3], .slice A1 l1.length c1] w fun e w' => e = .returned (.int .i64 1) ∧ Below w.heap.size w w' := by
  have hmf : ∀ (fn : Fn) (first cap : Array Value) (w : World), (Instr.makeFunc fn first cap).run Try.prog w = .ok (.func fn first cap) w := fun _ _ _ _ => rfl
  have HB := Aside0.mk (Below.refl w.heap.size w)
  have HR := Aside0.mk hr1
  have HL := Aside0.mk hl
  clear hr1 hl
  have h0 : (a0_2 == 0) = false := by simpa using h
  have h1 : (a0_2 != 0) = true := by simpa using h
  have h2 : decide (a0_2 = 0) = false := decide_eq_false h
  clear h
  have HI := Aside0.mk hI
  have HN := Aside0.mk hN
  clear hI hN
  go_enter Try.func53, Try.ntmps53
  go_wp2_with (first
    | ((with_reducible refine gate_dst (N := 2) rfl ?_); refine box_event ?hg (N := 2) ?hd (cs := #[.int .i64 a0_0, .int .i64 0, .int .i64 a0_2, .int .i64 a0_3]) (t := 26) ?hr ?_; (case hd => rfl); (case hg => rfl); (case hr => first | (go_simp; done) | (go_simp; rfl)); intro g2 hg w2 hbox hb; have n0_ := Aside0.mk (below_step HB.out hb); have n1_ := Aside0.mk hbox; clear HB; have HB := n0_; have BK2 := n1_; clear n0_ n1_ hb hbox hg)
    | ((with_reducible refine gate_dst (N := 3) rfl ?_); refine box_event ?hg (N := 3) ?hd (cs := #[.slice A1 l1.length c1]) (t := 24) ?hr ?_; (case hd => rfl); (case hg => rfl); (case hr => first | (go_simp; done) | (go_simp; rfl)); intro g3 hg w3 hbox hb; have n0_ := Aside0.mk (below_step HB.out hb); have n1_ := Aside0.mk (blk_below BK2.out hb); have n2_ := Aside0.mk hbox; clear HB BK2; have HB := n0_; have BK2 := n1_; have BK3 := n2_; clear n0_ n1_ n2_ hb hbox hg; have q0_ : w3.cell? ⟨g2, 0, none⟩ = some (.int .i64 a0_0) := (blk_cell BK2.out 0).trans rfl; have q1_ : w3.cell? ⟨g2, 1, none⟩ = some (.int .i64 0) := (blk_cell BK2.out 1).trans rfl; have q2_ : w3.cell? ⟨g2, 2, none⟩ = some (.int .i64 a0_2) := (blk_cell BK2.out 2).trans rfl; have q3_ : w3.cell? ⟨g2, 3, none⟩ = some (.int .i64 a0_3) := (blk_cell BK2.out 3).trans rfl)
    | (go_at_call 64; with_reducible refine (impl_in.calls a0_0 1 7 _ _ HI.out).mono ?_; rintro e w4 ⟨rfl, hd⟩; have hb := hd.below; clear hd; have n0_ := Aside0.mk (below_step HB.out hb); have n1_ := Aside0.mk (blk_below BK2.out hb); have n2_ := Aside0.mk (blk_below BK3.out hb); clear HB BK2 BK3 hb; have HB := n0_; have BK2 := n1_; have BK3 := n2_; clear n0_ n1_ n2_; clear q0_ q1_ q2_ q3_; have q0_ : w4.cell? ⟨g2, 0, none⟩ = some (.int .i64 a0_0) := (blk_cell BK2.out 0).trans rfl; have q1_ : w4.cell? ⟨g2, 1, none⟩ = some (.int .i64 0) := (blk_cell BK2.out 1).trans rfl; have q2_ : w4.cell? ⟨g2, 2, none⟩ = some (.int .i64 a0_2) := (blk_cell BK2.out 2).trans rfl; have q3_ : w4.cell? ⟨g2, 3, none⟩ = some (.int .i64 a0_3) := (blk_cell BK2.out 3).trans rfl)
    | (go_at_call 84; with_reducible refine (impl_namesOf.calls 1 a0_0 false false true _ HN.out).mono ?_; rintro e w5 ⟨rfl, hb⟩; have n0_ := Aside0.mk (below_step HB.out hb); have n1_ := Aside0.mk (blk_below BK2.out hb); have n2_ := Aside0.mk (blk_below BK3.out hb); clear HB BK2 BK3 hb; have HB := n0_; have BK2 := n1_; have BK3 := n2_; clear n0_ n1_ n2_; clear q0_ q1_ q2_ q3_)
    | ((with_reducible refine gate_dst (N := 5) rfl ?_); refine box_event ?hg (N := 5) ?hd (cs := #[.bool false, .bool false, .bool false]) (t := 116) ?hr ?_; (case hd => rfl); (case hg => rfl); (case hr => first | (go_simp; done) | (go_simp; rfl)); intro g5 hg w6 hbox hb; have n0_ := Aside0.mk (below_step HB.out hb); have n1_ := Aside0.mk (blk_below BK2.out hb); have n2_ := Aside0.mk (blk_below BK3.out hb); have n3_ := Aside0.mk hbox; have n4_ := Aside0.mk (show w.heap.size ≤ g5 by rw [hg]; exact below_size HB.out); have n5_ := Aside0.mk (show g2 ≠ g5 by rw [hg]; exact Nat.ne_of_lt (blk_lt BK2.out)); have n6_ := Aside0.mk (show g3 ≠ g5 by rw [hg]; exact Nat.ne_of_lt (blk_lt BK3.out)); clear HB BK2 BK3; have HB := n0_; have BK2 := n1_; have BK3 := n2_; have BK5 := n3_; have GE5 := n4_; have NB25 := n5_; have NB35 := n6_; clear n0_ n1_ n2_ n3_ n4_ n5_ n6_ hb hbox hg; have hnb_ := NB25.out; have hnc_ := NB25.out.symm; have q0_ : w6.cell? ⟨g2, 0, none⟩ = some (.int .i64 a0_0) := (blk_cell BK2.out 0).trans rfl; have q1_ : w6.cell? ⟨g2, 1, none⟩ = some (.int .i64 0) := (blk_cell BK2.out 1).trans rfl; have q2_ : w6.cell? ⟨g2, 2, none⟩ = some (.int .i64 a0_2) := (blk_cell BK2.out 2).trans rfl; have q3_ : w6.cell? ⟨g2, 3, none⟩ = some (.int .i64 a0_3) := (blk_cell BK2.out 3).trans rfl; have p0_ : w6.cell? ⟨g5, 0, none⟩ = some (.bool false) := (blk_cell BK5.out 0).trans rfl; have p1_ : w6.cell? ⟨g5, 1, none⟩ = some (.bool false) := (blk_cell BK5.out 1).trans rfl; have p2_ : w6.cell? ⟨g5, 2, none⟩ = some (.bool false) := (blk_cell BK5.out 2).trans rfl; have f0_ := blk_frozen BK5.out 0; have f1_ := blk_frozen BK5.out 1; have f2_ := blk_frozen BK5.out 2))
  go_ret
  exact ⟨rfl, (by repeat (first | exact HB.out | refine below_set ?_ GE5.out))⟩
set_option maxHeartbeats 4000000 in
set_option maxRecDepth 100000 in
theorem fault_n_n (a0_0 a0_3 : Int) (A1 : Option Addr) (c1 : Nat) (l1 : List S26) (w : World) (hr1 : Kd.C k26 w A1 l1.length l1) (hl : l1.length ≤ 9223372036854775807) (hI : impl_in.f a0_0 1 7 = some true) (hN : impl_namesOf.f 1 a0_0 = some (false, false, true)) (h : ¬ (0 ≤ a0_3 ∧ a0_3 ≤ 9999)) :
    Calls Try.prog 53 #[.agg #[.int .i64 a0_0, .int .i64 0, .int .i64 0, .int .i64 a0_3], .slice A1 l1.length c1] w fun e w' => e = .returned (.int .i64 3) ∧ Below w.heap.size w w' := by
  have hmf : ∀ (fn : Fn) (first cap : Array Value) (w : World), (Instr.makeFunc fn first cap).run Try.prog w = .ok (.func fn first cap) w := fun _ _ _ _ => rfl
  have HB := Aside0.mk (Below.refl w.heap.size w)
  have HR := Aside0.mk hr1
  have HL := Aside0.mk hl
  clear hr1 hl
  have HI := Aside0.mk hI
  have HN := Aside0.mk hN
  clear hI hN
  have HI2 := Aside0.mk (show impl_in.f a0_3 0 9999 = some false by rw [impl_in_eq]; rw [decide_eq_false h])
  clear h
  go_enter Try.func53, Try.ntmps53
  go_wp2_with (first
    | ((with_reducible refine gate_dst (N := 2) rfl ?_); refine box_event ?hg (N := 2) ?hd (cs := #[.int .i64 a0_0, .int .i64 0, .int .i64 0, .int .i64 a0_3]) (t := 26) ?hr ?_; (case hd => rfl); (case hg => rfl); (case hr => first | (go_simp; done) | (go_simp; rfl)); intro g2 hg w2 hbox hb; have n0_ := Aside0.mk (below_step HB.out hb); have n1_ := Aside0.mk hbox; clear HB; have HB := n0_; have BK2 := n1_; clear n0_ n1_ hb hbox hg)
    | ((with_reducible refine gate_dst (N := 3) rfl ?_); refine box_event ?hg (N := 3) ?hd (cs := #[.slice A1 l1.length c1]) (t := 24) ?hr ?_; (case hd => rfl); (case hg => rfl); (case hr => first | (go_simp; done) | (go_simp; rfl)); intro g3 hg w3 hbox hb; have n0_ := Aside0.mk (below_step HB.out hb); have n1_ := Aside0.mk (blk_below BK2.out hb); have n2_ := Aside0.mk hbox; clear HB BK2; have HB := n0_; have BK2 := n1_; have BK3 := n2_; clear n0_ n1_ n2_ hb hbox hg; have q0_ : w3.cell? ⟨g2, 0, none⟩ = some (.int .i64 a0_0) := (blk_cell BK2.out 0).trans rfl; have q1_ : w3.cell? ⟨g2, 1, none⟩ = some (.int .i64 0) := (blk_cell BK2.out 1).trans rfl; have q2_ : w3.cell? ⟨g2, 2, none⟩ = some (.int .i64 0) := (blk_cell BK2.out 2).trans rfl; have q3_ : w3.cell? ⟨g2, 3, none⟩ = some (.int .i64 a0_3) := (blk_cell BK2.out 3).trans rfl)
    | (go_at_call 64; with_reducible refine (impl_in.calls a0_0 1 7 _ _ HI.out).mono ?_; rintro e w4 ⟨rfl, hd⟩; have hb := hd.below; clear hd; have n0_ := Aside0.mk (below_step HB.out hb); have n1_ := Aside0.mk (blk_below BK2.out hb); have n2_ := Aside0.mk (blk_below BK3.out hb); clear HB BK2 BK3 hb; have HB := n0_; have BK2 := n1_; have BK3 := n2_; clear n0_ n1_ n2_; clear q0_ q1_ q2_ q3_; have q0_ : w4.cell? ⟨g2, 0, none⟩ = some (.int .i64 a0_0) := (blk_cell BK2.out 0).trans rfl; have q1_ : w4.cell? ⟨g2, 1, none⟩ = some (.int .i64 0) := (blk_cell BK2.out 1).trans rfl; have q2_ : w4.cell? ⟨g2, 2, none⟩ = some (.int .i64 0) := (blk_cell BK2.out 2).trans rfl; have q3_ : w4.cell? ⟨g2, 3, none⟩ = some (.int .i64 a0_3) := (blk_cell BK2.out 3).trans rfl)
    | (go_at_call 84; with_reducible refine (impl_namesOf.calls 1 a0_0 false false true _ HN.out).mono ?_; rintro e w5 ⟨rfl, hb⟩; have n0_ := Aside0.mk (below_step HB.out hb); have n1_ := Aside0.mk (blk_below BK2.out hb); have n2_ := Aside0.mk (blk_below BK3.out hb); clear HB BK2 BK3 hb; have HB := n0_; have BK2 := n1_; have BK3 := n2_; clear n0_ n1_ n2_; clear q0_ q1_ q2_ q3_)
    | ((with_reducible refine gate_dst (N := 5) rfl ?_); refine box_event ?hg (N := 5) ?hd (cs := #[.bool false, .bool false, .bool false]) (t := 116) ?hr ?_; (case hd => rfl); (case hg => rfl); (case hr => first | (go_simp; done) | (go_simp; rfl)); intro g5 hg w6 hbox hb; have n0_ := Aside0.mk (below_step HB.out hb); have n1_ := Aside0.mk (blk_below BK2.out hb); have n2_ := Aside0.mk (blk_below BK3.out hb); have n3_ := Aside0.mk hbox; have n4_ := Aside0.mk (show w.heap.size ≤ g5 by rw [hg]; exact below_size HB.out); have n5_ := Aside0.mk (show g2 ≠ g5 by rw [hg]; exact Nat.ne_of_lt (blk_lt BK2.out)); have n6_ := Aside0.mk (show g3 ≠ g5 by rw [hg]; exact Nat.ne_of_lt (blk_lt BK3.out)); clear HB BK2 BK3; have HB := n0_; have BK2 := n1_; have BK3 := n2_; have BK5 := n3_; have GE5 := n4_; have NB25 := n5_; have NB35 := n6_; clear n0_ n1_ n2_ n3_ n4_ n5_ n6_ hb hbox hg; have hnb_ := NB25.out; have hnc_ := NB25.out.symm; have q0_ : w6.cell? ⟨g2, 0, none⟩ = some (.int .i64 a0_0) := (blk_cell BK2.out 0).trans rfl; have q1_ : w6.cell? ⟨g2, 1, none⟩ = some (.int .i64 0) := (blk_cell BK2.out 1).trans rfl; have q2_ : w6.cell? ⟨g2, 2, none⟩ = some (.int .i64 0) := (blk_cell BK2.out 2).trans rfl; have q3_ : w6.cell? ⟨g2, 3, none⟩ = some (.int .i64 a0_3) := (blk_cell BK2.out 3).trans rfl; have p0_ : w6.cell? ⟨g5, 0, none⟩ = some (.bool false) := (blk_cell BK5.out 0).trans rfl; have p1_ : w6.cell? ⟨g5, 1, none⟩ = some (.bool false) := (blk_cell BK5.out 1).trans rfl; have p2_ : w6.cell? ⟨g5, 2, none⟩ = some (.bool false) := (blk_cell BK5.out 2).trans rfl; have f0_ := blk_frozen BK5.out 0; have f1_ := blk_frozen BK5.out 1; have f2_ := blk_frozen BK5.out 2)
    | (go_at_call 64; with_reducible refine (impl_in.calls a0_3 0 9999 _ _ HI2.out).mono ?_; rintro e w7 ⟨rfl, hd⟩; have hb := hd.below; clear hd; have n0_ := Aside0.mk (below_step (by repeat (first | exact HB.out | refine below_set ?_ GE5.out)) hb); have n1_ := Aside0.mk (blk_below (o := .cells #[.int .i64 a0_0, .int .i64 0, .int .i64 0, .int .i64 a0_3] 26 (0, 0)) (by repeat (first | exact BK2.out | refine blk_far ?_ NB25.out _)) hb); have n2_ := Aside0.mk (blk_below (o := .cells #[.slice A1 l1.length c1] 24 (0, 0)) (by repeat (first | exact BK3.out | refine blk_far ?_ NB35.out _)) hb); clear HB BK2 BK3 hb; have HB := n0_; have BK2 := n1_; have BK3 := n2_; clear n0_ n1_ n2_; (try clear q0_ q1_ q2_ q3_); have q0_ : w7.cell? ⟨g2, 0, none⟩ = some (.int .i64 a0_0) := (blk_cell BK2.out 0).trans rfl; have q1_ : w7.cell? ⟨g2, 1, none⟩ = some (.int .i64 0) := (blk_cell BK2.out 1).trans rfl; have q2_ : w7.cell? ⟨g2, 2, none⟩ = some (.int .i64 0) := (blk_cell BK2.out 2).trans rfl; have q3_ : w7.cell? ⟨g2, 3, none⟩ = some (.int .i64 a0_3) := (blk_cell BK2.out 3).trans rfl))
  go_ret
  exact ⟨rfl, (by repeat (first | exact HB.out | refine below_set ?_ GE5.out))⟩
set_option maxHeartbeats 4000000 in
set_option maxRecDepth 100000 in
theorem fault_n_ok (a0_0 a0_3 : Int) (A1 : Option Addr) (c1 : Nat) (l1 : List S26) (w : World) (hr1 : Kd.C k26 w A1 l1.length l1) (hl : l1.length ≤ 9223372036854775807) (hI : impl_in.f a0_0 1 7 = some true) (hN : impl_namesOf.f 1 a0_0 = some (false, false, true)) (h6 : ¬ a0_0 = 6) (h7 : ¬ a0_0 = 7) (hP : impl_Term_parts.f 1 a0_0 0 0 a0_3 = some ([] : List Int)) (h : 0 ≤ a0_3 ∧ a0_3 ≤ 9999) :
    Calls Try.prog 53 #[.agg #[.int .i64 a0_0, .int .i64 0, .int .i64 0, .int .i64 a0_3], .slice A1 l1.length c1] w fun e w' => e = .returned (.int .i64 0) ∧ Below w.heap.size w w' := by
  have hmf : ∀ (fn : Fn) (first cap : Array Value) (w : World), (Instr.makeFunc fn first cap).run Try.prog w = .ok (.func fn first cap) w := fun _ _ _ _ => rfl
  have HB := Aside0.mk (Below.refl w.heap.size w)
  have HR := Aside0.mk hr1
  have HL := Aside0.mk hl
  clear hr1 hl
  have HI := Aside0.mk hI
  have HN := Aside0.mk hN
  clear hI hN
  have h60 : (a0_0 == 6) = false := by simpa using h6
  have h61 : (a0_0 != 6) = true := by simpa using h6
  have h62 : decide (a0_0 = 6) = false := decide_eq_false h6
  have h70 : (a0_0 == 7) = false := by simpa using h7
  have h71 : (a0_0 != 7) = true := by simpa using h7
  have h72 : decide (a0_0 = 7) = false := decide_eq_false h7
  clear h6 h7
  have HI2 := Aside0.mk (show impl_in.f a0_3 0 9999 = some true by rw [impl_in_eq]; rw [decide_eq_true h])
  clear h
  have HP := Aside0.mk hP
  clear hP
  have HANY := Aside0.mk (show ([] : List Int).any (fun x => !decide (0 ≤ x ∧ x ≤ (l1.length : Int) - 1)) = false from rfl)
  go_enter Try.func53, Try.ntmps53
  go_wp2_with (first
    | ((with_reducible refine gate_dst (N := 2) rfl ?_); refine box_event ?hg (N := 2) ?hd (cs := #[.int .i64 a0_0, .int .i64 0, .int .i64 0, .int .i64 a0_3]) (t := 26) ?hr ?_; (case hd => rfl); (case hg => rfl); (case hr => first | (go_simp; done) | (go_simp; rfl)); intro g2 hg w2 hbox hb; have n0_ := Aside0.mk (below_step HB.out hb); have n1_ := Aside0.mk hbox; clear HB; have HB := n0_; have BK2 := n1_; clear n0_ n1_ hb hbox hg)
    | ((with_reducible refine gate_dst (N := 3) rfl ?_); refine box_event ?hg (N := 3) ?hd (cs := #[.slice A1 l1.length c1]) (t := 24) ?hr ?_; (case hd => rfl); (case hg => rfl); (case hr => first | (go_simp; done) | (go_simp; rfl)); intro g3 hg w3 hbox hb; have n0_ := Aside0.mk (below_step HB.out hb); have n1_ := Aside0.mk (blk_below BK2.out hb); have n2_ := Aside0.mk hbox; clear HB BK2; have HB := n0_; have BK2 := n1_; have BK3 := n2_; clear n0_ n1_ n2_ hb hbox hg; have q0_ : w3.cell? ⟨g2, 0, none⟩ = some (.int .i64 a0_0) := (blk_cell BK2.out 0).trans rfl; have q1_ : w3.cell? ⟨g2, 1, none⟩ = some (.int .i64 0) := (blk_cell BK2.out 1).trans rfl; have q2_ : w3.cell? ⟨g2, 2, none⟩ = some (.int .i64 0) := (blk_cell BK2.out 2).trans rfl; have q3_ : w3.cell? ⟨g2, 3, none⟩ = some (.int .i64 a0_3) := (blk_cell BK2.out 3).trans rfl)
    | (go_at_call 64; with_reducible refine (impl_in.calls a0_0 1 7 _ _ HI.out).mono ?_; rintro e w4 ⟨rfl, hd⟩; have hb := hd.below; clear hd; have n0_ := Aside0.mk (below_step HB.out hb); have n1_ := Aside0.mk (blk_below BK2.out hb); have n2_ := Aside0.mk (blk_below BK3.out hb); clear HB BK2 BK3 hb; have HB := n0_; have BK2 := n1_; have BK3 := n2_; clear n0_ n1_ n2_; clear q0_ q1_ q2_ q3_; have q0_ : w4.cell? ⟨g2, 0, none⟩ = some (.int .i64 a0_0) := (blk_cell BK2.out 0).trans rfl; have q1_ : w4.cell? ⟨g2, 1, none⟩ = some (.int .i64 0) := (blk_cell BK2.out 1).trans rfl; have q2_ : w4.cell? ⟨g2, 2, none⟩ = some (.int .i64 0) := (blk_cell BK2.out 2).trans rfl; have q3_ : w4.cell? ⟨g2, 3, none⟩ = some (.int .i64 a0_3) := (blk_cell BK2.out 3).trans rfl)
    | (go_at_call 84; with_reducible refine (impl_namesOf.calls 1 a0_0 false false true _ HN.out).mono ?_; rintro e w5 ⟨rfl, hb⟩; have n0_ := Aside0.mk (below_step HB.out hb); have n1_ := Aside0.mk (blk_below BK2.out hb); have n2_ := Aside0.mk (blk_below BK3.out hb); clear HB BK2 BK3 hb; have HB := n0_; have BK2 := n1_; have BK3 := n2_; clear n0_ n1_ n2_; clear q0_ q1_ q2_ q3_)
    | ((with_reducible refine gate_dst (N := 5) rfl ?_); refine box_event ?hg (N := 5) ?hd (cs := #[.bool false, .bool false, .bool false]) (t := 116) ?hr ?_; (case hd => rfl); (case hg => rfl); (case hr => first | (go_simp; done) | (go_simp; rfl)); intro g5 hg w6 hbox hb; have n0_ := Aside0.mk (below_step HB.out hb); have n1_ := Aside0.mk (blk_below BK2.out hb); have n2_ := Aside0.mk (blk_below BK3.out hb); have n3_ := Aside0.mk hbox; have n4_ := Aside0.mk (show w.heap.size ≤ g5 by rw [hg]; exact below_size HB.out); have n5_ := Aside0.mk (show g2 ≠ g5 by rw [hg]; exact Nat.ne_of_lt (blk_lt BK2.out)); have n6_ := Aside0.mk (show g3 ≠ g5 by rw [hg]; exact Nat.ne_of_lt (blk_lt BK3.out)); clear HB BK2 BK3; have HB := n0_; have BK2 := n1_; have BK3 := n2_; have BK5 := n3_; have GE5 := n4_; have NB25 := n5_; have NB35 := n6_; clear n0_ n1_ n2_ n3_ n4_ n5_ n6_ hb hbox hg; have hnb_ := NB25.out; have hnc_ := NB25.out.symm; have q0_ : w6.cell? ⟨g2, 0, none⟩ = some (.int .i64 a0_0) := (blk_cell BK2.out 0).trans rfl; have q1_ : w6.cell? ⟨g2, 1, none⟩ = some (.int .i64 0) := (blk_cell BK2.out 1).trans rfl; have q2_ : w6.cell? ⟨g2, 2, none⟩ = some (.int .i64 0) := (blk_cell BK2.out 2).trans rfl; have q3_ : w6.cell? ⟨g2, 3, none⟩ = some (.int .i64 a0_3) := (blk_cell BK2.out 3).trans rfl; have p0_ : w6.cell? ⟨g5, 0, none⟩ = some (.bool false) := (blk_cell BK5.out 0).trans rfl; have p1_ : w6.cell? ⟨g5, 1, none⟩ = some (.bool false) := (blk_cell BK5.out 1).trans rfl; have p2_ : w6.cell? ⟨g5, 2, none⟩ = some (.bool false) := (blk_cell BK5.out 2).trans rfl; have f0_ := blk_frozen BK5.out 0; have f1_ := blk_frozen BK5.out 1; have f2_ := blk_frozen BK5.out 2)
    | (go_at_call 64; with_reducible refine (impl_in.calls a0_3 0 9999 _ _ HI2.out).mono ?_; rintro e w7 ⟨rfl, hd⟩; have hb := hd.below; clear hd; have n0_ := Aside0.mk (below_step (by repeat (first | exact HB.out | refine below_set ?_ GE5.out)) hb); have n1_ := Aside0.mk (blk_below (o := .cells #[.int .i64 a0_0, .int .i64 0, .int .i64 0, .int .i64 a0_3] 26 (0, 0)) (by repeat (first | exact BK2.out | refine blk_far ?_ NB25.out _)) hb); have n2_ := Aside0.mk (blk_below (o := .cells #[.slice A1 l1.length c1] 24 (0, 0)) (by repeat (first | exact BK3.out | refine blk_far ?_ NB35.out _)) hb); clear HB BK2 BK3 hb; have HB := n0_; have BK2 := n1_; have BK3 := n2_; clear n0_ n1_ n2_; (try clear q0_ q1_ q2_ q3_); have q0_ : w7.cell? ⟨g2, 0, none⟩ = some (.int .i64 a0_0) := (blk_cell BK2.out 0).trans rfl; have q1_ : w7.cell? ⟨g2, 1, none⟩ = some (.int .i64 0) := (blk_cell BK2.out 1).trans rfl; have q2_ : w7.cell? ⟨g2, 2, none⟩ = some (.int .i64 0) := (blk_cell BK2.out 2).trans rfl; have q3_ : w7.cell? ⟨g2, 3, none⟩ = some (.int .i64 a0_3) := (blk_cell BK2.out 3).trans rfl)
    | (go_at_call 86; (try clear HO); with_reducible refine (impl_Term_parts.calls 1 a0_0 0 0 a0_3 _ _ HP.out).mono ?_; rintro e w8 ⟨v8, rfl, ho, hb⟩; have HO := Aside0.mk ho; clear ho; obtain ⟨Ao, co, eo⟩ := Kd.R_slice HO.out; subst eo; have n0_ := Aside0.mk (below_step (by repeat (first | exact HB.out | refine below_set ?_ GE5.out)) hb); have n1_ := Aside0.mk (blk_below (o := .cells #[.int .i64 a0_0, .int .i64 0, .int .i64 0, .int .i64 a0_3] 26 (0, 0)) (by repeat (first | exact BK2.out | refine blk_far ?_ NB25.out _)) hb); have n2_ := Aside0.mk (blk_below (o := .cells #[.slice A1 l1.length c1] 24 (0, 0)) (by repeat (first | exact BK3.out | refine blk_far ?_ NB35.out _)) hb); clear HB BK2 BK3 hb; have HB := n0_; have BK2 := n1_; have BK3 := n2_; clear n0_ n1_ n2_; (try clear q0_ q1_ q2_ q3_); have q0_ : w8.cell? ⟨g2, 0, none⟩ = some (.int .i64 a0_0) := (blk_cell BK2.out 0).trans rfl; have q1_ : w8.cell? ⟨g2, 1, none⟩ = some (.int .i64 0) := (blk_cell BK2.out 1).trans rfl; have q2_ : w8.cell? ⟨g2, 2, none⟩ = some (.int .i64 0) := (blk_cell BK2.out 2).trans rfl; have q3_ : w8.cell? ⟨g2, 3, none⟩ = some (.int .i64 a0_3) := (blk_cell BK2.out 3).trans rfl)
    | (go_at_call 85; refine (slices_ContainsFunc_int64_int64.calls 87 #[.pointer (some ⟨g3, 0, none⟩)] (fun x => !decide (0 ≤ x ∧ x ≤ (l1.length : Int) - 1)) Ao co _ _ (enters_of Try.func87 (by kernel_rfl) rfl) (fun W x _ hB => (impl_fault_1.calls A1 l1.length c1 g3 x HL.out W ((hB.cell (p := ⟨g3, 0, none⟩) (blk_lt BK3.out)).trans ((blk_cell BK3.out 0).trans rfl))).mono (fun _ _ h => ⟨h.1, below_step hB h.2⟩)) (Kd.R_reads' HO.out).2.2 (by simp)).mono ?_; rintro e w9 ⟨he, hb⟩; rw [HANY.out] at he; subst he; have n0_ := Aside0.mk (below_step (by repeat (first | exact HB.out | refine below_set ?_ GE5.out)) hb); have n1_ := Aside0.mk (blk_below (o := .cells #[.int .i64 a0_0, .int .i64 0, .int .i64 0, .int .i64 a0_3] 26 (0, 0)) (by repeat (first | exact BK2.out | refine blk_far ?_ NB25.out _)) hb); have n2_ := Aside0.mk (blk_below (o := .cells #[.slice A1 l1.length c1] 24 (0, 0)) (by repeat (first | exact BK3.out | refine blk_far ?_ NB35.out _)) hb); clear HB BK2 BK3 hb; have HB := n0_; have BK2 := n1_; have BK3 := n2_; clear n0_ n1_ n2_; (try clear q0_ q1_ q2_ q3_); have q0_ : w9.cell? ⟨g2, 0, none⟩ = some (.int .i64 a0_0) := (blk_cell BK2.out 0).trans rfl; have q1_ : w9.cell? ⟨g2, 1, none⟩ = some (.int .i64 0) := (blk_cell BK2.out 1).trans rfl; have q2_ : w9.cell? ⟨g2, 2, none⟩ = some (.int .i64 0) := (blk_cell BK2.out 2).trans rfl; have q3_ : w9.cell? ⟨g2, 3, none⟩ = some (.int .i64 a0_3) := (blk_cell BK2.out 3).trans rfl))
  go_ret
  exact ⟨rfl, (by repeat (first | exact HB.out | refine below_set ?_ GE5.out))⟩
set_option maxHeartbeats 4000000 in
set_option maxRecDepth 100000 in
theorem fault_p_f (a0_0 a0_1 a0_2 a0_3 : Int) (A1 : Option Addr) (c1 : Nat) (l1 : List S26) (w : World) (hr1 : Kd.C k26 w A1 l1.length l1) (hl : l1.length ≤ 9223372036854775807) (hI : impl_in.f a0_0 1 7 = some true) (hN : impl_namesOf.f 1 a0_0 = some (true, true, false)) (h : ¬ a0_3 = 0) :
    Calls Try.prog 53 #[.agg #[.int .i64 a0_0, .int .i64 a0_1, .int .i64 a0_2, .int .i64 a0_3], .slice A1 l1.length c1] w fun e w' => e = .returned (.int .i64 1) ∧ Below w.heap.size w w' := by
  have hmf : ∀ (fn : Fn) (first cap : Array Value) (w : World), (Instr.makeFunc fn first cap).run Try.prog w = .ok (.func fn first cap) w := fun _ _ _ _ => rfl
  have HB := Aside0.mk (Below.refl w.heap.size w)
  have HR := Aside0.mk hr1
  have HL := Aside0.mk hl
  clear hr1 hl
  have h0 : (a0_3 == 0) = false := by simpa using h
  have h1 : (a0_3 != 0) = true := by simpa using h
  have h2 : decide (a0_3 = 0) = false := decide_eq_false h
  clear h
  have HI := Aside0.mk hI
  have HN := Aside0.mk hN
  clear hI hN
  go_enter Try.func53, Try.ntmps53
  go_wp2_with (first
    | ((with_reducible refine gate_dst (N := 2) rfl ?_); refine box_event ?hg (N := 2) ?hd (cs := #[.int .i64 a0_0, .int .i64 a0_1, .int .i64 a0_2, .int .i64 a0_3]) (t := 26) ?hr ?_; (case hd => rfl); (case hg => rfl); (case hr => first | (go_simp; done) | (go_simp; rfl)); intro g2 hg w2 hbox hb; have n0_ := Aside0.mk (below_step HB.out hb); have n1_ := Aside0.mk hbox; clear HB; have HB := n0_; have BK2 := n1_; clear n0_ n1_ hb hbox hg)
    | ((with_reducible refine gate_dst (N := 3) rfl ?_); refine box_event ?hg (N := 3) ?hd (cs := #[.slice A1 l1.length c1]) (t := 24) ?hr ?_; (case hd => rfl); (case hg => rfl); (case hr => first | (go_simp; done) | (go_simp; rfl)); intro g3 hg w3 hbox hb; have n0_ := Aside0.mk (below_step HB.out hb); have n1_ := Aside0.mk (blk_below BK2.out hb); have n2_ := Aside0.mk hbox; clear HB BK2; have HB := n0_; have BK2 := n1_; have BK3 := n2_; clear n0_ n1_ n2_ hb hbox hg; have q0_ : w3.cell? ⟨g2, 0, none⟩ = some (.int .i64 a0_0) := (blk_cell BK2.out 0).trans rfl; have q1_ : w3.cell? ⟨g2, 1, none⟩ = some (.int .i64 a0_1) := (blk_cell BK2.out 1).trans rfl; have q2_ : w3.cell? ⟨g2, 2, none⟩ = some (.int .i64 a0_2) := (blk_cell BK2.out 2).trans rfl; have q3_ : w3.cell? ⟨g2, 3, none⟩ = some (.int .i64 a0_3) := (blk_cell BK2.out 3).trans rfl)
    | (go_at_call 64; with_reducible refine (impl_in.calls a0_0 1 7 _ _ HI.out).mono ?_; rintro e w4 ⟨rfl, hd⟩; have hb := hd.below; clear hd; have n0_ := Aside0.mk (below_step HB.out hb); have n1_ := Aside0.mk (blk_below BK2.out hb); have n2_ := Aside0.mk (blk_below BK3.out hb); clear HB BK2 BK3 hb; have HB := n0_; have BK2 := n1_; have BK3 := n2_; clear n0_ n1_ n2_; clear q0_ q1_ q2_ q3_; have q0_ : w4.cell? ⟨g2, 0, none⟩ = some (.int .i64 a0_0) := (blk_cell BK2.out 0).trans rfl; have q1_ : w4.cell? ⟨g2, 1, none⟩ = some (.int .i64 a0_1) := (blk_cell BK2.out 1).trans rfl; have q2_ : w4.cell? ⟨g2, 2, none⟩ = some (.int .i64 a0_2) := (blk_cell BK2.out 2).trans rfl; have q3_ : w4.cell? ⟨g2, 3, none⟩ = some (.int .i64 a0_3) := (blk_cell BK2.out 3).trans rfl)
    | (go_at_call 84; with_reducible refine (impl_namesOf.calls 1 a0_0 true true false _ HN.out).mono ?_; rintro e w5 ⟨rfl, hb⟩; have n0_ := Aside0.mk (below_step HB.out hb); have n1_ := Aside0.mk (blk_below BK2.out hb); have n2_ := Aside0.mk (blk_below BK3.out hb); clear HB BK2 BK3 hb; have HB := n0_; have BK2 := n1_; have BK3 := n2_; clear n0_ n1_ n2_; clear q0_ q1_ q2_ q3_)
    | ((with_reducible refine gate_dst (N := 5) rfl ?_); refine box_event ?hg (N := 5) ?hd (cs := #[.bool false, .bool false, .bool false]) (t := 116) ?hr ?_; (case hd => rfl); (case hg => rfl); (case hr => first | (go_simp; done) | (go_simp; rfl)); intro g5 hg w6 hbox hb; have n0_ := Aside0.mk (below_step HB.out hb); have n1_ := Aside0.mk (blk_below BK2.out hb); have n2_ := Aside0.mk (blk_below BK3.out hb); have n3_ := Aside0.mk hbox; have n4_ := Aside0.mk (show w.heap.size ≤ g5 by rw [hg]; exact below_size HB.out); have n5_ := Aside0.mk (show g2 ≠ g5 by rw [hg]; exact Nat.ne_of_lt (blk_lt BK2.out)); have n6_ := Aside0.mk (show g3 ≠ g5 by rw [hg]; exact Nat.ne_of_lt (blk_lt BK3.out)); clear HB BK2 BK3; have HB := n0_; have BK2 := n1_; have BK3 := n2_; have BK5 := n3_; have GE5 := n4_; have NB25 := n5_; have NB35 := n6_; clear n0_ n1_ n2_ n3_ n4_ n5_ n6_ hb hbox hg; have hnb_ := NB25.out; have hnc_ := NB25.out.symm; have q0_ : w6.cell? ⟨g2, 0, none⟩ = some (.int .i64 a0_0) := (blk_cell BK2.out 0).trans rfl; have q1_ : w6.cell? ⟨g2, 1, none⟩ = some (.int .i64 a0_1) := (blk_cell BK2.out 1).trans rfl; have q2_ : w6.cell? ⟨g2, 2, none⟩ = some (.int .i64 a0_2) := (blk_cell BK2.out 2).trans rfl; have q3_ : w6.cell? ⟨g2, 3, none⟩ = some (.int .i64 a0_3) := (blk_cell BK2.out 3).trans rfl; have p0_ : w6.cell? ⟨g5, 0, none⟩ = some (.bool false) := (blk_cell BK5.out 0).trans rfl; have p1_ : w6.cell? ⟨g5, 1, none⟩ = some (.bool false) := (blk_cell BK5.out 1).trans rfl; have p2_ : w6.cell? ⟨g5, 2, none⟩ = some (.bool false) := (blk_cell BK5.out 2).trans rfl; have f0_ := blk_frozen BK5.out 0; have f1_ := blk_frozen BK5.out 1; have f2_ := blk_frozen BK5.out 2))
  go_ret
  exact ⟨rfl, (by repeat (first | exact HB.out | refine below_set ?_ GE5.out))⟩
set_option maxHeartbeats 4000000 in
set_option maxRecDepth 100000 in
theorem fault_p_p (a0_0 a0_1 a0_2 : Int) (A1 : Option Addr) (c1 : Nat) (l1 : List S26) (w : World) (hr1 : Kd.C k26 w A1 l1.length l1) (hl : l1.length ≤ 9223372036854775807) (hI : impl_in.f a0_0 1 7 = some true) (hN : impl_namesOf.f 1 a0_0 = some (true, true, false)) (hP : impl_Term_parts.f 1 a0_0 a0_1 a0_2 0 = some ([a0_1, a0_2] : List Int)) (hp : ([a0_1, a0_2] : List Int).any (fun x => !decide (0 ≤ x ∧ x ≤ (l1.length : Int) - 1)) = true) :
    Calls Try.prog 53 #[.agg #[.int .i64 a0_0, .int .i64 a0_1, .int .i64 a0_2, .int .i64 0], .slice A1 l1.length c1] w fun e w' => e = .returned (.int .i64 3) ∧ Below w.heap.size w w' := by
  have hmf : ∀ (fn : Fn) (first cap : Array Value) (w : World), (Instr.makeFunc fn first cap).run Try.prog w = .ok (.func fn first cap) w := fun _ _ _ _ => rfl
  have HB := Aside0.mk (Below.refl w.heap.size w)
  have HR := Aside0.mk hr1
  have HL := Aside0.mk hl
  clear hr1 hl
  have HI := Aside0.mk hI
  have HN := Aside0.mk hN
  clear hI hN
  have HI2 := Aside0.mk (show impl_in.f 0 0 9999 = some true by rw [impl_in_eq]; rfl)
  have HP := Aside0.mk hP
  clear hP
  have HANY := Aside0.mk hp
  clear hp
  go_enter Try.func53, Try.ntmps53
  go_wp2_with (first
    | ((with_reducible refine gate_dst (N := 2) rfl ?_); refine box_event ?hg (N := 2) ?hd (cs := #[.int .i64 a0_0, .int .i64 a0_1, .int .i64 a0_2, .int .i64 0]) (t := 26) ?hr ?_; (case hd => rfl); (case hg => rfl); (case hr => first | (go_simp; done) | (go_simp; rfl)); intro g2 hg w2 hbox hb; have n0_ := Aside0.mk (below_step HB.out hb); have n1_ := Aside0.mk hbox; clear HB; have HB := n0_; have BK2 := n1_; clear n0_ n1_ hb hbox hg)
    | ((with_reducible refine gate_dst (N := 3) rfl ?_); refine box_event ?hg (N := 3) ?hd (cs := #[.slice A1 l1.length c1]) (t := 24) ?hr ?_; (case hd => rfl); (case hg => rfl); (case hr => first | (go_simp; done) | (go_simp; rfl)); intro g3 hg w3 hbox hb; have n0_ := Aside0.mk (below_step HB.out hb); have n1_ := Aside0.mk (blk_below BK2.out hb); have n2_ := Aside0.mk hbox; clear HB BK2; have HB := n0_; have BK2 := n1_; have BK3 := n2_; clear n0_ n1_ n2_ hb hbox hg; have q0_ : w3.cell? ⟨g2, 0, none⟩ = some (.int .i64 a0_0) := (blk_cell BK2.out 0).trans rfl; have q1_ : w3.cell? ⟨g2, 1, none⟩ = some (.int .i64 a0_1) := (blk_cell BK2.out 1).trans rfl; have q2_ : w3.cell? ⟨g2, 2, none⟩ = some (.int .i64 a0_2) := (blk_cell BK2.out 2).trans rfl; have q3_ : w3.cell? ⟨g2, 3, none⟩ = some (.int .i64 0) := (blk_cell BK2.out 3).trans rfl)
    | (go_at_call 64; with_reducible refine (impl_in.calls a0_0 1 7 _ _ HI.out).mono ?_; rintro e w4 ⟨rfl, hd⟩; have hb := hd.below; clear hd; have n0_ := Aside0.mk (below_step HB.out hb); have n1_ := Aside0.mk (blk_below BK2.out hb); have n2_ := Aside0.mk (blk_below BK3.out hb); clear HB BK2 BK3 hb; have HB := n0_; have BK2 := n1_; have BK3 := n2_; clear n0_ n1_ n2_; clear q0_ q1_ q2_ q3_; have q0_ : w4.cell? ⟨g2, 0, none⟩ = some (.int .i64 a0_0) := (blk_cell BK2.out 0).trans rfl; have q1_ : w4.cell? ⟨g2, 1, none⟩ = some (.int .i64 a0_1) := (blk_cell BK2.out 1).trans rfl; have q2_ : w4.cell? ⟨g2, 2, none⟩ = some (.int .i64 a0_2) := (blk_cell BK2.out 2).trans rfl; have q3_ : w4.cell? ⟨g2, 3, none⟩ = some (.int .i64 0) := (blk_cell BK2.out 3).trans rfl)
    | (go_at_call 84; with_reducible refine (impl_namesOf.calls 1 a0_0 true true false _ HN.out).mono ?_; rintro e w5 ⟨rfl, hb⟩; have n0_ := Aside0.mk (below_step HB.out hb); have n1_ := Aside0.mk (blk_below BK2.out hb); have n2_ := Aside0.mk (blk_below BK3.out hb); clear HB BK2 BK3 hb; have HB := n0_; have BK2 := n1_; have BK3 := n2_; clear n0_ n1_ n2_; clear q0_ q1_ q2_ q3_)
    | ((with_reducible refine gate_dst (N := 5) rfl ?_); refine box_event ?hg (N := 5) ?hd (cs := #[.bool false, .bool false, .bool false]) (t := 116) ?hr ?_; (case hd => rfl); (case hg => rfl); (case hr => first | (go_simp; done) | (go_simp; rfl)); intro g5 hg w6 hbox hb; have n0_ := Aside0.mk (below_step HB.out hb); have n1_ := Aside0.mk (blk_below BK2.out hb); have n2_ := Aside0.mk (blk_below BK3.out hb); have n3_ := Aside0.mk hbox; have n4_ := Aside0.mk (show w.heap.size ≤ g5 by rw [hg]; exact below_size HB.out); have n5_ := Aside0.mk (show g2 ≠ g5 by rw [hg]; exact Nat.ne_of_lt (blk_lt BK2.out)); have n6_ := Aside0.mk (show g3 ≠ g5 by rw [hg]; exact Nat.ne_of_lt (blk_lt BK3.out)); clear HB BK2 BK3; have HB := n0_; have BK2 := n1_; have BK3 := n2_; have BK5 := n3_; have GE5 := n4_; have NB25 := n5_; have NB35 := n6_; clear n0_ n1_ n2_ n3_ n4_ n5_ n6_ hb hbox hg; have hnb_ := NB25.out; have hnc_ := NB25.out.symm; have q0_ : w6.cell? ⟨g2, 0, none⟩ = some (.int .i64 a0_0) := (blk_cell BK2.out 0).trans rfl; have q1_ : w6.cell? ⟨g2, 1, none⟩ = some (.int .i64 a0_1) := (blk_cell BK2.out 1).trans rfl; have q2_ : w6.cell? ⟨g2, 2, none⟩ = some (.int .i64 a0_2) := (blk_cell BK2.out 2).trans rfl; have q3_ : w6.cell? ⟨g2, 3, none⟩ = some (.int .i64 0) := (blk_cell BK2.out 3).trans rfl; have p0_ : w6.cell? ⟨g5, 0, none⟩ = some (.bool false) := (blk_cell BK5.out 0).trans rfl; have p1_ : w6.cell? ⟨g5, 1, none⟩ = some (.bool false) := (blk_cell BK5.out 1).trans rfl; have p2_ : w6.cell? ⟨g5, 2, none⟩ = some (.bool false) := (blk_cell BK5.out 2).trans rfl; have f0_ := blk_frozen BK5.out 0; have f1_ := blk_frozen BK5.out 1; have f2_ := blk_frozen BK5.out 2)
    | (go_at_call 64; with_reducible refine (impl_in.calls 0 0 9999 _ _ HI2.out).mono ?_; rintro e w7 ⟨rfl, hd⟩; have hb := hd.below; clear hd; have n0_ := Aside0.mk (below_step (by repeat (first | exact HB.out | refine below_set ?_ GE5.out)) hb); have n1_ := Aside0.mk (blk_below (o := .cells #[.int .i64 a0_0, .int .i64 a0_1, .int .i64 a0_2, .int .i64 0] 26 (0, 0)) (by repeat (first | exact BK2.out | refine blk_far ?_ NB25.out _)) hb); have n2_ := Aside0.mk (blk_below (o := .cells #[.slice A1 l1.length c1] 24 (0, 0)) (by repeat (first | exact BK3.out | refine blk_far ?_ NB35.out _)) hb); clear HB BK2 BK3 hb; have HB := n0_; have BK2 := n1_; have BK3 := n2_; clear n0_ n1_ n2_; (try clear q0_ q1_ q2_ q3_); have q0_ : w7.cell? ⟨g2, 0, none⟩ = some (.int .i64 a0_0) := (blk_cell BK2.out 0).trans rfl; have q1_ : w7.cell? ⟨g2, 1, none⟩ = some (.int .i64 a0_1) := (blk_cell BK2.out 1).trans rfl; have q2_ : w7.cell? ⟨g2, 2, none⟩ = some (.int .i64 a0_2) := (blk_cell BK2.out 2).trans rfl; have q3_ : w7.cell? ⟨g2, 3, none⟩ = some (.int .i64 0) := (blk_cell BK2.out 3).trans rfl)
    | (go_at_call 86; (try clear HO); with_reducible refine (impl_Term_parts.calls 1 a0_0 a0_1 a0_2 0 _ _ HP.out).mono ?_; rintro e w8 ⟨v8, rfl, ho, hb⟩; have HO := Aside0.mk ho; clear ho; obtain ⟨Ao, co, eo⟩ := Kd.R_slice HO.out; subst eo; have n0_ := Aside0.mk (below_step (by repeat (first | exact HB.out | refine below_set ?_ GE5.out)) hb); have n1_ := Aside0.mk (blk_below (o := .cells #[.int .i64 a0_0, .int .i64 a0_1, .int .i64 a0_2, .int .i64 0] 26 (0, 0)) (by repeat (first | exact BK2.out | refine blk_far ?_ NB25.out _)) hb); have n2_ := Aside0.mk (blk_below (o := .cells #[.slice A1 l1.length c1] 24 (0, 0)) (by repeat (first | exact BK3.out | refine blk_far ?_ NB35.out _)) hb); clear HB BK2 BK3 hb; have HB := n0_; have BK2 := n1_; have BK3 := n2_; clear n0_ n1_ n2_; (try clear q0_ q1_ q2_ q3_); have q0_ : w8.cell? ⟨g2, 0, none⟩ = some (.int .i64 a0_0) := (blk_cell BK2.out 0).trans rfl; have q1_ : w8.cell? ⟨g2, 1, none⟩ = some (.int .i64 a0_1) := (blk_cell BK2.out 1).trans rfl; have q2_ : w8.cell? ⟨g2, 2, none⟩ = some (.int .i64 a0_2) := (blk_cell BK2.out 2).trans rfl; have q3_ : w8.cell? ⟨g2, 3, none⟩ = some (.int .i64 0) := (blk_cell BK2.out 3).trans rfl)
    | (go_at_call 85; refine (slices_ContainsFunc_int64_int64.calls 87 #[.pointer (some ⟨g3, 0, none⟩)] (fun x => !decide (0 ≤ x ∧ x ≤ (l1.length : Int) - 1)) Ao co _ _ (enters_of Try.func87 (by kernel_rfl) rfl) (fun W x _ hB => (impl_fault_1.calls A1 l1.length c1 g3 x HL.out W ((hB.cell (p := ⟨g3, 0, none⟩) (blk_lt BK3.out)).trans ((blk_cell BK3.out 0).trans rfl))).mono (fun _ _ h => ⟨h.1, below_step hB h.2⟩)) (Kd.R_reads' HO.out).2.2 (by simp)).mono ?_; rintro e w9 ⟨he, hb⟩; rw [HANY.out] at he; subst he; have n0_ := Aside0.mk (below_step (by repeat (first | exact HB.out | refine below_set ?_ GE5.out)) hb); have n1_ := Aside0.mk (blk_below (o := .cells #[.int .i64 a0_0, .int .i64 a0_1, .int .i64 a0_2, .int .i64 0] 26 (0, 0)) (by repeat (first | exact BK2.out | refine blk_far ?_ NB25.out _)) hb); have n2_ := Aside0.mk (blk_below (o := .cells #[.slice A1 l1.length c1] 24 (0, 0)) (by repeat (first | exact BK3.out | refine blk_far ?_ NB35.out _)) hb); clear HB BK2 BK3 hb; have HB := n0_; have BK2 := n1_; have BK3 := n2_; clear n0_ n1_ n2_; (try clear q0_ q1_ q2_ q3_); have q0_ : w9.cell? ⟨g2, 0, none⟩ = some (.int .i64 a0_0) := (blk_cell BK2.out 0).trans rfl; have q1_ : w9.cell? ⟨g2, 1, none⟩ = some (.int .i64 a0_1) := (blk_cell BK2.out 1).trans rfl; have q2_ : w9.cell? ⟨g2, 2, none⟩ = some (.int .i64 a0_2) := (blk_cell BK2.out 2).trans rfl; have q3_ : w9.cell? ⟨g2, 3, none⟩ = some (.int .i64 0) := (blk_cell BK2.out 3).trans rfl))
  go_ret
  exact ⟨rfl, (by repeat (first | exact HB.out | refine below_set ?_ GE5.out))⟩
set_option maxHeartbeats 4000000 in
set_option maxRecDepth 100000 in
theorem fault_p_ok (a0_0 a0_1 a0_2 : Int) (A1 : Option Addr) (c1 : Nat) (l1 : List S26) (w : World) (hr1 : Kd.C k26 w A1 l1.length l1) (hl : l1.length ≤ 9223372036854775807) (hI : impl_in.f a0_0 1 7 = some true) (hN : impl_namesOf.f 1 a0_0 = some (true, true, false)) (hP : impl_Term_parts.f 1 a0_0 a0_1 a0_2 0 = some ([a0_1, a0_2] : List Int)) (h6 : ¬ a0_0 = 6) (h7 : ¬ a0_0 = 7) (hp : ([a0_1, a0_2] : List Int).any (fun x => !decide (0 ≤ x ∧ x ≤ (l1.length : Int) - 1)) = false) :
    Calls Try.prog 53 #[.agg #[.int .i64 a0_0, .int .i64 a0_1, .int .i64 a0_2, .int .i64 0], .slice A1 l1.length c1] w fun e w' => e = .returned (.int .i64 0) ∧ Below w.heap.size w w' := by
  have hmf : ∀ (fn : Fn) (first cap : Array Value) (w : World), (Instr.makeFunc fn first cap).run Try.prog w = .ok (.func fn first cap) w := fun _ _ _ _ => rfl
  have HB := Aside0.mk (Below.refl w.heap.size w)
  have HR := Aside0.mk hr1
  have HL := Aside0.mk hl
  clear hr1 hl
  have HI := Aside0.mk hI
  have HN := Aside0.mk hN
  clear hI hN
  have HI2 := Aside0.mk (show impl_in.f 0 0 9999 = some true by rw [impl_in_eq]; rfl)
  have HP := Aside0.mk hP
  clear hP
  have h60 : (a0_0 == 6) = false := by simpa using h6
  have h61 : (a0_0 != 6) = true := by simpa using h6
  have h62 : decide (a0_0 = 6) = false := decide_eq_false h6
  have h70 : (a0_0 == 7) = false := by simpa using h7
  have h71 : (a0_0 != 7) = true := by simpa using h7
  have h72 : decide (a0_0 = 7) = false := decide_eq_false h7
  clear h6 h7
  have HANY := Aside0.mk hp
  clear hp
  go_enter Try.func53, Try.ntmps53
  go_wp2_with (first
    | ((with_reducible refine gate_dst (N := 2) rfl ?_); refine box_event ?hg (N := 2) ?hd (cs := #[.int .i64 a0_0, .int .i64 a0_1, .int .i64 a0_2, .int .i64 0]) (t := 26) ?hr ?_; (case hd => rfl); (case hg => rfl); (case hr => first | (go_simp; done) | (go_simp; rfl)); intro g2 hg w2 hbox hb; have n0_ := Aside0.mk (below_step HB.out hb); have n1_ := Aside0.mk hbox; clear HB; have HB := n0_; have BK2 := n1_; clear n0_ n1_ hb hbox hg)
    | ((with_reducible refine gate_dst (N := 3) rfl ?_); refine box_event ?hg (N := 3) ?hd (cs := #[.slice A1 l1.length c1]) (t := 24) ?hr ?_; (case hd => rfl); (case hg => rfl); (case hr => first | (go_simp; done) | (go_simp; rfl)); intro g3 hg w3 hbox hb; have n0_ := Aside0.mk (below_step HB.out hb); have n1_ := Aside0.mk (blk_below BK2.out hb); have n2_ := Aside0.mk hbox; clear HB BK2; have HB := n0_; have BK2 := n1_; have BK3 := n2_; clear n0_ n1_ n2_ hb hbox hg; have q0_ : w3.cell? ⟨g2, 0, none⟩ = some (.int .i64 a0_0) := (blk_cell BK2.out 0).trans rfl; have q1_ : w3.cell? ⟨g2, 1, none⟩ = some (.int .i64 a0_1) := (blk_cell BK2.out 1).trans rfl; have q2_ : w3.cell? ⟨g2, 2, none⟩ = some (.int .i64 a0_2) := (blk_cell BK2.out 2).trans rfl; have q3_ : w3.cell? ⟨g2, 3, none⟩ = some (.int .i64 0) := (blk_cell BK2.out 3).trans rfl)
    | (go_at_call 64; with_reducible refine (impl_in.calls a0_0 1 7 _ _ HI.out).mono ?_; rintro e w4 ⟨rfl, hd⟩; have hb := hd.below; clear hd; have n0_ := Aside0.mk (below_step HB.out hb); have n1_ := Aside0.mk (blk_below BK2.out hb); have n2_ := Aside0.mk (blk_below BK3.out hb); clear HB BK2 BK3 hb; have HB := n0_; have BK2 := n1_; have BK3 := n2_; clear n0_ n1_ n2_; clear q0_ q1_ q2_ q3_; have q0_ : w4.cell? ⟨g2, 0, none⟩ = some (.int .i64 a0_0) := (blk_cell BK2.out 0).trans rfl; have q1_ : w4.cell? ⟨g2, 1, none⟩ = some (.int .i64 a0_1) := (blk_cell BK2.out 1).trans rfl; have q2_ : w4.cell? ⟨g2, 2, none⟩ = some (.int .i64 a0_2) := (blk_cell BK2.out 2).trans rfl; have q3_ : w4.cell? ⟨g2, 3, none⟩ = some (.int .i64 0) := (blk_cell BK2.out 3).trans rfl)
    | (go_at_call 84; with_reducible refine (impl_namesOf.calls 1 a0_0 true true false _ HN.out).mono ?_; rintro e w5 ⟨rfl, hb⟩; have n0_ := Aside0.mk (below_step HB.out hb); have n1_ := Aside0.mk (blk_below BK2.out hb); have n2_ := Aside0.mk (blk_below BK3.out hb); clear HB BK2 BK3 hb; have HB := n0_; have BK2 := n1_; have BK3 := n2_; clear n0_ n1_ n2_; clear q0_ q1_ q2_ q3_)
    | ((with_reducible refine gate_dst (N := 5) rfl ?_); refine box_event ?hg (N := 5) ?hd (cs := #[.bool false, .bool false, .bool false]) (t := 116) ?hr ?_; (case hd => rfl); (case hg => rfl); (case hr => first | (go_simp; done) | (go_simp; rfl)); intro g5 hg w6 hbox hb; have n0_ := Aside0.mk (below_step HB.out hb); have n1_ := Aside0.mk (blk_below BK2.out hb); have n2_ := Aside0.mk (blk_below BK3.out hb); have n3_ := Aside0.mk hbox; have n4_ := Aside0.mk (show w.heap.size ≤ g5 by rw [hg]; exact below_size HB.out); have n5_ := Aside0.mk (show g2 ≠ g5 by rw [hg]; exact Nat.ne_of_lt (blk_lt BK2.out)); have n6_ := Aside0.mk (show g3 ≠ g5 by rw [hg]; exact Nat.ne_of_lt (blk_lt BK3.out)); clear HB BK2 BK3; have HB := n0_; have BK2 := n1_; have BK3 := n2_; have BK5 := n3_; have GE5 := n4_; have NB25 := n5_; have NB35 := n6_; clear n0_ n1_ n2_ n3_ n4_ n5_ n6_ hb hbox hg; have hnb_ := NB25.out; have hnc_ := NB25.out.symm; have q0_ : w6.cell? ⟨g2, 0, none⟩ = some (.int .i64 a0_0) := (blk_cell BK2.out 0).trans rfl; have q1_ : w6.cell? ⟨g2, 1, none⟩ = some (.int .i64 a0_1) := (blk_cell BK2.out 1).trans rfl; have q2_ : w6.cell? ⟨g2, 2, none⟩ = some (.int .i64 a0_2) := (blk_cell BK2.out 2).trans rfl; have q3_ : w6.cell? ⟨g2, 3, none⟩ = some (.int .i64 0) := (blk_cell BK2.out 3).trans rfl; have p0_ : w6.cell? ⟨g5, 0, none⟩ = some (.bool false) := (blk_cell BK5.out 0).trans rfl; have p1_ : w6.cell? ⟨g5, 1, none⟩ = some (.bool false) := (blk_cell BK5.out 1).trans rfl; have p2_ : w6.cell? ⟨g5, 2, none⟩ = some (.bool false) := (blk_cell BK5.out 2).trans rfl; have f0_ := blk_frozen BK5.out 0; have f1_ := blk_frozen BK5.out 1; have f2_ := blk_frozen BK5.out 2)
    | (go_at_call 64; with_reducible refine (impl_in.calls 0 0 9999 _ _ HI2.out).mono ?_; rintro e w7 ⟨rfl, hd⟩; have hb := hd.below; clear hd; have n0_ := Aside0.mk (below_step (by repeat (first | exact HB.out | refine below_set ?_ GE5.out)) hb); have n1_ := Aside0.mk (blk_below (o := .cells #[.int .i64 a0_0, .int .i64 a0_1, .int .i64 a0_2, .int .i64 0] 26 (0, 0)) (by repeat (first | exact BK2.out | refine blk_far ?_ NB25.out _)) hb); have n2_ := Aside0.mk (blk_below (o := .cells #[.slice A1 l1.length c1] 24 (0, 0)) (by repeat (first | exact BK3.out | refine blk_far ?_ NB35.out _)) hb); clear HB BK2 BK3 hb; have HB := n0_; have BK2 := n1_; have BK3 := n2_; clear n0_ n1_ n2_; (try clear q0_ q1_ q2_ q3_); have q0_ : w7.cell? ⟨g2, 0, none⟩ = some (.int .i64 a0_0) := (blk_cell BK2.out 0).trans rfl; have q1_ : w7.cell? ⟨g2, 1, none⟩ = some (.int .i64 a0_1) := (blk_cell BK2.out 1).trans rfl; have q2_ : w7.cell? ⟨g2, 2, none⟩ = some (.int .i64 a0_2) := (blk_cell BK2.out 2).trans rfl; have q3_ : w7.cell? ⟨g2, 3, none⟩ = some (.int .i64 0) := (blk_cell BK2.out 3).trans rfl)
    | (go_at_call 86; (try clear HO); with_reducible refine (impl_Term_parts.calls 1 a0_0 a0_1 a0_2 0 _ _ HP.out).mono ?_; rintro e w8 ⟨v8, rfl, ho, hb⟩; have HO := Aside0.mk ho; clear ho; obtain ⟨Ao, co, eo⟩ := Kd.R_slice HO.out; subst eo; have n0_ := Aside0.mk (below_step (by repeat (first | exact HB.out | refine below_set ?_ GE5.out)) hb); have n1_ := Aside0.mk (blk_below (o := .cells #[.int .i64 a0_0, .int .i64 a0_1, .int .i64 a0_2, .int .i64 0] 26 (0, 0)) (by repeat (first | exact BK2.out | refine blk_far ?_ NB25.out _)) hb); have n2_ := Aside0.mk (blk_below (o := .cells #[.slice A1 l1.length c1] 24 (0, 0)) (by repeat (first | exact BK3.out | refine blk_far ?_ NB35.out _)) hb); clear HB BK2 BK3 hb; have HB := n0_; have BK2 := n1_; have BK3 := n2_; clear n0_ n1_ n2_; (try clear q0_ q1_ q2_ q3_); have q0_ : w8.cell? ⟨g2, 0, none⟩ = some (.int .i64 a0_0) := (blk_cell BK2.out 0).trans rfl; have q1_ : w8.cell? ⟨g2, 1, none⟩ = some (.int .i64 a0_1) := (blk_cell BK2.out 1).trans rfl; have q2_ : w8.cell? ⟨g2, 2, none⟩ = some (.int .i64 a0_2) := (blk_cell BK2.out 2).trans rfl; have q3_ : w8.cell? ⟨g2, 3, none⟩ = some (.int .i64 0) := (blk_cell BK2.out 3).trans rfl)
    | (go_at_call 85; refine (slices_ContainsFunc_int64_int64.calls 87 #[.pointer (some ⟨g3, 0, none⟩)] (fun x => !decide (0 ≤ x ∧ x ≤ (l1.length : Int) - 1)) Ao co _ _ (enters_of Try.func87 (by kernel_rfl) rfl) (fun W x _ hB => (impl_fault_1.calls A1 l1.length c1 g3 x HL.out W ((hB.cell (p := ⟨g3, 0, none⟩) (blk_lt BK3.out)).trans ((blk_cell BK3.out 0).trans rfl))).mono (fun _ _ h => ⟨h.1, below_step hB h.2⟩)) (Kd.R_reads' HO.out).2.2 (by simp)).mono ?_; rintro e w9 ⟨he, hb⟩; rw [HANY.out] at he; subst he; have n0_ := Aside0.mk (below_step (by repeat (first | exact HB.out | refine below_set ?_ GE5.out)) hb); have n1_ := Aside0.mk (blk_below (o := .cells #[.int .i64 a0_0, .int .i64 a0_1, .int .i64 a0_2, .int .i64 0] 26 (0, 0)) (by repeat (first | exact BK2.out | refine blk_far ?_ NB25.out _)) hb); have n2_ := Aside0.mk (blk_below (o := .cells #[.slice A1 l1.length c1] 24 (0, 0)) (by repeat (first | exact BK3.out | refine blk_far ?_ NB35.out _)) hb); clear HB BK2 BK3 hb; have HB := n0_; have BK2 := n1_; have BK3 := n2_; clear n0_ n1_ n2_; (try clear q0_ q1_ q2_ q3_); have q0_ : w9.cell? ⟨g2, 0, none⟩ = some (.int .i64 a0_0) := (blk_cell BK2.out 0).trans rfl; have q1_ : w9.cell? ⟨g2, 1, none⟩ = some (.int .i64 a0_1) := (blk_cell BK2.out 1).trans rfl; have q2_ : w9.cell? ⟨g2, 2, none⟩ = some (.int .i64 a0_2) := (blk_cell BK2.out 2).trans rfl; have q3_ : w9.cell? ⟨g2, 3, none⟩ = some (.int .i64 0) := (blk_cell BK2.out 3).trans rfl))
  go_ret
  exact ⟨rfl, (by repeat (first | exact HB.out | refine below_set ?_ GE5.out))⟩
set_option maxHeartbeats 4000000 in
set_option maxRecDepth 100000 in
theorem fault_7_r (a0_1 a0_2 : Int) (A1 : Option Addr) (c1 : Nat) (l1 : List S26) (w : World) (hr1 : Kd.C k26 w A1 l1.length l1) (hl : l1.length ≤ 9223372036854775807) (hp : ([a0_1, a0_2] : List Int).any (fun x => !decide (0 ≤ x ∧ x ≤ (l1.length : Int) - 1)) = false) (hq : ([a0_1, a0_2] : List Int).any (fun x => (rd_T26 l1 x).f0 != 2) = true) :
    Calls Try.prog 53 #[.agg #[.int .i64 7, .int .i64 a0_1, .int .i64 a0_2, .int .i64 0], .slice A1 l1.length c1] w fun e w' => e = .returned (.int .i64 1) ∧ Below w.heap.size w w' := by
  have hmf : ∀ (fn : Fn) (first cap : Array Value) (w : World), (Instr.makeFunc fn first cap).run Try.prog w = .ok (.func fn first cap) w := fun _ _ _ _ => rfl
  have HB := Aside0.mk (Below.refl w.heap.size w)
  have HR := Aside0.mk hr1
  have HL := Aside0.mk hl
  clear hr1 hl
  have HI := Aside0.mk (show impl_in.f 7 1 7 = some true by rw [impl_in_eq]; rfl)
  have HN := Aside0.mk (show impl_namesOf.f 1 7 = some (true, true, false) by simp [impl_namesOf.f, impl_namesOf.j0])
  have HI2 := Aside0.mk (show impl_in.f 0 0 9999 = some true by rw [impl_in_eq]; rfl)
  have HP := Aside0.mk (show impl_Term_parts.f 1 7 a0_1 a0_2 0 = some ([a0_1, a0_2] : List Int) by simp [impl_Term_parts.f, impl_namesOf.f, impl_namesOf.j0])
  have HANY := Aside0.mk hp
  have HIN := Aside0.mk (fault_in l1 [a0_1, a0_2] hp)
  clear hp
  have HANY2 := Aside0.mk hq
  clear hq
  go_enter Try.func53, Try.ntmps53
  go_wp2_with (first
    | ((with_reducible refine gate_dst (N := 2) rfl ?_); refine box_event ?hg (N := 2) ?hd (cs := #[.int .i64 7, .int .i64 a0_1, .int .i64 a0_2, .int .i64 0]) (t := 26) ?hr ?_; (case hd => rfl); (case hg => rfl); (case hr => first | (go_simp; done) | (go_simp; rfl)); intro g2 hg w2 hbox hb; have n0_ := Aside0.mk (below_step HB.out hb); have n1_ := Aside0.mk hbox; clear HB; have HB := n0_; have BK2 := n1_; clear n0_ n1_ hb hbox hg)
    | ((with_reducible refine gate_dst (N := 3) rfl ?_); refine box_event ?hg (N := 3) ?hd (cs := #[.slice A1 l1.length c1]) (t := 24) ?hr ?_; (case hd => rfl); (case hg => rfl); (case hr => first | (go_simp; done) | (go_simp; rfl)); intro g3 hg w3 hbox hb; have n0_ := Aside0.mk (below_step HB.out hb); have n1_ := Aside0.mk (blk_below BK2.out hb); have n2_ := Aside0.mk hbox; clear HB BK2; have HB := n0_; have BK2 := n1_; have BK3 := n2_; clear n0_ n1_ n2_ hb hbox hg; have q0_ : w3.cell? ⟨g2, 0, none⟩ = some (.int .i64 7) := (blk_cell BK2.out 0).trans rfl; have q1_ : w3.cell? ⟨g2, 1, none⟩ = some (.int .i64 a0_1) := (blk_cell BK2.out 1).trans rfl; have q2_ : w3.cell? ⟨g2, 2, none⟩ = some (.int .i64 a0_2) := (blk_cell BK2.out 2).trans rfl; have q3_ : w3.cell? ⟨g2, 3, none⟩ = some (.int .i64 0) := (blk_cell BK2.out 3).trans rfl)
    | (go_at_call 64; with_reducible refine (impl_in.calls 7 1 7 _ _ HI.out).mono ?_; rintro e w4 ⟨rfl, hd⟩; have hb := hd.below; clear hd; have n0_ := Aside0.mk (below_step HB.out hb); have n1_ := Aside0.mk (blk_below BK2.out hb); have n2_ := Aside0.mk (blk_below BK3.out hb); clear HB BK2 BK3 hb; have HB := n0_; have BK2 := n1_; have BK3 := n2_; clear n0_ n1_ n2_; clear q0_ q1_ q2_ q3_; have q0_ : w4.cell? ⟨g2, 0, none⟩ = some (.int .i64 7) := (blk_cell BK2.out 0).trans rfl; have q1_ : w4.cell? ⟨g2, 1, none⟩ = some (.int .i64 a0_1) := (blk_cell BK2.out 1).trans rfl; have q2_ : w4.cell? ⟨g2, 2, none⟩ = some (.int .i64 a0_2) := (blk_cell BK2.out 2).trans rfl; have q3_ : w4.cell? ⟨g2, 3, none⟩ = some (.int .i64 0) := (blk_cell BK2.out 3).trans rfl)
    | (go_at_call 84; with_reducible refine (impl_namesOf.calls 1 7 true true false _ HN.out).mono ?_; rintro e w5 ⟨rfl, hb⟩; have n0_ := Aside0.mk (below_step HB.out hb); have n1_ := Aside0.mk (blk_below BK2.out hb); have n2_ := Aside0.mk (blk_below BK3.out hb); clear HB BK2 BK3 hb; have HB := n0_; have BK2 := n1_; have BK3 := n2_; clear n0_ n1_ n2_; clear q0_ q1_ q2_ q3_)
    | ((with_reducible refine gate_dst (N := 5) rfl ?_); refine box_event ?hg (N := 5) ?hd (cs := #[.bool false, .bool false, .bool false]) (t := 116) ?hr ?_; (case hd => rfl); (case hg => rfl); (case hr => first | (go_simp; done) | (go_simp; rfl)); intro g5 hg w6 hbox hb; have n0_ := Aside0.mk (below_step HB.out hb); have n1_ := Aside0.mk (blk_below BK2.out hb); have n2_ := Aside0.mk (blk_below BK3.out hb); have n3_ := Aside0.mk hbox; have n4_ := Aside0.mk (show w.heap.size ≤ g5 by rw [hg]; exact below_size HB.out); have n5_ := Aside0.mk (show g2 ≠ g5 by rw [hg]; exact Nat.ne_of_lt (blk_lt BK2.out)); have n6_ := Aside0.mk (show g3 ≠ g5 by rw [hg]; exact Nat.ne_of_lt (blk_lt BK3.out)); clear HB BK2 BK3; have HB := n0_; have BK2 := n1_; have BK3 := n2_; have BK5 := n3_; have GE5 := n4_; have NB25 := n5_; have NB35 := n6_; clear n0_ n1_ n2_ n3_ n4_ n5_ n6_ hb hbox hg; have hnb_ := NB25.out; have hnc_ := NB25.out.symm; have q0_ : w6.cell? ⟨g2, 0, none⟩ = some (.int .i64 7) := (blk_cell BK2.out 0).trans rfl; have q1_ : w6.cell? ⟨g2, 1, none⟩ = some (.int .i64 a0_1) := (blk_cell BK2.out 1).trans rfl; have q2_ : w6.cell? ⟨g2, 2, none⟩ = some (.int .i64 a0_2) := (blk_cell BK2.out 2).trans rfl; have q3_ : w6.cell? ⟨g2, 3, none⟩ = some (.int .i64 0) := (blk_cell BK2.out 3).trans rfl; have p0_ : w6.cell? ⟨g5, 0, none⟩ = some (.bool false) := (blk_cell BK5.out 0).trans rfl; have p1_ : w6.cell? ⟨g5, 1, none⟩ = some (.bool false) := (blk_cell BK5.out 1).trans rfl; have p2_ : w6.cell? ⟨g5, 2, none⟩ = some (.bool false) := (blk_cell BK5.out 2).trans rfl; have f0_ := blk_frozen BK5.out 0; have f1_ := blk_frozen BK5.out 1; have f2_ := blk_frozen BK5.out 2)
    | (go_at_call 64; with_reducible refine (impl_in.calls 0 0 9999 _ _ HI2.out).mono ?_; rintro e w7 ⟨rfl, hd⟩; have hb := hd.below; clear hd; have n0_ := Aside0.mk (below_step (by repeat (first | exact HB.out | refine below_set ?_ GE5.out)) hb); have n1_ := Aside0.mk (blk_below (o := .cells #[.int .i64 7, .int .i64 a0_1, .int .i64 a0_2, .int .i64 0] 26 (0, 0)) (by repeat (first | exact BK2.out | refine blk_far ?_ NB25.out _)) hb); have n2_ := Aside0.mk (blk_below (o := .cells #[.slice A1 l1.length c1] 24 (0, 0)) (by repeat (first | exact BK3.out | refine blk_far ?_ NB35.out _)) hb); clear HB BK2 BK3 hb; have HB := n0_; have BK2 := n1_; have BK3 := n2_; clear n0_ n1_ n2_; (try clear q0_ q1_ q2_ q3_); have q0_ : w7.cell? ⟨g2, 0, none⟩ = some (.int .i64 7) := (blk_cell BK2.out 0).trans rfl; have q1_ : w7.cell? ⟨g2, 1, none⟩ = some (.int .i64 a0_1) := (blk_cell BK2.out 1).trans rfl; have q2_ : w7.cell? ⟨g2, 2, none⟩ = some (.int .i64 a0_2) := (blk_cell BK2.out 2).trans rfl; have q3_ : w7.cell? ⟨g2, 3, none⟩ = some (.int .i64 0) := (blk_cell BK2.out 3).trans rfl)
    | (go_at_call 86; (try clear HO); with_reducible refine (impl_Term_parts.calls 1 7 a0_1 a0_2 0 _ _ HP.out).mono ?_; rintro e w8 ⟨v8, rfl, ho, hb⟩; have HO := Aside0.mk ho; clear ho; obtain ⟨Ao, co, eo⟩ := Kd.R_slice HO.out; subst eo; have n0_ := Aside0.mk (below_step (by repeat (first | exact HB.out | refine below_set ?_ GE5.out)) hb); have n1_ := Aside0.mk (blk_below (o := .cells #[.int .i64 7, .int .i64 a0_1, .int .i64 a0_2, .int .i64 0] 26 (0, 0)) (by repeat (first | exact BK2.out | refine blk_far ?_ NB25.out _)) hb); have n2_ := Aside0.mk (blk_below (o := .cells #[.slice A1 l1.length c1] 24 (0, 0)) (by repeat (first | exact BK3.out | refine blk_far ?_ NB35.out _)) hb); clear HB BK2 BK3 hb; have HB := n0_; have BK2 := n1_; have BK3 := n2_; clear n0_ n1_ n2_; (try clear q0_ q1_ q2_ q3_); have q0_ : w8.cell? ⟨g2, 0, none⟩ = some (.int .i64 7) := (blk_cell BK2.out 0).trans rfl; have q1_ : w8.cell? ⟨g2, 1, none⟩ = some (.int .i64 a0_1) := (blk_cell BK2.out 1).trans rfl; have q2_ : w8.cell? ⟨g2, 2, none⟩ = some (.int .i64 a0_2) := (blk_cell BK2.out 2).trans rfl; have q3_ : w8.cell? ⟨g2, 3, none⟩ = some (.int .i64 0) := (blk_cell BK2.out 3).trans rfl)
    | (go_at_call 85; refine (slices_ContainsFunc_int64_int64.calls 87 #[.pointer (some ⟨g3, 0, none⟩)] (fun x => !decide (0 ≤ x ∧ x ≤ (l1.length : Int) - 1)) Ao co _ _ (enters_of Try.func87 (by kernel_rfl) rfl) (fun W x _ hB => (impl_fault_1.calls A1 l1.length c1 g3 x HL.out W ((hB.cell (p := ⟨g3, 0, none⟩) (blk_lt BK3.out)).trans ((blk_cell BK3.out 0).trans rfl))).mono (fun _ _ h => ⟨h.1, below_step hB h.2⟩)) (Kd.R_reads' HO.out).2.2 (by simp)).mono ?_; rintro e w9 ⟨he, hb⟩; rw [HANY.out] at he; subst he; have n0_ := Aside0.mk (below_step (by repeat (first | exact HB.out | refine below_set ?_ GE5.out)) hb); have n1_ := Aside0.mk (blk_below (o := .cells #[.int .i64 7, .int .i64 a0_1, .int .i64 a0_2, .int .i64 0] 26 (0, 0)) (by repeat (first | exact BK2.out | refine blk_far ?_ NB25.out _)) hb); have n2_ := Aside0.mk (blk_below (o := .cells #[.slice A1 l1.length c1] 24 (0, 0)) (by repeat (first | exact BK3.out | refine blk_far ?_ NB35.out _)) hb); clear HB BK2 BK3 hb; have HB := n0_; have BK2 := n1_; have BK3 := n2_; clear n0_ n1_ n2_; (try clear q0_ q1_ q2_ q3_); have q0_ : w9.cell? ⟨g2, 0, none⟩ = some (.int .i64 7) := (blk_cell BK2.out 0).trans rfl; have q1_ : w9.cell? ⟨g2, 1, none⟩ = some (.int .i64 a0_1) := (blk_cell BK2.out 1).trans rfl; have q2_ : w9.cell? ⟨g2, 2, none⟩ = some (.int .i64 a0_2) := (blk_cell BK2.out 2).trans rfl; have q3_ : w9.cell? ⟨g2, 3, none⟩ = some (.int .i64 0) := (blk_cell BK2.out 3).trans rfl)
    | (go_at_call 85; refine (slices_ContainsFunc_int64_int64.calls 89 #[.pointer (some ⟨g3, 0, none⟩)] (fun x => (rd_T26 l1 x).f0 != 2) Ao co _ _ (enters_of Try.func89 (by kernel_rfl) rfl) (fun W x hx hB => (impl_fault_2.calls A1 l1 c1 g3 x W ((hB.cell (p := ⟨g3, 0, none⟩) (blk_lt BK3.out)).trans ((blk_cell BK3.out 0).trans rfl)) (Kd.C_below HR.out (below_step HB.out hB)) (HIN.out x hx).1 (HIN.out x hx).2).mono (fun _ _ h => ⟨h.1, below_step hB h.2⟩)) (Kd.R_reads' HO.out).2.2 (by simp)).mono ?_; rintro e w10 ⟨he, hb⟩; rw [HANY2.out] at he; subst he; have n0_ := Aside0.mk (below_step (by repeat (first | exact HB.out | refine below_set ?_ GE5.out)) hb); have n1_ := Aside0.mk (blk_below (o := .cells #[.int .i64 7, .int .i64 a0_1, .int .i64 a0_2, .int .i64 0] 26 (0, 0)) (by repeat (first | exact BK2.out | refine blk_far ?_ NB25.out _)) hb); have n2_ := Aside0.mk (blk_below (o := .cells #[.slice A1 l1.length c1] 24 (0, 0)) (by repeat (first | exact BK3.out | refine blk_far ?_ NB35.out _)) hb); clear HB BK2 BK3 hb; have HB := n0_; have BK2 := n1_; have BK3 := n2_; clear n0_ n1_ n2_; (try clear q0_ q1_ q2_ q3_); have q0_ : w10.cell? ⟨g2, 0, none⟩ = some (.int .i64 7) := (blk_cell BK2.out 0).trans rfl; have q1_ : w10.cell? ⟨g2, 1, none⟩ = some (.int .i64 a0_1) := (blk_cell BK2.out 1).trans rfl; have q2_ : w10.cell? ⟨g2, 2, none⟩ = some (.int .i64 a0_2) := (blk_cell BK2.out 2).trans rfl; have q3_ : w10.cell? ⟨g2, 3, none⟩ = some (.int .i64 0) := (blk_cell BK2.out 3).trans rfl))
  go_ret
  exact ⟨rfl, (by repeat (first | exact HB.out | refine below_set ?_ GE5.out))⟩
set_option maxHeartbeats 4000000 in
set_option maxRecDepth 100000 in
theorem fault_7_g (a0_1 a0_2 : Int) (A1 : Option Addr) (c1 : Nat) (l1 : List S26) (w : World) (hr1 : Kd.C k26 w A1 l1.length l1) (hl : l1.length ≤ 9223372036854775807) (hp : ([a0_1, a0_2] : List Int).any (fun x => !decide (0 ≤ x ∧ x ≤ (l1.length : Int) - 1)) = false) (hq : ([a0_1, a0_2] : List Int).any (fun x => (rd_T26 l1 x).f0 != 2) = false) (hg : a0_1 > a0_2) :
    Calls Try.prog 53 #[.agg #[.int .i64 7, .int .i64 a0_1, .int .i64 a0_2, .int .i64 0], .slice A1 l1.length c1] w fun e w' => e = .returned (.int .i64 1) ∧ Below w.heap.size w w' := by
  have hmf : ∀ (fn : Fn) (first cap : Array Value) (w : World), (Instr.makeFunc fn first cap).run Try.prog w = .ok (.func fn first cap) w := fun _ _ _ _ => rfl
  have HB := Aside0.mk (Below.refl w.heap.size w)
  have HR := Aside0.mk hr1
  have HL := Aside0.mk hl
  clear hr1 hl
  have HI := Aside0.mk (show impl_in.f 7 1 7 = some true by rw [impl_in_eq]; rfl)
  have HN := Aside0.mk (show impl_namesOf.f 1 7 = some (true, true, false) by simp [impl_namesOf.f, impl_namesOf.j0])
  have HI2 := Aside0.mk (show impl_in.f 0 0 9999 = some true by rw [impl_in_eq]; rfl)
  have HP := Aside0.mk (show impl_Term_parts.f 1 7 a0_1 a0_2 0 = some ([a0_1, a0_2] : List Int) by simp [impl_Term_parts.f, impl_namesOf.f, impl_namesOf.j0])
  have HANY := Aside0.mk hp
  have HIN := Aside0.mk (fault_in l1 [a0_1, a0_2] hp)
  clear hp
  have HANY2 := Aside0.mk hq
  clear hq
  have hg0 : decide (a0_1 > a0_2) = true := decide_eq_true hg
  have hg1 : decide (a0_2 < a0_1) = true := decide_eq_true hg
  clear hg
  go_enter Try.func53, Try.ntmps53
  go_wp2_with (first
    | ((with_reducible refine gate_dst (N := 2) rfl ?_); refine box_event ?hg (N := 2) ?hd (cs := #[.int .i64 7, .int .i64 a0_1, .int .i64 a0_2, .int .i64 0]) (t := 26) ?hr ?_; (case hd => rfl); (case hg => rfl); (case hr => first | (go_simp; done) | (go_simp; rfl)); intro g2 hg w2 hbox hb; have n0_ := Aside0.mk (below_step HB.out hb); have n1_ := Aside0.mk hbox; clear HB; have HB := n0_; have BK2 := n1_; clear n0_ n1_ hb hbox hg)
    | ((with_reducible refine gate_dst (N := 3) rfl ?_); refine box_event ?hg (N := 3) ?hd (cs := #[.slice A1 l1.length c1]) (t := 24) ?hr ?_; (case hd => rfl); (case hg => rfl); (case hr => first | (go_simp; done) | (go_simp; rfl)); intro g3 hg w3 hbox hb; have n0_ := Aside0.mk (below_step HB.out hb); have n1_ := Aside0.mk (blk_below BK2.out hb); have n2_ := Aside0.mk hbox; clear HB BK2; have HB := n0_; have BK2 := n1_; have BK3 := n2_; clear n0_ n1_ n2_ hb hbox hg; have q0_ : w3.cell? ⟨g2, 0, none⟩ = some (.int .i64 7) := (blk_cell BK2.out 0).trans rfl; have q1_ : w3.cell? ⟨g2, 1, none⟩ = some (.int .i64 a0_1) := (blk_cell BK2.out 1).trans rfl; have q2_ : w3.cell? ⟨g2, 2, none⟩ = some (.int .i64 a0_2) := (blk_cell BK2.out 2).trans rfl; have q3_ : w3.cell? ⟨g2, 3, none⟩ = some (.int .i64 0) := (blk_cell BK2.out 3).trans rfl)
    | (go_at_call 64; with_reducible refine (impl_in.calls 7 1 7 _ _ HI.out).mono ?_; rintro e w4 ⟨rfl, hd⟩; have hb := hd.below; clear hd; have n0_ := Aside0.mk (below_step HB.out hb); have n1_ := Aside0.mk (blk_below BK2.out hb); have n2_ := Aside0.mk (blk_below BK3.out hb); clear HB BK2 BK3 hb; have HB := n0_; have BK2 := n1_; have BK3 := n2_; clear n0_ n1_ n2_; clear q0_ q1_ q2_ q3_; have q0_ : w4.cell? ⟨g2, 0, none⟩ = some (.int .i64 7) := (blk_cell BK2.out 0).trans rfl; have q1_ : w4.cell? ⟨g2, 1, none⟩ = some (.int .i64 a0_1) := (blk_cell BK2.out 1).trans rfl; have q2_ : w4.cell? ⟨g2, 2, none⟩ = some (.int .i64 a0_2) := (blk_cell BK2.out 2).trans rfl; have q3_ : w4.cell? ⟨g2, 3, none⟩ = some (.int .i64 0) := (blk_cell BK2.out 3).trans rfl)
    | (go_at_call 84; with_reducible refine (impl_namesOf.calls 1 7 true true false _ HN.out).mono ?_; rintro e w5 ⟨rfl, hb⟩; have n0_ := Aside0.mk (below_step HB.out hb); have n1_ := Aside0.mk (blk_below BK2.out hb); have n2_ := Aside0.mk (blk_below BK3.out hb); clear HB BK2 BK3 hb; have HB := n0_; have BK2 := n1_; have BK3 := n2_; clear n0_ n1_ n2_; clear q0_ q1_ q2_ q3_)
    | ((with_reducible refine gate_dst (N := 5) rfl ?_); refine box_event ?hg (N := 5) ?hd (cs := #[.bool false, .bool false, .bool false]) (t := 116) ?hr ?_; (case hd => rfl); (case hg => rfl); (case hr => first | (go_simp; done) | (go_simp; rfl)); intro g5 hg w6 hbox hb; have n0_ := Aside0.mk (below_step HB.out hb); have n1_ := Aside0.mk (blk_below BK2.out hb); have n2_ := Aside0.mk (blk_below BK3.out hb); have n3_ := Aside0.mk hbox; have n4_ := Aside0.mk (show w.heap.size ≤ g5 by rw [hg]; exact below_size HB.out); have n5_ := Aside0.mk (show g2 ≠ g5 by rw [hg]; exact Nat.ne_of_lt (blk_lt BK2.out)); have n6_ := Aside0.mk (show g3 ≠ g5 by rw [hg]; exact Nat.ne_of_lt (blk_lt BK3.out)); clear HB BK2 BK3; have HB := n0_; have BK2 := n1_; have BK3 := n2_; have BK5 := n3_; have GE5 := n4_; have NB25 := n5_; have NB35 := n6_; clear n0_ n1_ n2_ n3_ n4_ n5_ n6_ hb hbox hg; have hnb_ := NB25.out; have hnc_ := NB25.out.symm; have q0_ : w6.cell? ⟨g2, 0, none⟩ = some (.int .i64 7) := (blk_cell BK2.out 0).trans rfl; have q1_ : w6.cell? ⟨g2, 1, none⟩ = some (.int .i64 a0_1) := (blk_cell BK2.out 1).trans rfl; have q2_ : w6.cell? ⟨g2, 2, none⟩ = some (.int .i64 a0_2) := (blk_cell BK2.out 2).trans rfl; have q3_ : w6.cell? ⟨g2, 3, none⟩ = some (.int .i64 0) := (blk_cell BK2.out 3).trans rfl; have p0_ : w6.cell? ⟨g5, 0, none⟩ = some (.bool false) := (blk_cell BK5.out 0).trans rfl; have p1_ : w6.cell? ⟨g5, 1, none⟩ = some (.bool false) := (blk_cell BK5.out 1).trans rfl; have p2_ : w6.cell? ⟨g5, 2, none⟩ = some (.bool false) := (blk_cell BK5.out 2).trans rfl; have f0_ := blk_frozen BK5.out 0; have f1_ := blk_frozen BK5.out 1; have f2_ := blk_frozen BK5.out 2)
    | (go_at_call 64; with_reducible refine (impl_in.calls 0 0 9999 _ _ HI2.out).mono ?_; rintro e w7 ⟨rfl, hd⟩; have hb := hd.below; clear hd; have n0_ := Aside0.mk (below_step (by repeat (first | exact HB.out | refine below_set ?_ GE5.out)) hb); have n1_ := Aside0.mk (blk_below (o := .cells #[.int .i64 7, .int .i64 a0_1, .int .i64 a0_2, .int .i64 0] 26 (0, 0)) (by repeat (first | exact BK2.out | refine blk_far ?_ NB25.out _)) hb); have n2_ := Aside0.mk (blk_below (o := .cells #[.slice A1 l1.length c1] 24 (0, 0)) (by repeat (first | exact BK3.out | refine blk_far ?_ NB35.out _)) hb); clear HB BK2 BK3 hb; have HB := n0_; have BK2 := n1_; have BK3 := n2_; clear n0_ n1_ n2_; (try clear q0_ q1_ q2_ q3_); have q0_ : w7.cell? ⟨g2, 0, none⟩ = some (.int .i64 7) := (blk_cell BK2.out 0).trans rfl; have q1_ : w7.cell? ⟨g2, 1, none⟩ = some (.int .i64 a0_1) := (blk_cell BK2.out 1).trans rfl; have q2_ : w7.cell? ⟨g2, 2, none⟩ = some (.int .i64 a0_2) := (blk_cell BK2.out 2).trans rfl; have q3_ : w7.cell? ⟨g2, 3, none⟩ = some (.int .i64 0) := (blk_cell BK2.out 3).trans rfl)
    | (go_at_call 86; (try clear HO); with_reducible refine (impl_Term_parts.calls 1 7 a0_1 a0_2 0 _ _ HP.out).mono ?_; rintro e w8 ⟨v8, rfl, ho, hb⟩; have HO := Aside0.mk ho; clear ho; obtain ⟨Ao, co, eo⟩ := Kd.R_slice HO.out; subst eo; have n0_ := Aside0.mk (below_step (by repeat (first | exact HB.out | refine below_set ?_ GE5.out)) hb); have n1_ := Aside0.mk (blk_below (o := .cells #[.int .i64 7, .int .i64 a0_1, .int .i64 a0_2, .int .i64 0] 26 (0, 0)) (by repeat (first | exact BK2.out | refine blk_far ?_ NB25.out _)) hb); have n2_ := Aside0.mk (blk_below (o := .cells #[.slice A1 l1.length c1] 24 (0, 0)) (by repeat (first | exact BK3.out | refine blk_far ?_ NB35.out _)) hb); clear HB BK2 BK3 hb; have HB := n0_; have BK2 := n1_; have BK3 := n2_; clear n0_ n1_ n2_; (try clear q0_ q1_ q2_ q3_); have q0_ : w8.cell? ⟨g2, 0, none⟩ = some (.int .i64 7) := (blk_cell BK2.out 0).trans rfl; have q1_ : w8.cell? ⟨g2, 1, none⟩ = some (.int .i64 a0_1) := (blk_cell BK2.out 1).trans rfl; have q2_ : w8.cell? ⟨g2, 2, none⟩ = some (.int .i64 a0_2) := (blk_cell BK2.out 2).trans rfl; have q3_ : w8.cell? ⟨g2, 3, none⟩ = some (.int .i64 0) := (blk_cell BK2.out 3).trans rfl)
    | (go_at_call 85; refine (slices_ContainsFunc_int64_int64.calls 87 #[.pointer (some ⟨g3, 0, none⟩)] (fun x => !decide (0 ≤ x ∧ x ≤ (l1.length : Int) - 1)) Ao co _ _ (enters_of Try.func87 (by kernel_rfl) rfl) (fun W x _ hB => (impl_fault_1.calls A1 l1.length c1 g3 x HL.out W ((hB.cell (p := ⟨g3, 0, none⟩) (blk_lt BK3.out)).trans ((blk_cell BK3.out 0).trans rfl))).mono (fun _ _ h => ⟨h.1, below_step hB h.2⟩)) (Kd.R_reads' HO.out).2.2 (by simp)).mono ?_; rintro e w9 ⟨he, hb⟩; rw [HANY.out] at he; subst he; have n0_ := Aside0.mk (below_step (by repeat (first | exact HB.out | refine below_set ?_ GE5.out)) hb); have n1_ := Aside0.mk (blk_below (o := .cells #[.int .i64 7, .int .i64 a0_1, .int .i64 a0_2, .int .i64 0] 26 (0, 0)) (by repeat (first | exact BK2.out | refine blk_far ?_ NB25.out _)) hb); have n2_ := Aside0.mk (blk_below (o := .cells #[.slice A1 l1.length c1] 24 (0, 0)) (by repeat (first | exact BK3.out | refine blk_far ?_ NB35.out _)) hb); clear HB BK2 BK3 hb; have HB := n0_; have BK2 := n1_; have BK3 := n2_; clear n0_ n1_ n2_; (try clear q0_ q1_ q2_ q3_); have q0_ : w9.cell? ⟨g2, 0, none⟩ = some (.int .i64 7) := (blk_cell BK2.out 0).trans rfl; have q1_ : w9.cell? ⟨g2, 1, none⟩ = some (.int .i64 a0_1) := (blk_cell BK2.out 1).trans rfl; have q2_ : w9.cell? ⟨g2, 2, none⟩ = some (.int .i64 a0_2) := (blk_cell BK2.out 2).trans rfl; have q3_ : w9.cell? ⟨g2, 3, none⟩ = some (.int .i64 0) := (blk_cell BK2.out 3).trans rfl)
    | (go_at_call 85; refine (slices_ContainsFunc_int64_int64.calls 89 #[.pointer (some ⟨g3, 0, none⟩)] (fun x => (rd_T26 l1 x).f0 != 2) Ao co _ _ (enters_of Try.func89 (by kernel_rfl) rfl) (fun W x hx hB => (impl_fault_2.calls A1 l1 c1 g3 x W ((hB.cell (p := ⟨g3, 0, none⟩) (blk_lt BK3.out)).trans ((blk_cell BK3.out 0).trans rfl)) (Kd.C_below HR.out (below_step HB.out hB)) (HIN.out x hx).1 (HIN.out x hx).2).mono (fun _ _ h => ⟨h.1, below_step hB h.2⟩)) (Kd.R_reads' HO.out).2.2 (by simp)).mono ?_; rintro e w10 ⟨he, hb⟩; rw [HANY2.out] at he; subst he; have n0_ := Aside0.mk (below_step (by repeat (first | exact HB.out | refine below_set ?_ GE5.out)) hb); have n1_ := Aside0.mk (blk_below (o := .cells #[.int .i64 7, .int .i64 a0_1, .int .i64 a0_2, .int .i64 0] 26 (0, 0)) (by repeat (first | exact BK2.out | refine blk_far ?_ NB25.out _)) hb); have n2_ := Aside0.mk (blk_below (o := .cells #[.slice A1 l1.length c1] 24 (0, 0)) (by repeat (first | exact BK3.out | refine blk_far ?_ NB35.out _)) hb); clear HB BK2 BK3 hb; have HB := n0_; have BK2 := n1_; have BK3 := n2_; clear n0_ n1_ n2_; (try clear q0_ q1_ q2_ q3_); have q0_ : w10.cell? ⟨g2, 0, none⟩ = some (.int .i64 7) := (blk_cell BK2.out 0).trans rfl; have q1_ : w10.cell? ⟨g2, 1, none⟩ = some (.int .i64 a0_1) := (blk_cell BK2.out 1).trans rfl; have q2_ : w10.cell? ⟨g2, 2, none⟩ = some (.int .i64 a0_2) := (blk_cell BK2.out 2).trans rfl; have q3_ : w10.cell? ⟨g2, 3, none⟩ = some (.int .i64 0) := (blk_cell BK2.out 3).trans rfl))
  go_ret
  exact ⟨rfl, (by repeat (first | exact HB.out | refine below_set ?_ GE5.out))⟩
set_option maxHeartbeats 4000000 in
set_option maxRecDepth 100000 in
theorem fault_7_ok (a0_1 a0_2 : Int) (A1 : Option Addr) (c1 : Nat) (l1 : List S26) (w : World) (hr1 : Kd.C k26 w A1 l1.length l1) (hl : l1.length ≤ 9223372036854775807) (hp : ([a0_1, a0_2] : List Int).any (fun x => !decide (0 ≤ x ∧ x ≤ (l1.length : Int) - 1)) = false) (hq : ([a0_1, a0_2] : List Int).any (fun x => (rd_T26 l1 x).f0 != 2) = false) (hg : ¬ a0_1 > a0_2) :
    Calls Try.prog 53 #[.agg #[.int .i64 7, .int .i64 a0_1, .int .i64 a0_2, .int .i64 0], .slice A1 l1.length c1] w fun e w' => e = .returned (.int .i64 0) ∧ Below w.heap.size w w' := by
  have hmf : ∀ (fn : Fn) (first cap : Array Value) (w : World), (Instr.makeFunc fn first cap).run Try.prog w = .ok (.func fn first cap) w := fun _ _ _ _ => rfl
  have HB := Aside0.mk (Below.refl w.heap.size w)
  have HR := Aside0.mk hr1
  have HL := Aside0.mk hl
  clear hr1 hl
  have HI := Aside0.mk (show impl_in.f 7 1 7 = some true by rw [impl_in_eq]; rfl)
  have HN := Aside0.mk (show impl_namesOf.f 1 7 = some (true, true, false) by simp [impl_namesOf.f, impl_namesOf.j0])
  have HI2 := Aside0.mk (show impl_in.f 0 0 9999 = some true by rw [impl_in_eq]; rfl)
  have HP := Aside0.mk (show impl_Term_parts.f 1 7 a0_1 a0_2 0 = some ([a0_1, a0_2] : List Int) by simp [impl_Term_parts.f, impl_namesOf.f, impl_namesOf.j0])
  have HANY := Aside0.mk hp
  have HIN := Aside0.mk (fault_in l1 [a0_1, a0_2] hp)
  clear hp
  have HANY2 := Aside0.mk hq
  clear hq
  have hg0 : decide (a0_1 > a0_2) = false := decide_eq_false hg
  have hg1 : decide (a0_2 < a0_1) = false := decide_eq_false hg
  clear hg
  go_enter Try.func53, Try.ntmps53
  go_wp2_with (first
    | ((with_reducible refine gate_dst (N := 2) rfl ?_); refine box_event ?hg (N := 2) ?hd (cs := #[.int .i64 7, .int .i64 a0_1, .int .i64 a0_2, .int .i64 0]) (t := 26) ?hr ?_; (case hd => rfl); (case hg => rfl); (case hr => first | (go_simp; done) | (go_simp; rfl)); intro g2 hg w2 hbox hb; have n0_ := Aside0.mk (below_step HB.out hb); have n1_ := Aside0.mk hbox; clear HB; have HB := n0_; have BK2 := n1_; clear n0_ n1_ hb hbox hg)
    | ((with_reducible refine gate_dst (N := 3) rfl ?_); refine box_event ?hg (N := 3) ?hd (cs := #[.slice A1 l1.length c1]) (t := 24) ?hr ?_; (case hd => rfl); (case hg => rfl); (case hr => first | (go_simp; done) | (go_simp; rfl)); intro g3 hg w3 hbox hb; have n0_ := Aside0.mk (below_step HB.out hb); have n1_ := Aside0.mk (blk_below BK2.out hb); have n2_ := Aside0.mk hbox; clear HB BK2; have HB := n0_; have BK2 := n1_; have BK3 := n2_; clear n0_ n1_ n2_ hb hbox hg; have q0_ : w3.cell? ⟨g2, 0, none⟩ = some (.int .i64 7) := (blk_cell BK2.out 0).trans rfl; have q1_ : w3.cell? ⟨g2, 1, none⟩ = some (.int .i64 a0_1) := (blk_cell BK2.out 1).trans rfl; have q2_ : w3.cell? ⟨g2, 2, none⟩ = some (.int .i64 a0_2) := (blk_cell BK2.out 2).trans rfl; have q3_ : w3.cell? ⟨g2, 3, none⟩ = some (.int .i64 0) := (blk_cell BK2.out 3).trans rfl)
    | (go_at_call 64; with_reducible refine (impl_in.calls 7 1 7 _ _ HI.out).mono ?_; rintro e w4 ⟨rfl, hd⟩; have hb := hd.below; clear hd; have n0_ := Aside0.mk (below_step HB.out hb); have n1_ := Aside0.mk (blk_below BK2.out hb); have n2_ := Aside0.mk (blk_below BK3.out hb); clear HB BK2 BK3 hb; have HB := n0_; have BK2 := n1_; have BK3 := n2_; clear n0_ n1_ n2_; clear q0_ q1_ q2_ q3_; have q0_ : w4.cell? ⟨g2, 0, none⟩ = some (.int .i64 7) := (blk_cell BK2.out 0).trans rfl; have q1_ : w4.cell? ⟨g2, 1, none⟩ = some (.int .i64 a0_1) := (blk_cell BK2.out 1).trans rfl; have q2_ : w4.cell? ⟨g2, 2, none⟩ = some (.int .i64 a0_2) := (blk_cell BK2.out 2).trans rfl; have q3_ : w4.cell? ⟨g2, 3, none⟩ = some (.int .i64 0) := (blk_cell BK2.out 3).trans rfl)
    | (go_at_call 84; with_reducible refine (impl_namesOf.calls 1 7 true true false _ HN.out).mono ?_; rintro e w5 ⟨rfl, hb⟩; have n0_ := Aside0.mk (below_step HB.out hb); have n1_ := Aside0.mk (blk_below BK2.out hb); have n2_ := Aside0.mk (blk_below BK3.out hb); clear HB BK2 BK3 hb; have HB := n0_; have BK2 := n1_; have BK3 := n2_; clear n0_ n1_ n2_; clear q0_ q1_ q2_ q3_)
    | ((with_reducible refine gate_dst (N := 5) rfl ?_); refine box_event ?hg (N := 5) ?hd (cs := #[.bool false, .bool false, .bool false]) (t := 116) ?hr ?_; (case hd => rfl); (case hg => rfl); (case hr => first | (go_simp; done) | (go_simp; rfl)); intro g5 hg w6 hbox hb; have n0_ := Aside0.mk (below_step HB.out hb); have n1_ := Aside0.mk (blk_below BK2.out hb); have n2_ := Aside0.mk (blk_below BK3.out hb); have n3_ := Aside0.mk hbox; have n4_ := Aside0.mk (show w.heap.size ≤ g5 by rw [hg]; exact below_size HB.out); have n5_ := Aside0.mk (show g2 ≠ g5 by rw [hg]; exact Nat.ne_of_lt (blk_lt BK2.out)); have n6_ := Aside0.mk (show g3 ≠ g5 by rw [hg]; exact Nat.ne_of_lt (blk_lt BK3.out)); clear HB BK2 BK3; have HB := n0_; have BK2 := n1_; have BK3 := n2_; have BK5 := n3_; have GE5 := n4_; have NB25 := n5_; have NB35 := n6_; clear n0_ n1_ n2_ n3_ n4_ n5_ n6_ hb hbox hg; have hnb_ := NB25.out; have hnc_ := NB25.out.symm; have q0_ : w6.cell? ⟨g2, 0, none⟩ = some (.int .i64 7) := (blk_cell BK2.out 0).trans rfl; have q1_ : w6.cell? ⟨g2, 1, none⟩ = some (.int .i64 a0_1) := (blk_cell BK2.out 1).trans rfl; have q2_ : w6.cell? ⟨g2, 2, none⟩ = some (.int .i64 a0_2) := (blk_cell BK2.out 2).trans rfl; have q3_ : w6.cell? ⟨g2, 3, none⟩ = some (.int .i64 0) := (blk_cell BK2.out 3).trans rfl; have p0_ : w6.cell? ⟨g5, 0, none⟩ = some (.bool false) := (blk_cell BK5.out 0).trans rfl; have p1_ : w6.cell? ⟨g5, 1, none⟩ = some (.bool false) := (blk_cell BK5.out 1).trans rfl; have p2_ : w6.cell? ⟨g5, 2, none⟩ = some (.bool false) := (blk_cell BK5.out 2).trans rfl; have f0_ := blk_frozen BK5.out 0; have f1_ := blk_frozen BK5.out 1; have f2_ := blk_frozen BK5.out 2)
    | (go_at_call 64; with_reducible refine (impl_in.calls 0 0 9999 _ _ HI2.out).mono ?_; rintro e w7 ⟨rfl, hd⟩; have hb := hd.below; clear hd; have n0_ := Aside0.mk (below_step (by repeat (first | exact HB.out | refine below_set ?_ GE5.out)) hb); have n1_ := Aside0.mk (blk_below (o := .cells #[.int .i64 7, .int .i64 a0_1, .int .i64 a0_2, .int .i64 0] 26 (0, 0)) (by repeat (first | exact BK2.out | refine blk_far ?_ NB25.out _)) hb); have n2_ := Aside0.mk (blk_below (o := .cells #[.slice A1 l1.length c1] 24 (0, 0)) (by repeat (first | exact BK3.out | refine blk_far ?_ NB35.out _)) hb); clear HB BK2 BK3 hb; have HB := n0_; have BK2 := n1_; have BK3 := n2_; clear n0_ n1_ n2_; (try clear q0_ q1_ q2_ q3_); have q0_ : w7.cell? ⟨g2, 0, none⟩ = some (.int .i64 7) := (blk_cell BK2.out 0).trans rfl; have q1_ : w7.cell? ⟨g2, 1, none⟩ = some (.int .i64 a0_1) := (blk_cell BK2.out 1).trans rfl; have q2_ : w7.cell? ⟨g2, 2, none⟩ = some (.int .i64 a0_2) := (blk_cell BK2.out 2).trans rfl; have q3_ : w7.cell? ⟨g2, 3, none⟩ = some (.int .i64 0) := (blk_cell BK2.out 3).trans rfl)
    | (go_at_call 86; (try clear HO); with_reducible refine (impl_Term_parts.calls 1 7 a0_1 a0_2 0 _ _ HP.out).mono ?_; rintro e w8 ⟨v8, rfl, ho, hb⟩; have HO := Aside0.mk ho; clear ho; obtain ⟨Ao, co, eo⟩ := Kd.R_slice HO.out; subst eo; have n0_ := Aside0.mk (below_step (by repeat (first | exact HB.out | refine below_set ?_ GE5.out)) hb); have n1_ := Aside0.mk (blk_below (o := .cells #[.int .i64 7, .int .i64 a0_1, .int .i64 a0_2, .int .i64 0] 26 (0, 0)) (by repeat (first | exact BK2.out | refine blk_far ?_ NB25.out _)) hb); have n2_ := Aside0.mk (blk_below (o := .cells #[.slice A1 l1.length c1] 24 (0, 0)) (by repeat (first | exact BK3.out | refine blk_far ?_ NB35.out _)) hb); clear HB BK2 BK3 hb; have HB := n0_; have BK2 := n1_; have BK3 := n2_; clear n0_ n1_ n2_; (try clear q0_ q1_ q2_ q3_); have q0_ : w8.cell? ⟨g2, 0, none⟩ = some (.int .i64 7) := (blk_cell BK2.out 0).trans rfl; have q1_ : w8.cell? ⟨g2, 1, none⟩ = some (.int .i64 a0_1) := (blk_cell BK2.out 1).trans rfl; have q2_ : w8.cell? ⟨g2, 2, none⟩ = some (.int .i64 a0_2) := (blk_cell BK2.out 2).trans rfl; have q3_ : w8.cell? ⟨g2, 3, none⟩ = some (.int .i64 0) := (blk_cell BK2.out 3).trans rfl)
    | (go_at_call 85; refine (slices_ContainsFunc_int64_int64.calls 87 #[.pointer (some ⟨g3, 0, none⟩)] (fun x => !decide (0 ≤ x ∧ x ≤ (l1.length : Int) - 1)) Ao co _ _ (enters_of Try.func87 (by kernel_rfl) rfl) (fun W x _ hB => (impl_fault_1.calls A1 l1.length c1 g3 x HL.out W ((hB.cell (p := ⟨g3, 0, none⟩) (blk_lt BK3.out)).trans ((blk_cell BK3.out 0).trans rfl))).mono (fun _ _ h => ⟨h.1, below_step hB h.2⟩)) (Kd.R_reads' HO.out).2.2 (by simp)).mono ?_; rintro e w9 ⟨he, hb⟩; rw [HANY.out] at he; subst he; have n0_ := Aside0.mk (below_step (by repeat (first | exact HB.out | refine below_set ?_ GE5.out)) hb); have n1_ := Aside0.mk (blk_below (o := .cells #[.int .i64 7, .int .i64 a0_1, .int .i64 a0_2, .int .i64 0] 26 (0, 0)) (by repeat (first | exact BK2.out | refine blk_far ?_ NB25.out _)) hb); have n2_ := Aside0.mk (blk_below (o := .cells #[.slice A1 l1.length c1] 24 (0, 0)) (by repeat (first | exact BK3.out | refine blk_far ?_ NB35.out _)) hb); clear HB BK2 BK3 hb; have HB := n0_; have BK2 := n1_; have BK3 := n2_; clear n0_ n1_ n2_; (try clear q0_ q1_ q2_ q3_); have q0_ : w9.cell? ⟨g2, 0, none⟩ = some (.int .i64 7) := (blk_cell BK2.out 0).trans rfl; have q1_ : w9.cell? ⟨g2, 1, none⟩ = some (.int .i64 a0_1) := (blk_cell BK2.out 1).trans rfl; have q2_ : w9.cell? ⟨g2, 2, none⟩ = some (.int .i64 a0_2) := (blk_cell BK2.out 2).trans rfl; have q3_ : w9.cell? ⟨g2, 3, none⟩ = some (.int .i64 0) := (blk_cell BK2.out 3).trans rfl)
    | (go_at_call 85; refine (slices_ContainsFunc_int64_int64.calls 89 #[.pointer (some ⟨g3, 0, none⟩)] (fun x => (rd_T26 l1 x).f0 != 2) Ao co _ _ (enters_of Try.func89 (by kernel_rfl) rfl) (fun W x hx hB => (impl_fault_2.calls A1 l1 c1 g3 x W ((hB.cell (p := ⟨g3, 0, none⟩) (blk_lt BK3.out)).trans ((blk_cell BK3.out 0).trans rfl)) (Kd.C_below HR.out (below_step HB.out hB)) (HIN.out x hx).1 (HIN.out x hx).2).mono (fun _ _ h => ⟨h.1, below_step hB h.2⟩)) (Kd.R_reads' HO.out).2.2 (by simp)).mono ?_; rintro e w10 ⟨he, hb⟩; rw [HANY2.out] at he; subst he; have n0_ := Aside0.mk (below_step (by repeat (first | exact HB.out | refine below_set ?_ GE5.out)) hb); have n1_ := Aside0.mk (blk_below (o := .cells #[.int .i64 7, .int .i64 a0_1, .int .i64 a0_2, .int .i64 0] 26 (0, 0)) (by repeat (first | exact BK2.out | refine blk_far ?_ NB25.out _)) hb); have n2_ := Aside0.mk (blk_below (o := .cells #[.slice A1 l1.length c1] 24 (0, 0)) (by repeat (first | exact BK3.out | refine blk_far ?_ NB35.out _)) hb); clear HB BK2 BK3 hb; have HB := n0_; have BK2 := n1_; have BK3 := n2_; clear n0_ n1_ n2_; (try clear q0_ q1_ q2_ q3_); have q0_ : w10.cell? ⟨g2, 0, none⟩ = some (.int .i64 7) := (blk_cell BK2.out 0).trans rfl; have q1_ : w10.cell? ⟨g2, 1, none⟩ = some (.int .i64 a0_1) := (blk_cell BK2.out 1).trans rfl; have q2_ : w10.cell? ⟨g2, 2, none⟩ = some (.int .i64 a0_2) := (blk_cell BK2.out 2).trans rfl; have q3_ : w10.cell? ⟨g2, 3, none⟩ = some (.int .i64 0) := (blk_cell BK2.out 3).trans rfl))
  go_ret
  exact ⟨rfl, (by repeat (first | exact HB.out | refine below_set ?_ GE5.out))⟩
set_option maxHeartbeats 4000000 in
set_option maxRecDepth 100000 in
theorem fault_6_b (a0_1 a0_2 a0_3 : Int) (A1 : Option Addr) (c1 : Nat) (l1 : List S26) (w : World) (hr1 : Kd.C k26 w A1 l1.length l1) (hl : l1.length ≤ 9223372036854775807) (h : ¬ a0_2 = 0) :
    Calls Try.prog 53 #[.agg #[.int .i64 6, .int .i64 a0_1, .int .i64 a0_2, .int .i64 a0_3], .slice A1 l1.length c1] w fun e w' => e = .returned (.int .i64 1) ∧ Below w.heap.size w w' := by
  have hmf : ∀ (fn : Fn) (first cap : Array Value) (w : World), (Instr.makeFunc fn first cap).run Try.prog w = .ok (.func fn first cap) w := fun _ _ _ _ => rfl
  have HB := Aside0.mk (Below.refl w.heap.size w)
  have HR := Aside0.mk hr1
  have HL := Aside0.mk hl
  clear hr1 hl
  have h0 : (a0_2 == 0) = false := by simpa using h
  have h1 : (a0_2 != 0) = true := by simpa using h
  have h2 : decide (a0_2 = 0) = false := decide_eq_false h
  clear h
  have HI := Aside0.mk (show impl_in.f 6 1 7 = some true by rw [impl_in_eq]; rfl)
  have HN := Aside0.mk (show impl_namesOf.f 1 6 = some (true, false, false) by simp [impl_namesOf.f, impl_namesOf.j0])
  go_enter Try.func53, Try.ntmps53
  go_wp2_with (first
    | ((with_reducible refine gate_dst (N := 2) rfl ?_); refine box_event ?hg (N := 2) ?hd (cs := #[.int .i64 6, .int .i64 a0_1, .int .i64 a0_2, .int .i64 a0_3]) (t := 26) ?hr ?_; (case hd => rfl); (case hg => rfl); (case hr => first | (go_simp; done) | (go_simp; rfl)); intro g2 hg w2 hbox hb; have n0_ := Aside0.mk (below_step HB.out hb); have n1_ := Aside0.mk hbox; clear HB; have HB := n0_; have BK2 := n1_; clear n0_ n1_ hb hbox hg)
    | ((with_reducible refine gate_dst (N := 3) rfl ?_); refine box_event ?hg (N := 3) ?hd (cs := #[.slice A1 l1.length c1]) (t := 24) ?hr ?_; (case hd => rfl); (case hg => rfl); (case hr => first | (go_simp; done) | (go_simp; rfl)); intro g3 hg w3 hbox hb; have n0_ := Aside0.mk (below_step HB.out hb); have n1_ := Aside0.mk (blk_below BK2.out hb); have n2_ := Aside0.mk hbox; clear HB BK2; have HB := n0_; have BK2 := n1_; have BK3 := n2_; clear n0_ n1_ n2_ hb hbox hg; have q0_ : w3.cell? ⟨g2, 0, none⟩ = some (.int .i64 6) := (blk_cell BK2.out 0).trans rfl; have q1_ : w3.cell? ⟨g2, 1, none⟩ = some (.int .i64 a0_1) := (blk_cell BK2.out 1).trans rfl; have q2_ : w3.cell? ⟨g2, 2, none⟩ = some (.int .i64 a0_2) := (blk_cell BK2.out 2).trans rfl; have q3_ : w3.cell? ⟨g2, 3, none⟩ = some (.int .i64 a0_3) := (blk_cell BK2.out 3).trans rfl)
    | (go_at_call 64; with_reducible refine (impl_in.calls 6 1 7 _ _ HI.out).mono ?_; rintro e w4 ⟨rfl, hd⟩; have hb := hd.below; clear hd; have n0_ := Aside0.mk (below_step HB.out hb); have n1_ := Aside0.mk (blk_below BK2.out hb); have n2_ := Aside0.mk (blk_below BK3.out hb); clear HB BK2 BK3 hb; have HB := n0_; have BK2 := n1_; have BK3 := n2_; clear n0_ n1_ n2_; clear q0_ q1_ q2_ q3_; have q0_ : w4.cell? ⟨g2, 0, none⟩ = some (.int .i64 6) := (blk_cell BK2.out 0).trans rfl; have q1_ : w4.cell? ⟨g2, 1, none⟩ = some (.int .i64 a0_1) := (blk_cell BK2.out 1).trans rfl; have q2_ : w4.cell? ⟨g2, 2, none⟩ = some (.int .i64 a0_2) := (blk_cell BK2.out 2).trans rfl; have q3_ : w4.cell? ⟨g2, 3, none⟩ = some (.int .i64 a0_3) := (blk_cell BK2.out 3).trans rfl)
    | (go_at_call 84; with_reducible refine (impl_namesOf.calls 1 6 true false false _ HN.out).mono ?_; rintro e w5 ⟨rfl, hb⟩; have n0_ := Aside0.mk (below_step HB.out hb); have n1_ := Aside0.mk (blk_below BK2.out hb); have n2_ := Aside0.mk (blk_below BK3.out hb); clear HB BK2 BK3 hb; have HB := n0_; have BK2 := n1_; have BK3 := n2_; clear n0_ n1_ n2_; clear q0_ q1_ q2_ q3_)
    | ((with_reducible refine gate_dst (N := 5) rfl ?_); refine box_event ?hg (N := 5) ?hd (cs := #[.bool false, .bool false, .bool false]) (t := 116) ?hr ?_; (case hd => rfl); (case hg => rfl); (case hr => first | (go_simp; done) | (go_simp; rfl)); intro g5 hg w6 hbox hb; have n0_ := Aside0.mk (below_step HB.out hb); have n1_ := Aside0.mk (blk_below BK2.out hb); have n2_ := Aside0.mk (blk_below BK3.out hb); have n3_ := Aside0.mk hbox; have n4_ := Aside0.mk (show w.heap.size ≤ g5 by rw [hg]; exact below_size HB.out); have n5_ := Aside0.mk (show g2 ≠ g5 by rw [hg]; exact Nat.ne_of_lt (blk_lt BK2.out)); have n6_ := Aside0.mk (show g3 ≠ g5 by rw [hg]; exact Nat.ne_of_lt (blk_lt BK3.out)); clear HB BK2 BK3; have HB := n0_; have BK2 := n1_; have BK3 := n2_; have BK5 := n3_; have GE5 := n4_; have NB25 := n5_; have NB35 := n6_; clear n0_ n1_ n2_ n3_ n4_ n5_ n6_ hb hbox hg; have hnb_ := NB25.out; have hnc_ := NB25.out.symm; have q0_ : w6.cell? ⟨g2, 0, none⟩ = some (.int .i64 6) := (blk_cell BK2.out 0).trans rfl; have q1_ : w6.cell? ⟨g2, 1, none⟩ = some (.int .i64 a0_1) := (blk_cell BK2.out 1).trans rfl; have q2_ : w6.cell? ⟨g2, 2, none⟩ = some (.int .i64 a0_2) := (blk_cell BK2.out 2).trans rfl; have q3_ : w6.cell? ⟨g2, 3, none⟩ = some (.int .i64 a0_3) := (blk_cell BK2.out 3).trans rfl; have p0_ : w6.cell? ⟨g5, 0, none⟩ = some (.bool false) := (blk_cell BK5.out 0).trans rfl; have p1_ : w6.cell? ⟨g5, 1, none⟩ = some (.bool false) := (blk_cell BK5.out 1).trans rfl; have p2_ : w6.cell? ⟨g5, 2, none⟩ = some (.bool false) := (blk_cell BK5.out 2).trans rfl; have f0_ := blk_frozen BK5.out 0; have f1_ := blk_frozen BK5.out 1; have f2_ := blk_frozen BK5.out 2))
  go_ret
  exact ⟨rfl, (by repeat (first | exact HB.out | refine below_set ?_ GE5.out))⟩
set_option maxHeartbeats 4000000 in
set_option maxRecDepth 100000 in
theorem fault_6_f (a0_1 a0_3 : Int) (A1 : Option Addr) (c1 : Nat) (l1 : List S26) (w : World) (hr1 : Kd.C k26 w A1 l1.length l1) (hl : l1.length ≤ 9223372036854775807) (h : ¬ a0_3 = 0) :
    Calls Try.prog 53 #[.agg #[.int .i64 6, .int .i64 a0_1, .int .i64 0, .int .i64 a0_3], .slice A1 l1.length c1] w fun e w' => e = .returned (.int .i64 1) ∧ Below w.heap.size w w' := by
  have hmf : ∀ (fn : Fn) (first cap : Array Value) (w : World), (Instr.makeFunc fn first cap).run Try.prog w = .ok (.func fn first cap) w := fun _ _ _ _ => rfl
  have HB := Aside0.mk (Below.refl w.heap.size w)
  have HR := Aside0.mk hr1
  have HL := Aside0.mk hl
  clear hr1 hl
  have h0 : (a0_3 == 0) = false := by simpa using h
  have h1 : (a0_3 != 0) = true := by simpa using h
  have h2 : decide (a0_3 = 0) = false := decide_eq_false h
  clear h
  have HI := Aside0.mk (show impl_in.f 6 1 7 = some true by rw [impl_in_eq]; rfl)
  have HN := Aside0.mk (show impl_namesOf.f 1 6 = some (true, false, false) by simp [impl_namesOf.f, impl_namesOf.j0])
  go_enter Try.func53, Try.ntmps53
  go_wp2_with (first
    | ((with_reducible refine gate_dst (N := 2) rfl ?_); refine box_event ?hg (N := 2) ?hd (cs := #[.int .i64 6, .int .i64 a0_1, .int .i64 0, .int .i64 a0_3]) (t := 26) ?hr ?_; (case hd => rfl); (case hg => rfl); (case hr => first | (go_simp; done) | (go_simp; rfl)); intro g2 hg w2 hbox hb; have n0_ := Aside0.mk (below_step HB.out hb); have n1_ := Aside0.mk hbox; clear HB; have HB := n0_; have BK2 := n1_; clear n0_ n1_ hb hbox hg)
    | ((with_reducible refine gate_dst (N := 3) rfl ?_); refine box_event ?hg (N := 3) ?hd (cs := #[.slice A1 l1.length c1]) (t := 24) ?hr ?_; (case hd => rfl); (case hg => rfl); (case hr => first | (go_simp; done) | (go_simp; rfl)); intro g3 hg w3 hbox hb; have n0_ := Aside0.mk (below_step HB.out hb); have n1_ := Aside0.mk (blk_below BK2.out hb); have n2_ := Aside0.mk hbox; clear HB BK2; have HB := n0_; have BK2 := n1_; have BK3 := n2_; clear n0_ n1_ n2_ hb hbox hg; have q0_ : w3.cell? ⟨g2, 0, none⟩ = some (.int .i64 6) := (blk_cell BK2.out 0).trans rfl; have q1_ : w3.cell? ⟨g2, 1, none⟩ = some (.int .i64 a0_1) := (blk_cell BK2.out 1).trans rfl; have q2_ : w3.cell? ⟨g2, 2, none⟩ = some (.int .i64 0) := (blk_cell BK2.out 2).trans rfl; have q3_ : w3.cell? ⟨g2, 3, none⟩ = some (.int .i64 a0_3) := (blk_cell BK2.out 3).trans rfl)
    | (go_at_call 64; with_reducible refine (impl_in.calls 6 1 7 _ _ HI.out).mono ?_; rintro e w4 ⟨rfl, hd⟩; have hb := hd.below; clear hd; have n0_ := Aside0.mk (below_step HB.out hb); have n1_ := Aside0.mk (blk_below BK2.out hb); have n2_ := Aside0.mk (blk_below BK3.out hb); clear HB BK2 BK3 hb; have HB := n0_; have BK2 := n1_; have BK3 := n2_; clear n0_ n1_ n2_; clear q0_ q1_ q2_ q3_; have q0_ : w4.cell? ⟨g2, 0, none⟩ = some (.int .i64 6) := (blk_cell BK2.out 0).trans rfl; have q1_ : w4.cell? ⟨g2, 1, none⟩ = some (.int .i64 a0_1) := (blk_cell BK2.out 1).trans rfl; have q2_ : w4.cell? ⟨g2, 2, none⟩ = some (.int .i64 0) := (blk_cell BK2.out 2).trans rfl; have q3_ : w4.cell? ⟨g2, 3, none⟩ = some (.int .i64 a0_3) := (blk_cell BK2.out 3).trans rfl)
    | (go_at_call 84; with_reducible refine (impl_namesOf.calls 1 6 true false false _ HN.out).mono ?_; rintro e w5 ⟨rfl, hb⟩; have n0_ := Aside0.mk (below_step HB.out hb); have n1_ := Aside0.mk (blk_below BK2.out hb); have n2_ := Aside0.mk (blk_below BK3.out hb); clear HB BK2 BK3 hb; have HB := n0_; have BK2 := n1_; have BK3 := n2_; clear n0_ n1_ n2_; clear q0_ q1_ q2_ q3_)
    | ((with_reducible refine gate_dst (N := 5) rfl ?_); refine box_event ?hg (N := 5) ?hd (cs := #[.bool false, .bool false, .bool false]) (t := 116) ?hr ?_; (case hd => rfl); (case hg => rfl); (case hr => first | (go_simp; done) | (go_simp; rfl)); intro g5 hg w6 hbox hb; have n0_ := Aside0.mk (below_step HB.out hb); have n1_ := Aside0.mk (blk_below BK2.out hb); have n2_ := Aside0.mk (blk_below BK3.out hb); have n3_ := Aside0.mk hbox; have n4_ := Aside0.mk (show w.heap.size ≤ g5 by rw [hg]; exact below_size HB.out); have n5_ := Aside0.mk (show g2 ≠ g5 by rw [hg]; exact Nat.ne_of_lt (blk_lt BK2.out)); have n6_ := Aside0.mk (show g3 ≠ g5 by rw [hg]; exact Nat.ne_of_lt (blk_lt BK3.out)); clear HB BK2 BK3; have HB := n0_; have BK2 := n1_; have BK3 := n2_; have BK5 := n3_; have GE5 := n4_; have NB25 := n5_; have NB35 := n6_; clear n0_ n1_ n2_ n3_ n4_ n5_ n6_ hb hbox hg; have hnb_ := NB25.out; have hnc_ := NB25.out.symm; have q0_ : w6.cell? ⟨g2, 0, none⟩ = some (.int .i64 6) := (blk_cell BK2.out 0).trans rfl; have q1_ : w6.cell? ⟨g2, 1, none⟩ = some (.int .i64 a0_1) := (blk_cell BK2.out 1).trans rfl; have q2_ : w6.cell? ⟨g2, 2, none⟩ = some (.int .i64 0) := (blk_cell BK2.out 2).trans rfl; have q3_ : w6.cell? ⟨g2, 3, none⟩ = some (.int .i64 a0_3) := (blk_cell BK2.out 3).trans rfl; have p0_ : w6.cell? ⟨g5, 0, none⟩ = some (.bool false) := (blk_cell BK5.out 0).trans rfl; have p1_ : w6.cell? ⟨g5, 1, none⟩ = some (.bool false) := (blk_cell BK5.out 1).trans rfl; have p2_ : w6.cell? ⟨g5, 2, none⟩ = some (.bool false) := (blk_cell BK5.out 2).trans rfl; have f0_ := blk_frozen BK5.out 0; have f1_ := blk_frozen BK5.out 1; have f2_ := blk_frozen BK5.out 2))
  go_ret
  exact ⟨rfl, (by repeat (first | exact HB.out | refine below_set ?_ GE5.out))⟩
set_option maxHeartbeats 4000000 in
set_option maxRecDepth 100000 in
theorem fault_6_p (a0_1 : Int) (A1 : Option Addr) (c1 : Nat) (l1 : List S26) (w : World) (hr1 : Kd.C k26 w A1 l1.length l1) (hl : l1.length ≤ 9223372036854775807) (hp : ([a0_1] : List Int).any (fun x => !decide (0 ≤ x ∧ x ≤ (l1.length : Int) - 1)) = true) :
    Calls Try.prog 53 #[.agg #[.int .i64 6, .int .i64 a0_1, .int .i64 0, .int .i64 0], .slice A1 l1.length c1] w fun e w' => e = .returned (.int .i64 3) ∧ Below w.heap.size w w' := by
  have hmf : ∀ (fn : Fn) (first cap : Array Value) (w : World), (Instr.makeFunc fn first cap).run Try.prog w = .ok (.func fn first cap) w := fun _ _ _ _ => rfl
  have HB := Aside0.mk (Below.refl w.heap.size w)
  have HR := Aside0.mk hr1
  have HL := Aside0.mk hl
  clear hr1 hl
  have HI := Aside0.mk (show impl_in.f 6 1 7 = some true by rw [impl_in_eq]; rfl)
  have HN := Aside0.mk (show impl_namesOf.f 1 6 = some (true, false, false) by simp [impl_namesOf.f, impl_namesOf.j0])
  have HI2 := Aside0.mk (show impl_in.f 0 0 9999 = some true by rw [impl_in_eq]; rfl)
  have HP := Aside0.mk (show impl_Term_parts.f 1 6 a0_1 0 0 = some ([a0_1] : List Int) by simp [impl_Term_parts.f, impl_namesOf.f, impl_namesOf.j0])
  have HANY := Aside0.mk hp
  clear hp
  go_enter Try.func53, Try.ntmps53
  go_wp2_with (first
    | ((with_reducible refine gate_dst (N := 2) rfl ?_); refine box_event ?hg (N := 2) ?hd (cs := #[.int .i64 6, .int .i64 a0_1, .int .i64 0, .int .i64 0]) (t := 26) ?hr ?_; (case hd => rfl); (case hg => rfl); (case hr => first | (go_simp; done) | (go_simp; rfl)); intro g2 hg w2 hbox hb; have n0_ := Aside0.mk (below_step HB.out hb); have n1_ := Aside0.mk hbox; clear HB; have HB := n0_; have BK2 := n1_; clear n0_ n1_ hb hbox hg)
    | ((with_reducible refine gate_dst (N := 3) rfl ?_); refine box_event ?hg (N := 3) ?hd (cs := #[.slice A1 l1.length c1]) (t := 24) ?hr ?_; (case hd => rfl); (case hg => rfl); (case hr => first | (go_simp; done) | (go_simp; rfl)); intro g3 hg w3 hbox hb; have n0_ := Aside0.mk (below_step HB.out hb); have n1_ := Aside0.mk (blk_below BK2.out hb); have n2_ := Aside0.mk hbox; clear HB BK2; have HB := n0_; have BK2 := n1_; have BK3 := n2_; clear n0_ n1_ n2_ hb hbox hg; have q0_ : w3.cell? ⟨g2, 0, none⟩ = some (.int .i64 6) := (blk_cell BK2.out 0).trans rfl; have q1_ : w3.cell? ⟨g2, 1, none⟩ = some (.int .i64 a0_1) := (blk_cell BK2.out 1).trans rfl; have q2_ : w3.cell? ⟨g2, 2, none⟩ = some (.int .i64 0) := (blk_cell BK2.out 2).trans rfl; have q3_ : w3.cell? ⟨g2, 3, none⟩ = some (.int .i64 0) := (blk_cell BK2.out 3).trans rfl)
    | (go_at_call 64; with_reducible refine (impl_in.calls 6 1 7 _ _ HI.out).mono ?_; rintro e w4 ⟨rfl, hd⟩; have hb := hd.below; clear hd; have n0_ := Aside0.mk (below_step HB.out hb); have n1_ := Aside0.mk (blk_below BK2.out hb); have n2_ := Aside0.mk (blk_below BK3.out hb); clear HB BK2 BK3 hb; have HB := n0_; have BK2 := n1_; have BK3 := n2_; clear n0_ n1_ n2_; clear q0_ q1_ q2_ q3_; have q0_ : w4.cell? ⟨g2, 0, none⟩ = some (.int .i64 6) := (blk_cell BK2.out 0).trans rfl; have q1_ : w4.cell? ⟨g2, 1, none⟩ = some (.int .i64 a0_1) := (blk_cell BK2.out 1).trans rfl; have q2_ : w4.cell? ⟨g2, 2, none⟩ = some (.int .i64 0) := (blk_cell BK2.out 2).trans rfl; have q3_ : w4.cell? ⟨g2, 3, none⟩ = some (.int .i64 0) := (blk_cell BK2.out 3).trans rfl)
    | (go_at_call 84; with_reducible refine (impl_namesOf.calls 1 6 true false false _ HN.out).mono ?_; rintro e w5 ⟨rfl, hb⟩; have n0_ := Aside0.mk (below_step HB.out hb); have n1_ := Aside0.mk (blk_below BK2.out hb); have n2_ := Aside0.mk (blk_below BK3.out hb); clear HB BK2 BK3 hb; have HB := n0_; have BK2 := n1_; have BK3 := n2_; clear n0_ n1_ n2_; clear q0_ q1_ q2_ q3_)
    | ((with_reducible refine gate_dst (N := 5) rfl ?_); refine box_event ?hg (N := 5) ?hd (cs := #[.bool false, .bool false, .bool false]) (t := 116) ?hr ?_; (case hd => rfl); (case hg => rfl); (case hr => first | (go_simp; done) | (go_simp; rfl)); intro g5 hg w6 hbox hb; have n0_ := Aside0.mk (below_step HB.out hb); have n1_ := Aside0.mk (blk_below BK2.out hb); have n2_ := Aside0.mk (blk_below BK3.out hb); have n3_ := Aside0.mk hbox; have n4_ := Aside0.mk (show w.heap.size ≤ g5 by rw [hg]; exact below_size HB.out); have n5_ := Aside0.mk (show g2 ≠ g5 by rw [hg]; exact Nat.ne_of_lt (blk_lt BK2.out)); have n6_ := Aside0.mk (show g3 ≠ g5 by rw [hg]; exact Nat.ne_of_lt (blk_lt BK3.out)); clear HB BK2 BK3; have HB := n0_; have BK2 := n1_; have BK3 := n2_; have BK5 := n3_; have GE5 := n4_; have NB25 := n5_; have NB35 := n6_; clear n0_ n1_ n2_ n3_ n4_ n5_ n6_ hb hbox hg; have hnb_ := NB25.out; have hnc_ := NB25.out.symm; have q0_ : w6.cell? ⟨g2, 0, none⟩ = some (.int .i64 6) := (blk_cell BK2.out 0).trans rfl; have q1_ : w6.cell? ⟨g2, 1, none⟩ = some (.int .i64 a0_1) := (blk_cell BK2.out 1).trans rfl; have q2_ : w6.cell? ⟨g2, 2, none⟩ = some (.int .i64 0) := (blk_cell BK2.out 2).trans rfl; have q3_ : w6.cell? ⟨g2, 3, none⟩ = some (.int .i64 0) := (blk_cell BK2.out 3).trans rfl; have p0_ : w6.cell? ⟨g5, 0, none⟩ = some (.bool false) := (blk_cell BK5.out 0).trans rfl; have p1_ : w6.cell? ⟨g5, 1, none⟩ = some (.bool false) := (blk_cell BK5.out 1).trans rfl; have p2_ : w6.cell? ⟨g5, 2, none⟩ = some (.bool false) := (blk_cell BK5.out 2).trans rfl; have f0_ := blk_frozen BK5.out 0; have f1_ := blk_frozen BK5.out 1; have f2_ := blk_frozen BK5.out 2)
    | (go_at_call 64; with_reducible refine (impl_in.calls 0 0 9999 _ _ HI2.out).mono ?_; rintro e w7 ⟨rfl, hd⟩; have hb := hd.below; clear hd; have n0_ := Aside0.mk (below_step (by repeat (first | exact HB.out | refine below_set ?_ GE5.out)) hb); have n1_ := Aside0.mk (blk_below (o := .cells #[.int .i64 6, .int .i64 a0_1, .int .i64 0, .int .i64 0] 26 (0, 0)) (by repeat (first | exact BK2.out | refine blk_far ?_ NB25.out _)) hb); have n2_ := Aside0.mk (blk_below (o := .cells #[.slice A1 l1.length c1] 24 (0, 0)) (by repeat (first | exact BK3.out | refine blk_far ?_ NB35.out _)) hb); clear HB BK2 BK3 hb; have HB := n0_; have BK2 := n1_; have BK3 := n2_; clear n0_ n1_ n2_; (try clear q0_ q1_ q2_ q3_); have q0_ : w7.cell? ⟨g2, 0, none⟩ = some (.int .i64 6) := (blk_cell BK2.out 0).trans rfl; have q1_ : w7.cell? ⟨g2, 1, none⟩ = some (.int .i64 a0_1) := (blk_cell BK2.out 1).trans rfl; have q2_ : w7.cell? ⟨g2, 2, none⟩ = some (.int .i64 0) := (blk_cell BK2.out 2).trans rfl; have q3_ : w7.cell? ⟨g2, 3, none⟩ = some (.int .i64 0) := (blk_cell BK2.out 3).trans rfl)
    | (go_at_call 86; (try clear HO); with_reducible refine (impl_Term_parts.calls 1 6 a0_1 0 0 _ _ HP.out).mono ?_; rintro e w8 ⟨v8, rfl, ho, hb⟩; have HO := Aside0.mk ho; clear ho; obtain ⟨Ao, co, eo⟩ := Kd.R_slice HO.out; subst eo; have n0_ := Aside0.mk (below_step (by repeat (first | exact HB.out | refine below_set ?_ GE5.out)) hb); have n1_ := Aside0.mk (blk_below (o := .cells #[.int .i64 6, .int .i64 a0_1, .int .i64 0, .int .i64 0] 26 (0, 0)) (by repeat (first | exact BK2.out | refine blk_far ?_ NB25.out _)) hb); have n2_ := Aside0.mk (blk_below (o := .cells #[.slice A1 l1.length c1] 24 (0, 0)) (by repeat (first | exact BK3.out | refine blk_far ?_ NB35.out _)) hb); clear HB BK2 BK3 hb; have HB := n0_; have BK2 := n1_; have BK3 := n2_; clear n0_ n1_ n2_; (try clear q0_ q1_ q2_ q3_); have q0_ : w8.cell? ⟨g2, 0, none⟩ = some (.int .i64 6) := (blk_cell BK2.out 0).trans rfl; have q1_ : w8.cell? ⟨g2, 1, none⟩ = some (.int .i64 a0_1) := (blk_cell BK2.out 1).trans rfl; have q2_ : w8.cell? ⟨g2, 2, none⟩ = some (.int .i64 0) := (blk_cell BK2.out 2).trans rfl; have q3_ : w8.cell? ⟨g2, 3, none⟩ = some (.int .i64 0) := (blk_cell BK2.out 3).trans rfl)
    | (go_at_call 85; refine (slices_ContainsFunc_int64_int64.calls 87 #[.pointer (some ⟨g3, 0, none⟩)] (fun x => !decide (0 ≤ x ∧ x ≤ (l1.length : Int) - 1)) Ao co _ _ (enters_of Try.func87 (by kernel_rfl) rfl) (fun W x _ hB => (impl_fault_1.calls A1 l1.length c1 g3 x HL.out W ((hB.cell (p := ⟨g3, 0, none⟩) (blk_lt BK3.out)).trans ((blk_cell BK3.out 0).trans rfl))).mono (fun _ _ h => ⟨h.1, below_step hB h.2⟩)) (Kd.R_reads' HO.out).2.2 (by simp)).mono ?_; rintro e w9 ⟨he, hb⟩; rw [HANY.out] at he; subst he; have n0_ := Aside0.mk (below_step (by repeat (first | exact HB.out | refine below_set ?_ GE5.out)) hb); have n1_ := Aside0.mk (blk_below (o := .cells #[.int .i64 6, .int .i64 a0_1, .int .i64 0, .int .i64 0] 26 (0, 0)) (by repeat (first | exact BK2.out | refine blk_far ?_ NB25.out _)) hb); have n2_ := Aside0.mk (blk_below (o := .cells #[.slice A1 l1.length c1] 24 (0, 0)) (by repeat (first | exact BK3.out | refine blk_far ?_ NB35.out _)) hb); clear HB BK2 BK3 hb; have HB := n0_; have BK2 := n1_; have BK3 := n2_; clear n0_ n1_ n2_; (try clear q0_ q1_ q2_ q3_); have q0_ : w9.cell? ⟨g2, 0, none⟩ = some (.int .i64 6) := (blk_cell BK2.out 0).trans rfl; have q1_ : w9.cell? ⟨g2, 1, none⟩ = some (.int .i64 a0_1) := (blk_cell BK2.out 1).trans rfl; have q2_ : w9.cell? ⟨g2, 2, none⟩ = some (.int .i64 0) := (blk_cell BK2.out 2).trans rfl; have q3_ : w9.cell? ⟨g2, 3, none⟩ = some (.int .i64 0) := (blk_cell BK2.out 3).trans rfl))
  go_ret
  exact ⟨rfl, (by repeat (first | exact HB.out | refine below_set ?_ GE5.out))⟩
set_option maxHeartbeats 4000000 in
set_option maxRecDepth 100000 in
theorem fault_6_r (a0_1 : Int) (A1 : Option Addr) (c1 : Nat) (l1 : List S26) (w : World) (hr1 : Kd.C k26 w A1 l1.length l1) (hl : l1.length ≤ 9223372036854775807) (hp : ([a0_1] : List Int).any (fun x => !decide (0 ≤ x ∧ x ≤ (l1.length : Int) - 1)) = false) (hq : ([a0_1] : List Int).any (fun x => (rd_T26 l1 x).f0 != 2) = true) :
    Calls Try.prog 53 #[.agg #[.int .i64 6, .int .i64 a0_1, .int .i64 0, .int .i64 0], .slice A1 l1.length c1] w fun e w' => e = .returned (.int .i64 1) ∧ Below w.heap.size w w' := by
  have hmf : ∀ (fn : Fn) (first cap : Array Value) (w : World), (Instr.makeFunc fn first cap).run Try.prog w = .ok (.func fn first cap) w := fun _ _ _ _ => rfl
  have HB := Aside0.mk (Below.refl w.heap.size w)
  have HR := Aside0.mk hr1
  have HL := Aside0.mk hl
  clear hr1 hl
  have HI := Aside0.mk (show impl_in.f 6 1 7 = some true by rw [impl_in_eq]; rfl)
  have HN := Aside0.mk (show impl_namesOf.f 1 6 = some (true, false, false) by simp [impl_namesOf.f, impl_namesOf.j0])
  have HI2 := Aside0.mk (show impl_in.f 0 0 9999 = some true by rw [impl_in_eq]; rfl)
  have HP := Aside0.mk (show impl_Term_parts.f 1 6 a0_1 0 0 = some ([a0_1] : List Int) by simp [impl_Term_parts.f, impl_namesOf.f, impl_namesOf.j0])
  have HANY := Aside0.mk hp
  have HIN := Aside0.mk (fault_in l1 [a0_1] hp)
  clear hp
  have HANY2 := Aside0.mk hq
  clear hq
  go_enter Try.func53, Try.ntmps53
  go_wp2_with (first
    | ((with_reducible refine gate_dst (N := 2) rfl ?_); refine box_event ?hg (N := 2) ?hd (cs := #[.int .i64 6, .int .i64 a0_1, .int .i64 0, .int .i64 0]) (t := 26) ?hr ?_; (case hd => rfl); (case hg => rfl); (case hr => first | (go_simp; done) | (go_simp; rfl)); intro g2 hg w2 hbox hb; have n0_ := Aside0.mk (below_step HB.out hb); have n1_ := Aside0.mk hbox; clear HB; have HB := n0_; have BK2 := n1_; clear n0_ n1_ hb hbox hg)
    | ((with_reducible refine gate_dst (N := 3) rfl ?_); refine box_event ?hg (N := 3) ?hd (cs := #[.slice A1 l1.length c1]) (t := 24) ?hr ?_; (case hd => rfl); (case hg => rfl); (case hr => first | (go_simp; done) | (go_simp; rfl)); intro g3 hg w3 hbox hb; have n0_ := Aside0.mk (below_step HB.out hb); have n1_ := Aside0.mk (blk_below BK2.out hb); have n2_ := Aside0.mk hbox; clear HB BK2; have HB := n0_; have BK2 := n1_; have BK3 := n2_; clear n0_ n1_ n2_ hb hbox hg; have q0_ : w3.cell? ⟨g2, 0, none⟩ = some (.int .i64 6) := (blk_cell BK2.out 0).trans rfl; have q1_ : w3.cell? ⟨g2, 1, none⟩ = some (.int .i64 a0_1) := (blk_cell BK2.out 1).trans rfl; have q2_ : w3.cell? ⟨g2, 2, none⟩ = some (.int .i64 0) := (blk_cell BK2.out 2).trans rfl; have q3_ : w3.cell? ⟨g2, 3, none⟩ = some (.int .i64 0) := (blk_cell BK2.out 3).trans rfl)
    | (go_at_call 64; with_reducible refine (impl_in.calls 6 1 7 _ _ HI.out).mono ?_; rintro e w4 ⟨rfl, hd⟩; have hb := hd.below; clear hd; have n0_ := Aside0.mk (below_step HB.out hb); have n1_ := Aside0.mk (blk_below BK2.out hb); have n2_ := Aside0.mk (blk_below BK3.out hb); clear HB BK2 BK3 hb; have HB := n0_; have BK2 := n1_; have BK3 := n2_; clear n0_ n1_ n2_; clear q0_ q1_ q2_ q3_; have q0_ : w4.cell? ⟨g2, 0, none⟩ = some (.int .i64 6) := (blk_cell BK2.out 0).trans rfl; have q1_ : w4.cell? ⟨g2, 1, none⟩ = some (.int .i64 a0_1) := (blk_cell BK2.out 1).trans rfl; have q2_ : w4.cell? ⟨g2, 2, none⟩ = some (.int .i64 0) := (blk_cell BK2.out 2).trans rfl; have q3_ : w4.cell? ⟨g2, 3, none⟩ = some (.int .i64 0) := (blk_cell BK2.out 3).trans rfl)
    | (go_at_call 84; with_reducible refine (impl_namesOf.calls 1 6 true false false _ HN.out).mono ?_; rintro e w5 ⟨rfl, hb⟩; have n0_ := Aside0.mk (below_step HB.out hb); have n1_ := Aside0.mk (blk_below BK2.out hb); have n2_ := Aside0.mk (blk_below BK3.out hb); clear HB BK2 BK3 hb; have HB := n0_; have BK2 := n1_; have BK3 := n2_; clear n0_ n1_ n2_; clear q0_ q1_ q2_ q3_)
    | ((with_reducible refine gate_dst (N := 5) rfl ?_); refine box_event ?hg (N := 5) ?hd (cs := #[.bool false, .bool false, .bool false]) (t := 116) ?hr ?_; (case hd => rfl); (case hg => rfl); (case hr => first | (go_simp; done) | (go_simp; rfl)); intro g5 hg w6 hbox hb; have n0_ := Aside0.mk (below_step HB.out hb); have n1_ := Aside0.mk (blk_below BK2.out hb); have n2_ := Aside0.mk (blk_below BK3.out hb); have n3_ := Aside0.mk hbox; have n4_ := Aside0.mk (show w.heap.size ≤ g5 by rw [hg]; exact below_size HB.out); have n5_ := Aside0.mk (show g2 ≠ g5 by rw [hg]; exact Nat.ne_of_lt (blk_lt BK2.out)); have n6_ := Aside0.mk (show g3 ≠ g5 by rw [hg]; exact Nat.ne_of_lt (blk_lt BK3.out)); clear HB BK2 BK3; have HB := n0_; have BK2 := n1_; have BK3 := n2_; have BK5 := n3_; have GE5 := n4_; have NB25 := n5_; have NB35 := n6_; clear n0_ n1_ n2_ n3_ n4_ n5_ n6_ hb hbox hg; have hnb_ := NB25.out; have hnc_ := NB25.out.symm; have q0_ : w6.cell? ⟨g2, 0, none⟩ = some (.int .i64 6) := (blk_cell BK2.out 0).trans rfl; have q1_ : w6.cell? ⟨g2, 1, none⟩ = some (.int .i64 a0_1) := (blk_cell BK2.out 1).trans rfl; have q2_ : w6.cell? ⟨g2, 2, none⟩ = some (.int .i64 0) := (blk_cell BK2.out 2).trans rfl; have q3_ : w6.cell? ⟨g2, 3, none⟩ = some (.int .i64 0) := (blk_cell BK2.out 3).trans rfl; have p0_ : w6.cell? ⟨g5, 0, none⟩ = some (.bool false) := (blk_cell BK5.out 0).trans rfl; have p1_ : w6.cell? ⟨g5, 1, none⟩ = some (.bool false) := (blk_cell BK5.out 1).trans rfl; have p2_ : w6.cell? ⟨g5, 2, none⟩ = some (.bool false) := (blk_cell BK5.out 2).trans rfl; have f0_ := blk_frozen BK5.out 0; have f1_ := blk_frozen BK5.out 1; have f2_ := blk_frozen BK5.out 2)
    | (go_at_call 64; with_reducible refine (impl_in.calls 0 0 9999 _ _ HI2.out).mono ?_; rintro e w7 ⟨rfl, hd⟩; have hb := hd.below; clear hd; have n0_ := Aside0.mk (below_step (by repeat (first | exact HB.out | refine below_set ?_ GE5.out)) hb); have n1_ := Aside0.mk (blk_below (o := .cells #[.int .i64 6, .int .i64 a0_1, .int .i64 0, .int .i64 0] 26 (0, 0)) (by repeat (first | exact BK2.out | refine blk_far ?_ NB25.out _)) hb); have n2_ := Aside0.mk (blk_below (o := .cells #[.slice A1 l1.length c1] 24 (0, 0)) (by repeat (first | exact BK3.out | refine blk_far ?_ NB35.out _)) hb); clear HB BK2 BK3 hb; have HB := n0_; have BK2 := n1_; have BK3 := n2_; clear n0_ n1_ n2_; (try clear q0_ q1_ q2_ q3_); have q0_ : w7.cell? ⟨g2, 0, none⟩ = some (.int .i64 6) := (blk_cell BK2.out 0).trans rfl; have q1_ : w7.cell? ⟨g2, 1, none⟩ = some (.int .i64 a0_1) := (blk_cell BK2.out 1).trans rfl; have q2_ : w7.cell? ⟨g2, 2, none⟩ = some (.int .i64 0) := (blk_cell BK2.out 2).trans rfl; have q3_ : w7.cell? ⟨g2, 3, none⟩ = some (.int .i64 0) := (blk_cell BK2.out 3).trans rfl)
    | (go_at_call 86; (try clear HO); with_reducible refine (impl_Term_parts.calls 1 6 a0_1 0 0 _ _ HP.out).mono ?_; rintro e w8 ⟨v8, rfl, ho, hb⟩; have HO := Aside0.mk ho; clear ho; obtain ⟨Ao, co, eo⟩ := Kd.R_slice HO.out; subst eo; have n0_ := Aside0.mk (below_step (by repeat (first | exact HB.out | refine below_set ?_ GE5.out)) hb); have n1_ := Aside0.mk (blk_below (o := .cells #[.int .i64 6, .int .i64 a0_1, .int .i64 0, .int .i64 0] 26 (0, 0)) (by repeat (first | exact BK2.out | refine blk_far ?_ NB25.out _)) hb); have n2_ := Aside0.mk (blk_below (o := .cells #[.slice A1 l1.length c1] 24 (0, 0)) (by repeat (first | exact BK3.out | refine blk_far ?_ NB35.out _)) hb); clear HB BK2 BK3 hb; have HB := n0_; have BK2 := n1_; have BK3 := n2_; clear n0_ n1_ n2_; (try clear q0_ q1_ q2_ q3_); have q0_ : w8.cell? ⟨g2, 0, none⟩ = some (.int .i64 6) := (blk_cell BK2.out 0).trans rfl; have q1_ : w8.cell? ⟨g2, 1, none⟩ = some (.int .i64 a0_1) := (blk_cell BK2.out 1).trans rfl; have q2_ : w8.cell? ⟨g2, 2, none⟩ = some (.int .i64 0) := (blk_cell BK2.out 2).trans rfl; have q3_ : w8.cell? ⟨g2, 3, none⟩ = some (.int .i64 0) := (blk_cell BK2.out 3).trans rfl)
    | (go_at_call 85; refine (slices_ContainsFunc_int64_int64.calls 87 #[.pointer (some ⟨g3, 0, none⟩)] (fun x => !decide (0 ≤ x ∧ x ≤ (l1.length : Int) - 1)) Ao co _ _ (enters_of Try.func87 (by kernel_rfl) rfl) (fun W x _ hB => (impl_fault_1.calls A1 l1.length c1 g3 x HL.out W ((hB.cell (p := ⟨g3, 0, none⟩) (blk_lt BK3.out)).trans ((blk_cell BK3.out 0).trans rfl))).mono (fun _ _ h => ⟨h.1, below_step hB h.2⟩)) (Kd.R_reads' HO.out).2.2 (by simp)).mono ?_; rintro e w9 ⟨he, hb⟩; rw [HANY.out] at he; subst he; have n0_ := Aside0.mk (below_step (by repeat (first | exact HB.out | refine below_set ?_ GE5.out)) hb); have n1_ := Aside0.mk (blk_below (o := .cells #[.int .i64 6, .int .i64 a0_1, .int .i64 0, .int .i64 0] 26 (0, 0)) (by repeat (first | exact BK2.out | refine blk_far ?_ NB25.out _)) hb); have n2_ := Aside0.mk (blk_below (o := .cells #[.slice A1 l1.length c1] 24 (0, 0)) (by repeat (first | exact BK3.out | refine blk_far ?_ NB35.out _)) hb); clear HB BK2 BK3 hb; have HB := n0_; have BK2 := n1_; have BK3 := n2_; clear n0_ n1_ n2_; (try clear q0_ q1_ q2_ q3_); have q0_ : w9.cell? ⟨g2, 0, none⟩ = some (.int .i64 6) := (blk_cell BK2.out 0).trans rfl; have q1_ : w9.cell? ⟨g2, 1, none⟩ = some (.int .i64 a0_1) := (blk_cell BK2.out 1).trans rfl; have q2_ : w9.cell? ⟨g2, 2, none⟩ = some (.int .i64 0) := (blk_cell BK2.out 2).trans rfl; have q3_ : w9.cell? ⟨g2, 3, none⟩ = some (.int .i64 0) := (blk_cell BK2.out 3).trans rfl)
    | (go_at_call 85; refine (slices_ContainsFunc_int64_int64.calls 89 #[.pointer (some ⟨g3, 0, none⟩)] (fun x => (rd_T26 l1 x).f0 != 2) Ao co _ _ (enters_of Try.func89 (by kernel_rfl) rfl) (fun W x hx hB => (impl_fault_2.calls A1 l1 c1 g3 x W ((hB.cell (p := ⟨g3, 0, none⟩) (blk_lt BK3.out)).trans ((blk_cell BK3.out 0).trans rfl)) (Kd.C_below HR.out (below_step HB.out hB)) (HIN.out x hx).1 (HIN.out x hx).2).mono (fun _ _ h => ⟨h.1, below_step hB h.2⟩)) (Kd.R_reads' HO.out).2.2 (by simp)).mono ?_; rintro e w10 ⟨he, hb⟩; rw [HANY2.out] at he; subst he; have n0_ := Aside0.mk (below_step (by repeat (first | exact HB.out | refine below_set ?_ GE5.out)) hb); have n1_ := Aside0.mk (blk_below (o := .cells #[.int .i64 6, .int .i64 a0_1, .int .i64 0, .int .i64 0] 26 (0, 0)) (by repeat (first | exact BK2.out | refine blk_far ?_ NB25.out _)) hb); have n2_ := Aside0.mk (blk_below (o := .cells #[.slice A1 l1.length c1] 24 (0, 0)) (by repeat (first | exact BK3.out | refine blk_far ?_ NB35.out _)) hb); clear HB BK2 BK3 hb; have HB := n0_; have BK2 := n1_; have BK3 := n2_; clear n0_ n1_ n2_; (try clear q0_ q1_ q2_ q3_); have q0_ : w10.cell? ⟨g2, 0, none⟩ = some (.int .i64 6) := (blk_cell BK2.out 0).trans rfl; have q1_ : w10.cell? ⟨g2, 1, none⟩ = some (.int .i64 a0_1) := (blk_cell BK2.out 1).trans rfl; have q2_ : w10.cell? ⟨g2, 2, none⟩ = some (.int .i64 0) := (blk_cell BK2.out 2).trans rfl; have q3_ : w10.cell? ⟨g2, 3, none⟩ = some (.int .i64 0) := (blk_cell BK2.out 3).trans rfl))
  go_ret
  exact ⟨rfl, (by repeat (first | exact HB.out | refine below_set ?_ GE5.out))⟩
set_option maxHeartbeats 4000000 in
set_option maxRecDepth 100000 in
theorem fault_6_ok (a0_1 : Int) (A1 : Option Addr) (c1 : Nat) (l1 : List S26) (w : World) (hr1 : Kd.C k26 w A1 l1.length l1) (hl : l1.length ≤ 9223372036854775807) (hp : ([a0_1] : List Int).any (fun x => !decide (0 ≤ x ∧ x ≤ (l1.length : Int) - 1)) = false) (hq : ([a0_1] : List Int).any (fun x => (rd_T26 l1 x).f0 != 2) = false) :
    Calls Try.prog 53 #[.agg #[.int .i64 6, .int .i64 a0_1, .int .i64 0, .int .i64 0], .slice A1 l1.length c1] w fun e w' => e = .returned (.int .i64 0) ∧ Below w.heap.size w w' := by
  have hmf : ∀ (fn : Fn) (first cap : Array Value) (w : World), (Instr.makeFunc fn first cap).run Try.prog w = .ok (.func fn first cap) w := fun _ _ _ _ => rfl
  have HB := Aside0.mk (Below.refl w.heap.size w)
  have HR := Aside0.mk hr1
  have HL := Aside0.mk hl
  clear hr1 hl
  have HI := Aside0.mk (show impl_in.f 6 1 7 = some true by rw [impl_in_eq]; rfl)
  have HN := Aside0.mk (show impl_namesOf.f 1 6 = some (true, false, false) by simp [impl_namesOf.f, impl_namesOf.j0])
  have HI2 := Aside0.mk (show impl_in.f 0 0 9999 = some true by rw [impl_in_eq]; rfl)
  have HP := Aside0.mk (show impl_Term_parts.f 1 6 a0_1 0 0 = some ([a0_1] : List Int) by simp [impl_Term_parts.f, impl_namesOf.f, impl_namesOf.j0])
  have HANY := Aside0.mk hp
  have HIN := Aside0.mk (fault_in l1 [a0_1] hp)
  clear hp
  have HANY2 := Aside0.mk hq
  clear hq
  go_enter Try.func53, Try.ntmps53
  go_wp2_with (first
    | ((with_reducible refine gate_dst (N := 2) rfl ?_); refine box_event ?hg (N := 2) ?hd (cs := #[.int .i64 6, .int .i64 a0_1, .int .i64 0, .int .i64 0]) (t := 26) ?hr ?_; (case hd => rfl); (case hg => rfl); (case hr => first | (go_simp; done) | (go_simp; rfl)); intro g2 hg w2 hbox hb; have n0_ := Aside0.mk (below_step HB.out hb); have n1_ := Aside0.mk hbox; clear HB; have HB := n0_; have BK2 := n1_; clear n0_ n1_ hb hbox hg)
    | ((with_reducible refine gate_dst (N := 3) rfl ?_); refine box_event ?hg (N := 3) ?hd (cs := #[.slice A1 l1.length c1]) (t := 24) ?hr ?_; (case hd => rfl); (case hg => rfl); (case hr => first | (go_simp; done) | (go_simp; rfl)); intro g3 hg w3 hbox hb; have n0_ := Aside0.mk (below_step HB.out hb); have n1_ := Aside0.mk (blk_below BK2.out hb); have n2_ := Aside0.mk hbox; clear HB BK2; have HB := n0_; have BK2 := n1_; have BK3 := n2_; clear n0_ n1_ n2_ hb hbox hg; have q0_ : w3.cell? ⟨g2, 0, none⟩ = some (.int .i64 6) := (blk_cell BK2.out 0).trans rfl; have q1_ : w3.cell? ⟨g2, 1, none⟩ = some (.int .i64 a0_1) := (blk_cell BK2.out 1).trans rfl; have q2_ : w3.cell? ⟨g2, 2, none⟩ = some (.int .i64 0) := (blk_cell BK2.out 2).trans rfl; have q3_ : w3.cell? ⟨g2, 3, none⟩ = some (.int .i64 0) := (blk_cell BK2.out 3).trans rfl)
    | (go_at_call 64; with_reducible refine (impl_in.calls 6 1 7 _ _ HI.out).mono ?_; rintro e w4 ⟨rfl, hd⟩; have hb := hd.below; clear hd; have n0_ := Aside0.mk (below_step HB.out hb); have n1_ := Aside0.mk (blk_below BK2.out hb); have n2_ := Aside0.mk (blk_below BK3.out hb); clear HB BK2 BK3 hb; have HB := n0_; have BK2 := n1_; have BK3 := n2_; clear n0_ n1_ n2_; clear q0_ q1_ q2_ q3_; have q0_ : w4.cell? ⟨g2, 0, none⟩ = some (.int .i64 6) := (blk_cell BK2.out 0).trans rfl; have q1_ : w4.cell? ⟨g2, 1, none⟩ = some (.int .i64 a0_1) := (blk_cell BK2.out 1).trans rfl; have q2_ : w4.cell? ⟨g2, 2, none⟩ = some (.int .i64 0) := (blk_cell BK2.out 2).trans rfl; have q3_ : w4.cell? ⟨g2, 3, none⟩ = some (.int .i64 0) := (blk_cell BK2.out 3).trans rfl)
    | (go_at_call 84; with_reducible refine (impl_namesOf.calls 1 6 true false false _ HN.out).mono ?_; rintro e w5 ⟨rfl, hb⟩; have n0_ := Aside0.mk (below_step HB.out hb); have n1_ := Aside0.mk (blk_below BK2.out hb); have n2_ := Aside0.mk (blk_below BK3.out hb); clear HB BK2 BK3 hb; have HB := n0_; have BK2 := n1_; have BK3 := n2_; clear n0_ n1_ n2_; clear q0_ q1_ q2_ q3_)
    | ((with_reducible refine gate_dst (N := 5) rfl ?_); refine box_event ?hg (N := 5) ?hd (cs := #[.bool false, .bool false, .bool false]) (t := 116) ?hr ?_; (case hd => rfl); (case hg => rfl); (case hr => first | (go_simp; done) | (go_simp; rfl)); intro g5 hg w6 hbox hb; have n0_ := Aside0.mk (below_step HB.out hb); have n1_ := Aside0.mk (blk_below BK2.out hb); have n2_ := Aside0.mk (blk_below BK3.out hb); have n3_ := Aside0.mk hbox; have n4_ := Aside0.mk (show w.heap.size ≤ g5 by rw [hg]; exact below_size HB.out); have n5_ := Aside0.mk (show g2 ≠ g5 by rw [hg]; exact Nat.ne_of_lt (blk_lt BK2.out)); have n6_ := Aside0.mk (show g3 ≠ g5 by rw [hg]; exact Nat.ne_of_lt (blk_lt BK3.out)); clear HB BK2 BK3; have HB := n0_; have BK2 := n1_; have BK3 := n2_; have BK5 := n3_; have GE5 := n4_; have NB25 := n5_; have NB35 := n6_; clear n0_ n1_ n2_ n3_ n4_ n5_ n6_ hb hbox hg; have hnb_ := NB25.out; have hnc_ := NB25.out.symm; have q0_ : w6.cell? ⟨g2, 0, none⟩ = some (.int .i64 6) := (blk_cell BK2.out 0).trans rfl; have q1_ : w6.cell? ⟨g2, 1, none⟩ = some (.int .i64 a0_1) := (blk_cell BK2.out 1).trans rfl; have q2_ : w6.cell? ⟨g2, 2, none⟩ = some (.int .i64 0) := (blk_cell BK2.out 2).trans rfl; have q3_ : w6.cell? ⟨g2, 3, none⟩ = some (.int .i64 0) := (blk_cell BK2.out 3).trans rfl; have p0_ : w6.cell? ⟨g5, 0, none⟩ = some (.bool false) := (blk_cell BK5.out 0).trans rfl; have p1_ : w6.cell? ⟨g5, 1, none⟩ = some (.bool false) := (blk_cell BK5.out 1).trans rfl; have p2_ : w6.cell? ⟨g5, 2, none⟩ = some (.bool false) := (blk_cell BK5.out 2).trans rfl; have f0_ := blk_frozen BK5.out 0; have f1_ := blk_frozen BK5.out 1; have f2_ := blk_frozen BK5.out 2)
    | (go_at_call 64; with_reducible refine (impl_in.calls 0 0 9999 _ _ HI2.out).mono ?_; rintro e w7 ⟨rfl, hd⟩; have hb := hd.below; clear hd; have n0_ := Aside0.mk (below_step (by repeat (first | exact HB.out | refine below_set ?_ GE5.out)) hb); have n1_ := Aside0.mk (blk_below (o := .cells #[.int .i64 6, .int .i64 a0_1, .int .i64 0, .int .i64 0] 26 (0, 0)) (by repeat (first | exact BK2.out | refine blk_far ?_ NB25.out _)) hb); have n2_ := Aside0.mk (blk_below (o := .cells #[.slice A1 l1.length c1] 24 (0, 0)) (by repeat (first | exact BK3.out | refine blk_far ?_ NB35.out _)) hb); clear HB BK2 BK3 hb; have HB := n0_; have BK2 := n1_; have BK3 := n2_; clear n0_ n1_ n2_; (try clear q0_ q1_ q2_ q3_); have q0_ : w7.cell? ⟨g2, 0, none⟩ = some (.int .i64 6) := (blk_cell BK2.out 0).trans rfl; have q1_ : w7.cell? ⟨g2, 1, none⟩ = some (.int .i64 a0_1) := (blk_cell BK2.out 1).trans rfl; have q2_ : w7.cell? ⟨g2, 2, none⟩ = some (.int .i64 0) := (blk_cell BK2.out 2).trans rfl; have q3_ : w7.cell? ⟨g2, 3, none⟩ = some (.int .i64 0) := (blk_cell BK2.out 3).trans rfl)
    | (go_at_call 86; (try clear HO); with_reducible refine (impl_Term_parts.calls 1 6 a0_1 0 0 _ _ HP.out).mono ?_; rintro e w8 ⟨v8, rfl, ho, hb⟩; have HO := Aside0.mk ho; clear ho; obtain ⟨Ao, co, eo⟩ := Kd.R_slice HO.out; subst eo; have n0_ := Aside0.mk (below_step (by repeat (first | exact HB.out | refine below_set ?_ GE5.out)) hb); have n1_ := Aside0.mk (blk_below (o := .cells #[.int .i64 6, .int .i64 a0_1, .int .i64 0, .int .i64 0] 26 (0, 0)) (by repeat (first | exact BK2.out | refine blk_far ?_ NB25.out _)) hb); have n2_ := Aside0.mk (blk_below (o := .cells #[.slice A1 l1.length c1] 24 (0, 0)) (by repeat (first | exact BK3.out | refine blk_far ?_ NB35.out _)) hb); clear HB BK2 BK3 hb; have HB := n0_; have BK2 := n1_; have BK3 := n2_; clear n0_ n1_ n2_; (try clear q0_ q1_ q2_ q3_); have q0_ : w8.cell? ⟨g2, 0, none⟩ = some (.int .i64 6) := (blk_cell BK2.out 0).trans rfl; have q1_ : w8.cell? ⟨g2, 1, none⟩ = some (.int .i64 a0_1) := (blk_cell BK2.out 1).trans rfl; have q2_ : w8.cell? ⟨g2, 2, none⟩ = some (.int .i64 0) := (blk_cell BK2.out 2).trans rfl; have q3_ : w8.cell? ⟨g2, 3, none⟩ = some (.int .i64 0) := (blk_cell BK2.out 3).trans rfl)
    | (go_at_call 85; refine (slices_ContainsFunc_int64_int64.calls 87 #[.pointer (some ⟨g3, 0, none⟩)] (fun x => !decide (0 ≤ x ∧ x ≤ (l1.length : Int) - 1)) Ao co _ _ (enters_of Try.func87 (by kernel_rfl) rfl) (fun W x _ hB => (impl_fault_1.calls A1 l1.length c1 g3 x HL.out W ((hB.cell (p := ⟨g3, 0, none⟩) (blk_lt BK3.out)).trans ((blk_cell BK3.out 0).trans rfl))).mono (fun _ _ h => ⟨h.1, below_step hB h.2⟩)) (Kd.R_reads' HO.out).2.2 (by simp)).mono ?_; rintro e w9 ⟨he, hb⟩; rw [HANY.out] at he; subst he; have n0_ := Aside0.mk (below_step (by repeat (first | exact HB.out | refine below_set ?_ GE5.out)) hb); have n1_ := Aside0.mk (blk_below (o := .cells #[.int .i64 6, .int .i64 a0_1, .int .i64 0, .int .i64 0] 26 (0, 0)) (by repeat (first | exact BK2.out | refine blk_far ?_ NB25.out _)) hb); have n2_ := Aside0.mk (blk_below (o := .cells #[.slice A1 l1.length c1] 24 (0, 0)) (by repeat (first | exact BK3.out | refine blk_far ?_ NB35.out _)) hb); clear HB BK2 BK3 hb; have HB := n0_; have BK2 := n1_; have BK3 := n2_; clear n0_ n1_ n2_; (try clear q0_ q1_ q2_ q3_); have q0_ : w9.cell? ⟨g2, 0, none⟩ = some (.int .i64 6) := (blk_cell BK2.out 0).trans rfl; have q1_ : w9.cell? ⟨g2, 1, none⟩ = some (.int .i64 a0_1) := (blk_cell BK2.out 1).trans rfl; have q2_ : w9.cell? ⟨g2, 2, none⟩ = some (.int .i64 0) := (blk_cell BK2.out 2).trans rfl; have q3_ : w9.cell? ⟨g2, 3, none⟩ = some (.int .i64 0) := (blk_cell BK2.out 3).trans rfl)
    | (go_at_call 85; refine (slices_ContainsFunc_int64_int64.calls 89 #[.pointer (some ⟨g3, 0, none⟩)] (fun x => (rd_T26 l1 x).f0 != 2) Ao co _ _ (enters_of Try.func89 (by kernel_rfl) rfl) (fun W x hx hB => (impl_fault_2.calls A1 l1 c1 g3 x W ((hB.cell (p := ⟨g3, 0, none⟩) (blk_lt BK3.out)).trans ((blk_cell BK3.out 0).trans rfl)) (Kd.C_below HR.out (below_step HB.out hB)) (HIN.out x hx).1 (HIN.out x hx).2).mono (fun _ _ h => ⟨h.1, below_step hB h.2⟩)) (Kd.R_reads' HO.out).2.2 (by simp)).mono ?_; rintro e w10 ⟨he, hb⟩; rw [HANY2.out] at he; subst he; have n0_ := Aside0.mk (below_step (by repeat (first | exact HB.out | refine below_set ?_ GE5.out)) hb); have n1_ := Aside0.mk (blk_below (o := .cells #[.int .i64 6, .int .i64 a0_1, .int .i64 0, .int .i64 0] 26 (0, 0)) (by repeat (first | exact BK2.out | refine blk_far ?_ NB25.out _)) hb); have n2_ := Aside0.mk (blk_below (o := .cells #[.slice A1 l1.length c1] 24 (0, 0)) (by repeat (first | exact BK3.out | refine blk_far ?_ NB35.out _)) hb); clear HB BK2 BK3 hb; have HB := n0_; have BK2 := n1_; have BK3 := n2_; clear n0_ n1_ n2_; (try clear q0_ q1_ q2_ q3_); have q0_ : w10.cell? ⟨g2, 0, none⟩ = some (.int .i64 6) := (blk_cell BK2.out 0).trans rfl; have q1_ : w10.cell? ⟨g2, 1, none⟩ = some (.int .i64 a0_1) := (blk_cell BK2.out 1).trans rfl; have q2_ : w10.cell? ⟨g2, 2, none⟩ = some (.int .i64 0) := (blk_cell BK2.out 2).trans rfl; have q3_ : w10.cell? ⟨g2, 3, none⟩ = some (.int .i64 0) := (blk_cell BK2.out 3).trans rfl))
  go_ret
  exact ⟨rfl, (by repeat (first | exact HB.out | refine below_set ?_ GE5.out))⟩
def notIn (l : List S26) (x : Int) : Bool := !decide (0 ≤ x ∧ x ≤ (l.length : Int) - 1)
def notFresh (l : List S26) (x : Int) : Bool := (rd_T26 l x).f0 != 2
def tfault (a0 a1 a2 a3 : Int) (l : List S26) : Int :=
  if 1 ≤ a0 ∧ a0 ≤ 7 then
    (if a0 = 1 ∨ a0 = 2 then (if a1 = 0 ∧ a2 = 0 then (if 0 ≤ a3 ∧ a3 ≤ 9999 then 0 else 3) else 1)
    else if a0 = 6 then (if a2 = 0 ∧ a3 = 0 then (if ([a1] : List Int).any (notIn l) = true then 3 else (if ([a1] : List Int).any (notFresh l) = true then 1 else 0)) else 1)
    else (if a3 = 0 then (if ([a1, a2] : List Int).any (notIn l) = true then 3 else (if a0 = 7 then (if ([a1, a2] : List Int).any (notFresh l) = true ∨ a1 > a2 then 1 else 0) else 0)) else 1))
  else 5
def impl_Term_fault.f (a0_0 : Int) (a0_1 : Int) (a0_2 : Int) (a0_3 : Int) (l1 : List S26) : Option Int := some (tfault a0_0 a0_1 a0_2 a0_3 l1)
theorem impl_Term_fault.calls (a0_0 : Int) (a0_1 : Int) (a0_2 : Int) (a0_3 : Int) (A1 : Option Addr) (c1 : Nat) (l1 : List S26) (r : Int) (w : World) (hr1 : Kd.C k26 w A1 l1.length l1) (hc1 : l1.length ≤ c1) (h : impl_Term_fault.f a0_0 a0_1 a0_2 a0_3 l1 = some r) :
    Calls Try.prog 53 #[.agg #[.int .i64 a0_0, .int .i64 a0_1, .int .i64 a0_2, .int .i64 a0_3], .slice A1 l1.length c1] w fun e w' => e = .returned (.int .i64 r) ∧ Below w.heap.size w w' := by
  unfold impl_Term_fault.f at h
  obtain rfl := Option.some.inj h
  clear h
  have hl : l1.length ≤ 9223372036854775807 := hr1.2.1
  unfold tfault
  by_cases hop : 1 ≤ a0_0 ∧ a0_0 ≤ 7
  · rw [if_pos hop]
    have hI : impl_in.f a0_0 1 7 = some true := by rw [impl_in_eq, decide_eq_true hop]
    by_cases hn : a0_0 = 1 ∨ a0_0 = 2
    · rw [if_pos hn]
      have hN : impl_namesOf.f 1 a0_0 = some (false, false, true) := by rcases hn with rfl | rfl <;> simp [impl_namesOf.f, impl_namesOf.j0]
      by_cases ha : a0_1 = 0
      · subst ha
        by_cases hb : a0_2 = 0
        · subst hb
          rw [if_pos ⟨rfl, rfl⟩]
          by_cases h3 : 0 ≤ a0_3 ∧ a0_3 ≤ 9999
          · rw [if_pos h3]
            exact fault_n_ok a0_0 a0_3 A1 c1 l1 w hr1 hl hI hN (by omega) (by omega) (by unfold impl_Term_parts.f; rw [hN]; rfl) h3
          · rw [if_neg h3]; exact fault_n_n a0_0 a0_3 A1 c1 l1 w hr1 hl hI hN h3
        · rw [if_neg (fun h => hb h.2)]; exact fault_n_b a0_0 a0_2 a0_3 A1 c1 l1 w hr1 hl hI hN hb
      · rw [if_neg (fun h => ha h.1)]; exact fault_n_a a0_0 a0_1 a0_2 a0_3 A1 c1 l1 w hr1 hl hI hN ha
    · rw [if_neg hn]
      by_cases h6 : a0_0 = 6
      · subst h6
        rw [if_pos rfl]
        by_cases hb : a0_2 = 0
        · subst hb
          by_cases h3 : a0_3 = 0
          · subst h3
            rw [if_pos ⟨rfl, rfl⟩]
            cases hp : ([a0_1] : List Int).any (notIn l1) with
            | true => exact fault_6_p a0_1 A1 c1 l1 w hr1 hl hp
            | false =>
              cases hq : ([a0_1] : List Int).any (notFresh l1) with
              | true => exact fault_6_r a0_1 A1 c1 l1 w hr1 hl hp hq
              | false => exact fault_6_ok a0_1 A1 c1 l1 w hr1 hl hp hq
          · rw [if_neg (fun h => h3 h.2)]; exact fault_6_f a0_1 a0_3 A1 c1 l1 w hr1 hl h3
        · rw [if_neg (fun h => hb h.1)]; exact fault_6_b a0_1 a0_2 a0_3 A1 c1 l1 w hr1 hl hb
      · rw [if_neg h6]
        have hN : impl_namesOf.f 1 a0_0 = some (true, true, false) := by
          have h1 : ¬ a0_0 = 1 := fun e => hn (.inl e)
          have h2 : (a0_0 == 2) = false := by simpa using (fun e => hn (.inr e) : ¬ a0_0 = 2)
          simp [impl_namesOf.f, impl_namesOf.j0, h1, h2, h6]
        by_cases h3 : a0_3 = 0
        · subst h3
          rw [if_pos rfl]
          have hP : impl_Term_parts.f 1 a0_0 a0_1 a0_2 0 = some ([a0_1, a0_2] : List Int) := by unfold impl_Term_parts.f; rw [hN]; rfl
          cases hp : ([a0_1, a0_2] : List Int).any (notIn l1) with
          | true => exact fault_p_p a0_0 a0_1 a0_2 A1 c1 l1 w hr1 hl hI hN hP hp
          | false =>
            by_cases h7 : a0_0 = 7
            · subst h7
              rw [if_neg (by decide), if_pos rfl]
              cases hq : ([a0_1, a0_2] : List Int).any (notFresh l1) with
              | true => rw [if_pos (.inl rfl)]; exact fault_7_r a0_1 a0_2 A1 c1 l1 w hr1 hl hp hq
              | false =>
                by_cases hg : a0_1 > a0_2
                · rw [if_pos (.inr hg)]; exact fault_7_g a0_1 a0_2 A1 c1 l1 w hr1 hl hp hq hg
                · rw [if_neg (by rintro (h | h); cases h; exact hg h)]; exact fault_7_ok a0_1 a0_2 A1 c1 l1 w hr1 hl hp hq hg
            · rw [if_neg (by decide), if_neg h7]
              exact fault_p_ok a0_0 a0_1 a0_2 A1 c1 l1 w hr1 hl hI hN hP h6 h7 hp
        · rw [if_neg h3]; exact fault_p_f a0_0 a0_1 a0_2 a0_3 A1 c1 l1 w hr1 hl hI hN h3
  · rw [if_neg hop]
    exact fault_text a0_0 a0_1 a0_2 a0_3 A1 c1 l1 w hr1 hl hop
end Go.Proofs.Ytomaeijhljpgdaa.G
namespace Go.Proofs.Ytomaeijhljpgdaa.G
open Go.RowKit Go.Proofs.YtomaeijhljpgdaaW.PrintWords Go.Proofs.YtomaeijhljpgdaaW.PrintLast Go.Proofs.YtomaeijhljpgdaaW.PrintMore
attribute [local go_sem] max2_int min2_int max_two min_two max_three min_three max_four min_four   -- for this text's walks alone
set_option linter.unusedVariables false
set_option linter.unusedSimpArgs false
open Go.Maps (Keyed IsMap isMap_empty atKey_put_same atKey_put_other)
theorem term_laid : laidOutB Try.prog = true := by kernel_rfl
theorem term_row : 26 < Try.prog.types.size := of_decide_eq_true (by kernel_rfl)
theorem term_wide : (match Try.prog.underlying 26 with | some (.array _ _) | some (.struct _) => true | _ => false) = true := by rw [Try.underlying26]
set_option maxRecDepth 100000 in
theorem term_keyed : Keyed Try.prog 26 := Keyed.of_law (deep_law_laid term_laid (m := 2) (by omega) term_row (by kernel_rfl) term_wide)
def wf4 (x : S26) : Bool := (Lit.int .i64 x.f0).wf && (Lit.int .i64 x.f1).wf && (Lit.int .i64 x.f2).wf && (Lit.int .i64 x.f3).wf
theorem term_kt : Try.prog.keyType 26 = true := by kernel_rfl
theorem term_c39 : Try.prog.cellsOf 26 = 4 := by kernel_rfl
theorem term_c2 : Try.prog.cellsOf 2 = 1 := by kernel_rfl
theorem term_sz : ∃ m, Try.prog.types.size = m + 1 := ⟨Try.prog.types.size - 1, by have := term_row; omega⟩
theorem keyOf_term (x : S26) (h : wf4 x = true) : ∃ kl, keyOf Try.prog 26 (.agg #[.int .i64 x.f0, .int .i64 x.f1, .int .i64 x.f2, .int .i64 x.f3]) = some kl := by
  unfold wf4 at h
  simp only [Bool.and_eq_true] at h
  obtain ⟨⟨⟨h0, h1⟩, h2⟩, h3⟩ := h
  obtain ⟨m, hm⟩ := term_sz
  have hf : (Value.agg #[.int .i64 x.f0, .int .i64 x.f1, .int .i64 x.f2, .int .i64 x.f3]).formed Try.prog 26 = true := by
    simp [Value.formed, Try.underlying26, term_c39]
  unfold keyOf
  rw [Try.underlying26]
  simp only [term_kt, hf, Bool.and_self, if_true, hm]
  simp [Program.keyLits, Try.underlying26, Try.underlying2, term_c39, term_c2, Value.cells, h0, h1, h2, h3]
theorem plainElem_bool_inv {H : Type} {P : Program} {e : TypeId} (he : P.underlying e = some .bool) {v : Value} {z : DataW H × List MemPlace} (h : plainElem P e v = some z) : ∃ a, v = .bool a ∧ z = (.lit (.bool a), []) := by
  unfold plainElem at h
  rw [he] at h
  cases v <;> simp at h
  exact ⟨_, rfl, h.symm⟩
theorem wpList_lookup_own_bool {H : Type} {P : Program} (w : World) {ops : Array Oper} {rest : List Oper} {o : Oper} {a : Act} {Q : Exit → Act → World → Prop}
    (hg : o.guard = none) (m x : Operand) (t : TypeId) (hop : o.op = Op.lookup t m x false)
    (k e : TypeId) (K : Keyed P k) (ht : P.underlying t = some (.map k e)) (he : P.underlying e = some .bool) (hz : (zeroValue e).run P w = .ok (.bool false) w) (b n : Nat) (D : DataW H)
    (hm : a.eval m = .map (some b)) (hown : w.ownsMap P k (plainElem P e) b n D) (key : Value) (kl : Lit) (hx : a.eval x = key) (hkey : keyOf P k key = some kl)
    (hK : ∀ c : Bool, D.atKey kl (.lit (.bool false)) = .lit (.bool c) → wpList P ops Q rest (a.put o.dst (.bool c)) w) :
    wpList P ops Q (o :: rest) a w := by
  refine wpList_plain hg fun K' hK' => ?_
  obtain ⟨v, ps, hrun, hv⟩ := hown.lookup K ht hz (plainElem_bool he false) hkey
  obtain ⟨c, rfl, hc⟩ := plainElem_bool_inv he hv
  simp only [Prod.mk.injEq] at hc
  unfold Oper.wp
  simp [execOp, hop, hm, hx, hrun, Result.andThen]
  exact hK' _ _ (hK c hc.1)
theorem own_map_below {w w' : World} {P : Program} {k e : TypeId} {b n : Nat} {D : DataW Unit} (h : w.ownsMap P k (plainElem P e) b n D) (hb : Below w.heap.size w w') : w'.ownsMap P k (plainElem P e) b n D := h.kept (grown_of_below hb none) (by simp)
theorem own_map_set {w : World} {P : Program} {k e : TypeId} {b n : Nat} {D : DataW Unit} (h : w.ownsMap P k (plainElem P e) b n D) {g j : Nat} {u : Value} (hne : b ≠ g) : (w.setCell ⟨g, j, none⟩ u).ownsMap P k (plainElem P e) b n D := by
  obtain ⟨es, clock, hb, r⟩ := h
  exact ⟨es, clock, (Below.heap_setCell w ⟨g, j, none⟩ u b hne).trans hb, r⟩
def eq4 (y x : S26) : Bool := y.f0 == x.f0 && (y.f1 == x.f1 && (y.f2 == x.f2 && (y.f3 == x.f3)))
theorem eq4_iff {y x : S26} : eq4 y x = true ↔ y = x := by
  cases x; cases y; simp [eq4]
def tv (x : S26) : Value := .agg #[.int .i64 x.f0, .int .i64 x.f1, .int .i64 x.f2, .int .i64 x.f3]
theorem tv_inj {x y : S26} (h : tv x = tv y) : x = y := by
  unfold tv at h
  injection h with h
  have h := congrArg Array.toList h
  simp at h
  obtain ⟨h0, h1, h2, h3⟩ := h
  cases x; cases y
  simp_all
def Seen (D : DataW Unit) (pre : List S26) : Prop := ∀ (y : S26) (kl : Lit), keyOf Try.prog 26 (tv y) = some kl → D.atKey kl (.lit (.bool false)) = .lit (.bool (pre.any (eq4 y)))
theorem seen_nil : Seen (.map []) [] := fun y kl _ => rfl
theorem seen_put {D : DataW Unit} {pre : List S26} {x : S26} {kl : Lit} (h : Seen D pre) (hD : IsMap D) (hx : keyOf Try.prog 26 (tv x) = some kl) : Seen (D.put kl (.lit (.bool true))) (pre ++ [x]) := by
  intro y kl' hy
  rw [List.any_append]
  by_cases e : kl' = kl
  · subst e
    have : y = x := tv_inj (term_keyed.inj hy hx)
    subst this
    rw [atKey_put_same hD (term_keyed.key hx)]
    have : [y].any (eq4 y) = true := by simp [eq4]
    rw [this, Bool.or_true]
  · rw [atKey_put_other e, h y kl' hy]
    have : [x].any (eq4 y) = false := by
      simp only [List.any_cons, List.any_nil, Bool.or_false]
      cases hq : eq4 y x
      · rfl
      · exact absurd (by rw [eq4_iff.1 hq, hx] at hy; exact (Option.some.inj hy).symm) e
    rw [this, Bool.or_false]
def TFs : List S26 → List S26 → Int
  | _, [] => 0
  | pre, x :: r => if tfault x.f0 x.f1 x.f2 x.f3 pre = 0 then (if pre.any (eq4 x) = true then 7 else TFs (pre ++ [x]) r) else tfault x.f0 x.f1 x.f2 x.f3 pre
def impl_TermsFault.f (l0 : List S26) : Option Int := if l0.all wf4 = true then some (if 400 < l0.length then 2 else TFs [] l0) else none
theorem C_take39 {w W : World} {A : Option Addr} {l : List S26} (h : Kd.C k26 w A l.length l) (hb : Below w.heap.size w W) (k : Nat) : Kd.C k26 W A (l.take k).length (l.take k) := by
  obtain ⟨h1, h2, h3⟩ := Kd.C_below h hb
  refine ⟨rfl, by rw [List.length_take]; omega, fun hp => ?_⟩
  obtain ⟨ad, e, hh⟩ := h3 (by rw [List.length_take] at hp; omega)
  refine ⟨ad, e, fun j p hj => hh j p ?_⟩
  rw [List.getElem?_take] at hj
  split at hj
  · exact hj
  · cases hj
set_option maxHeartbeats 8000000 in
set_option maxRecDepth 100000 in
theorem impl_TermsFault.calls (A0 : Option Addr) (c0 : Nat) (l0 : List S26) (r : Int) (w : World) (hr0 : Kd.C k26 w A0 l0.length l0) (hc0 : l0.length ≤ c0) (h : impl_TermsFault.f l0 = some r) :
    Calls Try.prog 14 #[.slice A0 l0.length c0] w fun e w' => e = .returned (.int .i64 r) ∧ Below w.heap.size w w' := by
  unfold impl_TermsFault.f at h
  by_cases hwf : l0.all wf4 = true
  · rw [if_pos hwf] at h
    obtain rfl := Option.some.inj h
    clear h
    have HW := Aside0.mk hwf
    have HR := Aside0.mk hr0
    have HC := Aside0.mk hc0
    have HB := Aside0.mk (Below.refl w.heap.size w)
    clear hr0 hc0 hwf
    by_cases hbig : 400 < l0.length
    · rw [if_pos hbig]
      have hb0 : decide ((l0.length : Int) > 400) = true := decide_eq_true (by omega)
      have hb1 : decide ((400 : Int) < (l0.length : Int)) = true := decide_eq_true (by omega)
      go_enter Try.func14, Try.ntmps14
      go_wp2
      go_ret
      exact ⟨rfl, HB.out⟩
    · rw [if_neg hbig]
      have hb0 : decide ((l0.length : Int) > 400) = false := decide_eq_false (by omega)
      have hb1 : decide ((400 : Int) < (l0.length : Int)) = false := decide_eq_false (by omega)
      have hl : l0.length ≤ 400 := by omega
      have hmm := @run_makeMap
      go_enter Try.func14, Try.ntmps14
      go_wp2_with fail
      have HO : Aside0 ((w.alloc (.map #[] 0)).ownsMap Try.prog 26 (plainElem (H := Unit) Try.prog 4) w.heap.size 0 (.map [])) := Aside0.mk (World.ownsMap_made w _ _ _)
      have n0_ := Aside0.mk (below_alloc (o := .map #[] 0) HB.out)
      clear HB
      have HB := n0_
      clear n0_
      obtain ⟨B, hB⟩ : ∃ B, B = w.heap.size := ⟨_, rfl⟩
      have GB : Aside0 (w.heap.size ≤ B) := ⟨by omega⟩
      rw [← hB] at HO ⊢
      clear hB
      go_loopg [13] l0.length (fun gg s13 wr => ∃ (kk : Nat) (D : DataW Unit), kk ≤ l0.length ∧ l0.length - kk ≤ gg ∧ s13 = .int .i64 kk ∧ Aside0 (TFs (l0.take kk) (l0.drop kk) = TFs [] l0) ∧ Aside0 (wr.ownsMap Try.prog 26 (plainElem Try.prog 4) B kk D) ∧ Aside0 (IsMap D) ∧ Aside0 (Seen D (l0.take kk)) ∧ Aside0 (Below w.heap.size w wr))
      case atStart => exact ⟨0, .map [], Nat.zero_le _, by omega, rfl, ⟨rfl⟩, HO, ⟨isMap_empty⟩, ⟨seen_nil⟩, HB⟩
      case round =>
        clear HO HB
        obtain ⟨kk, D, hkn, hgg, rfl, HT, HO, HD, HS, HB⟩ := hrel
        by_cases hlt : kk < l0.length
        · have hltz : (kk : Int) < (l0.length : Int) := by omega
          have hltd : decide ((kk : Int) < (l0.length : Int)) = true := decide_eq_true hltz
          obtain ⟨ad, e, hx0, hx1, hx2, hx3⟩ := at_T26 (Kd.C_below HR.out HB.out) (kk : Int) (by omega) (by omega)
          rw [Int.toNat_natCast] at hx0 hx1 hx2 hx3
          subst e
          have hm : rd_T26 l0 (kk : Int) = l0[kk] := by simp [rd_T26, List.getD, List.getElem?_eq_getElem hlt]
          have htk : l0.take (kk + 1) = l0.take kk ++ [rd_T26 l0 (kk : Int)] := by rw [hm, List.take_succ_eq_append_getElem hlt]
          have hdr : l0.drop kk = rd_T26 l0 (kk : Int) :: l0.drop (kk + 1) := by rw [hm, List.drop_eq_getElem_cons hlt]
          have hxw : wf4 (rd_T26 l0 (kk : Int)) = true := by rw [hm]; exact List.all_eq_true.1 HW.out _ (List.getElem_mem hlt)
          have ht := HT.out
          rw [hdr] at ht
          simp only [TFs] at ht
          have HTK := Aside0.mk htk
          clear hm htk hdr HT
          generalize rd_T26 l0 (kk : Int) = x at hx0 hx1 hx2 hx3 hxw ht HTK
          obtain ⟨kl, hkl⟩ := keyOf_term x hxw
          have HK := Aside0.mk (show keyOf Try.prog 26 (tv x) = some kl from hkl)
          clear hkl hxw
          obtain ⟨c, hc⟩ : ∃ c, c = tfault x.f0 x.f1 x.f2 x.f3 (l0.take kk) := ⟨_, rfl⟩
          have HF := Aside0.mk (show impl_Term_fault.f x.f0 x.f1 x.f2 x.f3 (l0.take kk) = some c by rw [hc]; rfl)
          rw [← hc] at ht
          clear hc
          have hkc : kk ≤ c0 := by have := HC.out; omega
          obtain ⟨y, hy⟩ : ∃ y, y = l0.take kk := ⟨_, rfl⟩
          have hyl : y.length = ((kk : Nat) : Int).toNat := by rw [hy, List.length_take]; omega
          have hCy := C_take39 HR.out (Below.refl _ w) kk
          rw [← hy] at HS HTK HF ht hCy
          have HCY := Aside0.mk hCy
          have HY := Aside0.mk hyl
          obtain ⟨i0, hi0, _, hsz0, _⟩ := info_parts info26
          have hcut := cut_to (P := Try.prog) 24 26 .i64 Try.underlying24 hi0 (some ad) l0.length c0 (kk : Int) (by omega) (by omega) HC.out
          rw [← hyl] at hcut
          clear hi0 hsz0 hCy
          have HYE := Aside0.mk hy
          clear hy hyl
          go_wp2_with (first | ((with_reducible refine gate_dst (N := 5) rfl ?_); refine box_event ?hg (N := 5) ?hd (cs := #[.int .i64 0, .int .i64 0, .int .i64 0, .int .i64 0]) (t := 26) ?hr ?_; (case hd => rfl); (case hg => rfl); (case hr => first | (go_simp; done) | (go_simp; rfl)); intro g5 hg w3 hbox hb; have n0_ := Aside0.mk (below_step HB.out hb); have n1_ := Aside0.mk hbox; have n2_ := Aside0.mk (show w.heap.size ≤ g5 by rw [hg]; exact below_size HB.out); have n3_ := Aside0.mk (show B ≠ g5 by rw [hg]; exact Nat.ne_of_lt HO.out.lt); have n4_ := Aside0.mk (own_map_below HO.out hb); replace hx0 := (hb.cell (World.block_lt_of_cell? wr _ hx0)).trans hx0; replace hx1 := (hb.cell (World.block_lt_of_cell? wr _ hx1)).trans hx1; replace hx2 := (hb.cell (World.block_lt_of_cell? wr _ hx2)).trans hx2; replace hx3 := (hb.cell (World.block_lt_of_cell? wr _ hx3)).trans hx3; clear HB HO; have HB := n0_; have BK5 := n1_; have GE5 := n2_; have NE5 := n3_; have HO := n4_; clear n0_ n1_ n2_ n3_ n4_ hb hbox hg; have p0_ : w3.cell? ⟨g5, 0, none⟩ = some (.int .i64 0) := (blk_cell BK5.out 0).trans rfl; have p1_ : w3.cell? ⟨g5, 1, none⟩ = some (.int .i64 0) := (blk_cell BK5.out 1).trans rfl; have p2_ : w3.cell? ⟨g5, 2, none⟩ = some (.int .i64 0) := (blk_cell BK5.out 2).trans rfl; have p3_ : w3.cell? ⟨g5, 3, none⟩ = some (.int .i64 0) := (blk_cell BK5.out 3).trans rfl; have f0_ := blk_frozen BK5.out 0; have f1_ := blk_frozen BK5.out 1; have f2_ := blk_frozen BK5.out 2; have f3_ := blk_frozen BK5.out 3))
          have n0_ := Aside0.mk (blk_put (blk_put (blk_put (blk_put BK5.out 0 (.int .i64 x.f0) rfl) 1 (.int .i64 x.f1) rfl) 2 (.int .i64 x.f2) rfl) 3 (.int .i64 x.f3) rfl)
          have n1_ := Aside0.mk (own_map_set (own_map_set (own_map_set (own_map_set HO.out NE5.out (j := 0) (u := .int .i64 x.f0)) NE5.out (j := 1) (u := .int .i64 x.f1)) NE5.out (j := 2) (u := .int .i64 x.f2)) NE5.out (j := 3) (u := .int .i64 x.f3))
          have n2_ := Aside0.mk (below_set (j := 3) (v := .int .i64 x.f3) (below_set (j := 2) (v := .int .i64 x.f2) (below_set (j := 1) (v := .int .i64 x.f1) (below_set (j := 0) (v := .int .i64 x.f0) HB.out GE5.out) GE5.out) GE5.out) GE5.out)
          clear BK5 HO HB hx0 hx1 hx2 hx3 p0_ p1_ p2_ p3_ f0_ f1_ f2_ f3_
          have BK5 := n0_; have HO := n1_; have HB := n2_
          clear n0_ n1_ n2_
          generalize (w3.setCell ⟨g5, 0, none⟩ (.int .i64 x.f0) |>.setCell ⟨g5, 1, none⟩ (.int .i64 x.f1) |>.setCell ⟨g5, 2, none⟩ (.int .i64 x.f2) |>.setCell ⟨g5, 3, none⟩ (.int .i64 x.f3)) = w4 at BK5 HO HB ⊢
          have n0_ := Aside0.mk (blk_drew BK5.out)
          have n1_ := Aside0.mk (below_drew1 HB.out)
          have n2_ := Aside0.mk (World.ownsMap.drew HO.out)
          clear BK5 HB HO
          have BK5 := n0_; have HB := n1_; have HO := n2_
          clear n0_ n1_ n2_
          refine start_ (n := 6) (S := fun w' => w'.cell? ⟨g5, 0, none⟩ = some (.int .i64 x.f0) ∧ w'.cell? ⟨g5, 1, none⟩ = some (.int .i64 x.f1) ∧ w'.cell? ⟨g5, 2, none⟩ = some (.int .i64 x.f2) ∧ w'.cell? ⟨g5, 3, none⟩ = some (.int .i64 x.f3)) (ds := []) #[false, false, false, false, false, false] (by kernel_rfl) rfl rfl ⟨(blk_cell BK5.out 0).trans rfl, (blk_cell BK5.out 1).trans rfl, (blk_cell BK5.out 2).trans rfl, (blk_cell BK5.out 3).trans rfl⟩ (fun hHeld => ?_)
          generalize w4.drew = w5 at BK5 HB HO hHeld ⊢
          refine take_ (i := 0) (N := some 18) (v := ?_) (a' := ?_) #[true, false, false, false, false, false] rfl rfl (by kernel_rfl) (fun _ _ _ h => h) (Or.inl ⟨by rfl, ?_⟩) hHeld ?_ ?_
          rotate_left
          · rintro w' ⟨s0, s1, s2, s3⟩
            go_simp
            with_reducible rfl
          rotate_left
          · simp only [Act.put, lA_, lZ_, lS_, i64_w, i32_w]
            rfl
          refine pure_ (i := 1) (N := some 19) (v := ?_) (a' := ?_) #[true, true, false, false, false, false] rfl rfl (by kernel_rfl) (fun _ _ _ h => h) (Or.inl ⟨by rfl, ?_⟩) ?_ ?_
          rotate_left
          · intro w'
            go_simp
            with_reducible rfl
          rotate_left
          · simp only [Act.put, lA_, lZ_, lS_, i64_w, i32_w]
            rfl
          refine pure_ (i := 2) (N := some 20) (v := ?_) (a' := ?_) #[true, true, true, false, false, false] rfl rfl (by kernel_rfl) (fun _ _ _ h => h) (Or.inl ⟨by rfl, ?_⟩) ?_ ?_
          rotate_left
          · intro w'
            go_simp
            with_reducible rfl
          rotate_left
          · simp only [Act.put, lA_, lZ_, lS_, i64_w, i32_w]
            rfl
          refine pure_ (i := 3) (N := some 21) (v := ?_) (a' := ?_) #[true, true, true, true, false, false] rfl rfl (by kernel_rfl) (fun _ _ _ h => h) (Or.inl ⟨by rfl, ?_⟩) ?_ ?_
          rotate_left
          · intro w'
            go_simp
            with_reducible rfl
          rotate_left
          · simp only [Act.put, lA_, lZ_, lS_, i64_w, i32_w]
            rfl
          refine one_ (i := 4) (N := some 22) #[true, true, true, true, true, false] rfl rfl (by kernel_rfl) (by decide) (fun K hK => ?_)
          refine goes_ Try.func53 (by kernel_rfl) rfl #[.agg #[.int .i64 x.f0, .int .i64 x.f1, .int .i64 x.f2, .int .i64 x.f3], .slice (some ad) y.length c0] (by rfl) rfl rfl (by (try simp only [List.map_toArray, List.map_cons, List.map_nil]); first | done | rfl) ?_
          with_reducible refine (impl_Term_fault.calls x.f0 x.f1 x.f2 x.f3 (some ad) c0 y c _ (Kd.C_below HCY.out HB.out) (by have := HY.out; omega) HF.out).mono ?_
          rintro e w6 ⟨rfl, hb⟩
          refine ⟨_, rfl, ?_⟩
          have n0_ := Aside0.mk (blk_below BK5.out hb)
          have n1_ := Aside0.mk (below_step HB.out hb)
          have n2_ := Aside0.mk (own_map_below HO.out hb)
          clear BK5 HB HO hb
          have BK5 := n0_; have HB := n1_; have HO := n2_
          clear n0_ n1_ n2_
          refine hK.out _ _ ⟨(blk_cell BK5.out 0).trans rfl, (blk_cell BK5.out 1).trans rfl, (blk_cell BK5.out 2).trans rfl, (blk_cell BK5.out 3).trans rfl⟩ (fun hHeld => ?_)
          clear hK K
          refine norm_ (a' := ?_) ?_ ?_
          rotate_left
          · show Act.put _ (some 22) _ = _
            simp only [Act.put, lA_, lZ_, lS_, i64_w, i32_w]
            rfl
          refine pure_ (i := 5) (N := some 6) (v := ?_) (a' := ?_) #[true, true, true, true, true, true] rfl rfl (by kernel_rfl) (fun _ _ _ h => h) (Or.inl ⟨by rfl, ?_⟩) ?_ ?_
          rotate_left
          · intro w'
            go_simp
            with_reducible rfl
          rotate_left
          · simp only [Act.put, lA_, lZ_, lS_, i64_w, i32_w]
            rfl
          refine done_ (by kernel_rfl) ?_
          have p0_ : w6.cell? ⟨g5, 0, none⟩ = some (.int .i64 x.f0) := (blk_cell BK5.out 0).trans rfl; have p1_ : w6.cell? ⟨g5, 1, none⟩ = some (.int .i64 x.f1) := (blk_cell BK5.out 1).trans rfl; have p2_ : w6.cell? ⟨g5, 2, none⟩ = some (.int .i64 x.f2) := (blk_cell BK5.out 2).trans rfl; have p3_ : w6.cell? ⟨g5, 3, none⟩ = some (.int .i64 x.f3) := (blk_cell BK5.out 3).trans rfl
          clear hcut
          by_cases hc0 : c = 0
          · have hc1 : (c != 0) = false := by simpa using hc0
            have hc2 : (c == 0) = true := by simpa using hc0
            rw [if_pos hc0] at ht
            cases hq : y.any (eq4 x) with
            | true =>
              rw [hq, if_pos rfl] at ht
              go_wp2_with (first | (at_lookup; refine wpList_lookup_own_bool (H := Unit) _ rfl (.tmp 26) (.tmp 27) 83 rfl 26 4 term_keyed Try.underlying83 Try.underlying4 rfl B kk D rfl HO.out _ kl rfl HK.out ?_; intro c1 hat; have hc3 : c1 = y.any (eq4 x) := (by have := (HS.out x kl HK.out).symm.trans hat; injection this with this; injection this with this; exact this.symm); rw [hq] at hc3; subst hc3; clear hat))
              go_ret
              exact ⟨by rw [← ht]; rfl, HB.out⟩
            | false =>
              rw [hq, if_neg (by decide)] at ht
              go_wp2_with (first | (at_lookup; refine wpList_lookup_own_bool (H := Unit) _ rfl (.tmp 26) (.tmp 27) 83 rfl 26 4 term_keyed Try.underlying83 Try.underlying4 rfl B kk D rfl HO.out _ kl rfl HK.out ?_; intro c1 hat; have hc3 : c1 = y.any (eq4 x) := (by have := (HS.out x kl HK.out).symm.trans hat; injection this with this; injection this with this; exact this.symm); rw [hq] at hc3; subst hc3; clear hat) | (at_mapUpdate; refine wpList_mapUpdate_own (H := Unit) _ rfl (.tmp 29) (.tmp 30) (.const (.bool true)) 83 rfl 26 4 term_keyed Try.underlying83 (plainElem Try.prog 4) B kk D rfl HO.out (by show kk < 9223372036854775807; omega) _ _ kl rfl rfl HK.out (.lit (.bool true)) [] (plainElem_bool Try.underlying4 true) ?_; intro w7 ho7 hg7))
              go_roundg (l0.length - (kk + 1))
              case measure => omega
              case rel =>
                refine ⟨kk + 1, D.put kl (.lit (.bool true)), by omega, by omega, by go_num, ⟨by rw [HTK.out]; exact ht⟩, ⟨ho7⟩, ⟨HD.out.put _ _⟩, ⟨by rw [HTK.out]; exact seen_put HS.out HD.out HK.out⟩, ⟨pw_below_grown HB.out (some B) (below_size HB.out) hg7 (fun k hk => by injection hk with hk; rw [← hk]; exact GB.out)⟩⟩
          · have hc1 : (c != 0) = true := by simpa using hc0
            have hc2 : (c == 0) = false := by simpa using hc0
            rw [if_neg hc0] at ht
            go_wp2_with fail
            go_ret
            exact ⟨by rw [ht]; rfl, HB.out⟩
        · have hltd : decide ((kk : Int) < (l0.length : Int)) = false := decide_eq_false (by omega)
          obtain rfl : kk = l0.length := by omega
          have ht := HT.out
          rw [List.drop_length] at ht
          go_wp2_with fail
          go_ret
          exact ⟨by rw [← ht]; rfl, HB.out⟩
  · rw [if_neg hwf] at h; cases h
end Go.Proofs.Ytomaeijhljpgdaa.G
